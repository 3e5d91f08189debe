/- Arguments that are lists of points, opened to their numbers. -/
import Derived.Test.YtdcbpgpjiacomaaDoorOpen
import Derived.Test.YtdcbpgpjiacomaaDoorOpen2
import Derived.Test.YtdcbpgpjiacomaaDoorPts
import Derived.Deep.Slices
import Derived.Deep.Fields
import Derived.ChangeSame
namespace Go.Proofs.YtdcbpgpjiacomaaDoor
open Go.ChangeShapes Go.WideShapes Go.ChangeAt Go.RowKit Go.Deep
set_option linter.unusedVariables false
set_option linter.unusedSimpArgs false

section
variable {H : Type} {enc : TypeId × Value → H} {P : Program} {w : World} {base : Nat} {spare : Nat → Bool} {held : Bool}
theorem open_slice_fields {t e : TypeId} {fs : Array Field} {fuel : Nat} {cs : List Value} {x : DataW H × List MemPlace} (ht : P.underlying t = some (.slice e)) (he : P.underlying e = some (.struct fs))
    (hone : oneCellFields P fs = true) (hC : P.cellsOf e = fs.size) (h : DataW.trod enc P w base spare held fuel t cs = some x) :
    (cs = [.slice none 0 0] ∧ x = (.nil, [])) ∨
    ∃ (a : Addr) (len cap m : Nat) (D : Nat → DataW H) (Pl : Nat → List MemPlace), cs = [.slice (some a) len cap] ∧ base ≤ a.block ∧ len ≤ cap ∧ cap ≤ maxLen ∧ m = (if spare a.block then cap else len) ∧
      x = (.slice ((List.range len).map D) ((List.range (m - len)).map fun j => D (len + j)), MemPlace.row a (m * fs.size) ++ (List.range m).flatMap Pl) ∧
      ∀ i, i < m → ∃ (ys : List (DataW H × List MemPlace)) (n : Nat), D i = .agg (ys.map (·.1)) ∧ Pl i = ys.flatMap (·.2) ∧ ys.length = fs.size ∧
        ∀ (j : Nat) (f : Field), fs[j]? = some f → ∃ (v : Value) (y : DataW H × List MemPlace), w.cell? (a.add (i * fs.size + j)) = some v ∧ ys[j]? = some y ∧ DataW.trod enc P w base spare held n f.type [v] = some y := by
  rcases open_slice ht h with h0 | ⟨a, len, cap, m, n, D, Pl, hcs, hb, hl, hm, hmm, hx, hi⟩
  · exact .inl h0
  · refine .inr ⟨a, len, cap, m, D, Pl, hcs, hb, hl, hm, hmm, by rw [hC] at hx; exact hx, fun i him => ?_⟩
    obtain ⟨cs', hc, ht'⟩ := hi i him
    rw [hC] at hc
    obtain ⟨ys, n', hn', hy, hlen, hyl, hf⟩ := DataW.trod_struct he ht'
    obtain ⟨_, hcl, hat⟩ := World.cells?_some hc
    simp only [Prod.mk.injEq] at hy
    refine ⟨ys, n', hy.1, hy.2, hyl, fun j f hj => ?_⟩
    obtain ⟨ho, hk⟩ := hone_of hone j f hj
    have hjl : j < fs.size := (Array.getElem?_eq_some_iff.1 hj).1
    have hcell := hat j hjl
    have hv : cs'[j]? = some (cs'[j]'(by omega)) := List.getElem?_eq_getElem (by omega)
    have h1 := hf j f hj
    rw [ho, hk] at h1
    have hone' : (cs'.drop j).take 1 = [cs'[j]'(by omega)] := by
      rw [List.drop_eq_getElem_cons (by omega)]
      rfl
    rw [hone'] at h1
    have hys : ys[j]? = some (ys[j]'(by omega)) := List.getElem?_eq_getElem (by omega)
    refine ⟨_, _, ?_, hys, h1.trans hys⟩
    rw [← Go.Deep.add_add, hcell, hv]
def numAt (W : World) (a : Addr) (j : Nat) : Int := match W.cell? (a.add j) with | some (.int _ z) => z | _ => 0
theorem open_pts {t e : TypeId} {f0 f1 f2 : Field} {fuel : Nat} {cs : List Value} {x : DataW H × List MemPlace} (ht : P.underlying t = some (.slice e)) (he : P.underlying e = some (.struct #[f0, f1, f2]))
    (h0 : P.underlying f0.type = some (.int .i64)) (h1 : P.underlying f1.type = some (.int .i64)) (h2 : P.underlying f2.type = some (.int .i64))
    (h : DataW.trod enc P w base spare held fuel t cs = some x) (hone : oneCellFields P #[f0, f1, f2] = true) (hC : P.cellsOf e = 3) :
    ∃ a n c zs, cs = [.slice a n c] ∧ Px w a n c zs := by
  rcases open_slice_fields ht he hone hC h with ⟨rfl, _⟩ | ⟨a, len, cap, m, D, Pl, rfl, hb, hl, hm, hmm, _, hi⟩
  · exact ⟨none, 0, 0, [], rfl, ⟨rfl, Nat.le_refl _, Nat.zero_le _, fun h => absurd h (by simp)⟩⟩
  · have hc : ∀ j, j < 3 * len → ∃ z, w.cell? (a.add j) = some (.int .i64 z) := by
      intro j hj
      have him : j / 3 < m := by rw [hmm]; split <;> omega
      obtain ⟨ys, n, _, _, _, hf⟩ := hi (j / 3) him
      have e : j = j / 3 * 3 + j % 3 := by omega
      have h3 : j % 3 = 0 ∨ j % 3 = 1 ∨ j % 3 = 2 := by omega
      rcases h3 with h3 | h3 | h3
      · obtain ⟨v, y, c1, _, c2⟩ := hf 0 f0 rfl
        obtain ⟨z, hz, _⟩ := DataW.trod_int h0 c2
        simp at hz; subst hz
        exact ⟨z, by rw [e, h3]; exact c1⟩
      · obtain ⟨v, y, c1, _, c2⟩ := hf 1 f1 rfl
        obtain ⟨z, hz, _⟩ := DataW.trod_int h1 c2
        simp at hz; subst hz
        exact ⟨z, by rw [e, h3]; exact c1⟩
      · obtain ⟨v, y, c1, _, c2⟩ := hf 2 f2 rfl
        obtain ⟨z, hz, _⟩ := DataW.trod_int h2 c2
        simp at hz; subst hz
        exact ⟨z, by rw [e, h3]; exact c1⟩
    refine ⟨some a, len, cap, (List.range (3 * len)).map (numAt w a), rfl, ⟨by simp, hl, hm, fun hp => ?_⟩⟩
    have hp' : 0 < 3 * len := by simpa using hp
    obtain ⟨b, off, spot⟩ := a
    obtain ⟨z0, hz0⟩ := hc 0 hp'
    have hspot : spot = none := by simpa [Addr.add] using World.cell?_spot hz0
    subst hspot
    have hadd : ∀ j, (Addr.mk b off none).add j = ⟨b, off + j, none⟩ := fun j => by
      by_cases hj : j = 0
      · subst hj; rfl
      · simp [Addr.add, hj]
    refine ⟨b, off, rfl, ?_, fun j hj => ?_⟩
    · rcases Nat.lt_or_ge b w.heap.size with h' | h'
      · exact h'
      · rw [hadd] at hz0
        simp [World.cell?, Array.getElem?_eq_none (by simpa using h')] at hz0
    · have hj' : j < 3 * len := by simpa using hj
      obtain ⟨z, hz⟩ := hc j hj'
      have : numAt w ⟨b, off, none⟩ j = z := by unfold numAt; rw [hz]
      rw [List.getD_eq_getElem?_getD, List.getElem?_map, List.getElem?_range hj', Option.map_some, Option.getD_some, this, ← hz, hadd]
/-- a certificate: a curve, a list of points, a fraction -/
theorem open_cert {t e : TypeId} {f0 f1 f2 a0 a1 b0 b1 p0 p1 p2 : Field} {fuel : Nat} {cs : List Value} {x : DataW H × List MemPlace} (hs : P.underlying t = some (.struct #[f0, f1, f2]))
    (hc : P.underlying f0.type = some (.struct #[a0, a1])) (hl : P.underlying f1.type = some (.slice e)) (hf : P.underlying f2.type = some (.struct #[b0, b1])) (he : P.underlying e = some (.struct #[p0, p1, p2]))
    (ha0 : P.underlying a0.type = some (.int .i64)) (ha1 : P.underlying a1.type = some (.int .i64)) (hb0 : P.underlying b0.type = some (.int .i64)) (hb1 : P.underlying b1.type = some (.int .i64))
    (hp0 : P.underlying p0.type = some (.int .i64)) (hp1 : P.underlying p1.type = some (.int .i64)) (hp2 : P.underlying p2.type = some (.int .i64))
    (h : DataW.trod enc P w base spare held fuel t cs = some x) (o : f0.offset = 0 ∧ f1.offset = 2 ∧ f2.offset = 3) (oa : a0.offset = 0 ∧ a1.offset = 1) (ob : b0.offset = 0 ∧ b1.offset = 1)
    (c : P.cellsOf f0.type = 2 ∧ P.cellsOf f1.type = 1 ∧ P.cellsOf f2.type = 2) (ca : P.cellsOf a0.type = 1 ∧ P.cellsOf a1.type = 1) (cb : P.cellsOf b0.type = 1 ∧ P.cellsOf b1.type = 1)
    (hone : oneCellFields P #[p0, p1, p2] = true) (hC : P.cellsOf t = 5) (hCe : P.cellsOf e = 3) :
    ∃ (A B n d : Int) (a : Option Addr) (ln cp : Nat) (zs : List Int), cs = [.int .i64 A, .int .i64 B, .slice a ln cp, .int .i64 n, .int .i64 d] ∧ Px w a ln cp zs := by
  obtain ⟨xs, n, _, hx, hlen, hxl, hg⟩ := DataW.trod_struct hs h
  rw [hC] at hlen
  match cs, hlen with
  | [u0, u1, u2, u3, u4], _ =>
    have e0 := hg 0 f0 rfl
    have e1 := hg 1 f1 rfl
    have e2 := hg 2 f2 rfl
    rw [o.1, c.1] at e0
    rw [o.2.1, c.2.1] at e1
    rw [o.2.2, c.2.2] at e2
    rw [List.getElem?_eq_getElem (by rw [hxl]; simp)] at e0
    rw [List.getElem?_eq_getElem (by rw [hxl]; simp)] at e1
    rw [List.getElem?_eq_getElem (by rw [hxl]; simp)] at e2
    obtain ⟨A, B, h1, _, _⟩ := open_ii hc ha0 ha1 e0 oa ca c.1
    obtain ⟨N, D, h3, _, _⟩ := open_ii hf hb0 hb1 e2 ob cb c.2.2
    obtain ⟨a, ln, cp, zs, h2, hpx⟩ := open_pts hl he hp0 hp1 hp2 e1 hone hCe
    simp at h1 h2 h3
    obtain ⟨rfl, rfl⟩ := h1
    obtain ⟨rfl, rfl⟩ := h3
    subst h2
    exact ⟨A, B, N, D, a, ln, cp, zs, rfl, hpx⟩
end
end Go.Proofs.YtdcbpgpjiacomaaDoor
