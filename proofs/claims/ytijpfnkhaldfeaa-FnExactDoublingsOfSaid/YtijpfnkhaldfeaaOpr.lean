/- Arguments that are ratios (two whole numbers, each a flag and a row of integers), opened to their numbers. -/
import Derived.Test.YtijpfnkhaldfeaaOpen
import Derived.Test.YtijpfnkhaldfeaaSl
import Derived.Deep.Slices
namespace Go.Proofs.Ytijpfnkhaldfeaa
open Go.ChangeShapes Go.WideShapes Go.ChangeAt Go.RowKit Go.Deep
set_option linter.unusedVariables false
set_option linter.unusedSimpArgs false
section
variable {H : Type} {enc : TypeId × Value → H} {P : Program} {w : World} {base : Nat} {spare : Nat → Bool} {held : Bool}
def numAtR (W : World) (a : Addr) (j : Nat) : Int := match W.cell? (a.add j) with | some (.int _ z) => z | _ => 0
theorem open_intsR {t e : TypeId} {fuel : Nat} {cs : List Value} {x : DataW H × List MemPlace} (ht : P.underlying t = some (.slice e)) (he : P.underlying e = some (.int .i64)) (hC : P.cellsOf e = 1)
    (h : DataW.trod enc P w base spare held fuel t cs = some x) : ∃ a n c zs, cs = [.slice a n c] ∧ Sx w a n c zs := by
  rcases open_slice ht h with ⟨rfl, _⟩ | ⟨a, len, cap, m, n, D, Pl, hcs, hb, hl, hm, hmm, hx, hi⟩
  · exact ⟨none, 0, 0, [], rfl, Sx.none w⟩
  · subst hcs
    have hc : ∀ j, j < len → ∃ z, w.cell? (a.add j) = some (.int .i64 z) := by
      intro j hj
      obtain ⟨cs', hc, ht'⟩ := hi j (by rw [hmm]; split <;> omega)
      rw [hC, Nat.mul_one] at hc
      obtain ⟨z, rfl, _⟩ := DataW.trod_int he ht'
      obtain ⟨_, _, hat⟩ := World.cells?_some hc
      have := hat 0 (by omega)
      have e0 : (a.add j).add 0 = a.add j := by simp [Addr.add]
      rw [e0] at this
      exact ⟨z, by simpa using this⟩
    refine ⟨some a, len, cap, (List.range len).map (numAtR w a), rfl, ⟨by simp, hl, hm, (fun h => by cases h), fun hp => ?_⟩⟩
    have hp' : 0 < len := by simpa using hp
    obtain ⟨b, off, spot⟩ := a
    obtain ⟨z0, hz0⟩ := hc 0 hp'
    have hspot : spot = none := by simpa [Addr.add] using World.cell?_spot hz0
    subst hspot
    have hadd : ∀ j, (Addr.mk b off none).add j = ⟨b, off + j, none⟩ := fun j => by
      by_cases hj : j = 0
      · subst hj; rfl
      · simp [Addr.add, hj]
    refine ⟨b, off, rfl, ?_, fun j hj => ?_⟩
    · rcases Nat.lt_or_ge b w.heap.size with h' | h'
      · exact h'
      · rw [hadd] at hz0
        simp [World.cell?, Array.getElem?_eq_none (by simpa using h')] at hz0
    · have hj' : j < len := by simpa using hj
      obtain ⟨z, hz⟩ := hc j hj'
      have : numAtR w ⟨b, off, none⟩ j = z := by unfold numAtR; rw [hz]
      rw [List.getD_eq_getElem?_getD, List.getElem?_map, List.getElem?_range hj', Option.map_some, Option.getD_some, this, ← hz, hadd]
theorem open_whole {t e : TypeId} {f0 f1 : Field} {fuel : Nat} {cs : List Value} {x : DataW H × List MemPlace} (hs : P.underlying t = some (.struct #[f0, f1])) (h0 : P.underlying f0.type = some .bool) (h1 : P.underlying f1.type = some (.slice e)) (he : P.underlying e = some (.int .i64)) (hCe : P.cellsOf e = 1)
    (h : DataW.trod enc P w base spare held fuel t cs = some x) (o : f0.offset = 0 ∧ f1.offset = 1) (c : P.cellsOf f0.type = 1 ∧ P.cellsOf f1.type = 1) (hC : P.cellsOf t = 2) :
    ∃ (b : Bool) (a : Option Addr) (n cp : Nat) (zs : List Int), cs = [.bool b, .slice a n cp] ∧ Sx w a n cp zs := by
  obtain ⟨xs, n, _, hx, hlen, hxl, hg⟩ := DataW.trod_struct hs h
  rw [hC] at hlen
  match cs, hlen with
  | [u0, u1], _ =>
    have e0 := hg 0 f0 rfl
    have e1 := hg 1 f1 rfl
    rw [o.1, c.1] at e0
    rw [o.2, c.2] at e1
    rw [List.getElem?_eq_getElem (by rw [hxl]; simp)] at e0
    rw [List.getElem?_eq_getElem (by rw [hxl]; simp)] at e1
    obtain ⟨b, h2, _⟩ := DataW.trod_bool h0 e0
    obtain ⟨a, n2, cp, zs, h3, hsx⟩ := open_intsR h1 he hCe e1
    simp at h2 h3
    subst h2
    subst h3
    exact ⟨b, a, n2, cp, zs, rfl, hsx⟩
theorem open_ratio {t e : TypeId} {g0 g1 f0 f1 : Field} {fuel : Nat} {cs : List Value} {x : DataW H × List MemPlace} (ht : P.underlying t = some (.struct #[g0, g1])) (hgt : g1.type = g0.type) (hs : P.underlying g0.type = some (.struct #[f0, f1])) (h0 : P.underlying f0.type = some .bool) (h1 : P.underlying f1.type = some (.slice e)) (he : P.underlying e = some (.int .i64)) (hCe : P.cellsOf e = 1)
    (h : DataW.trod enc P w base spare held fuel t cs = some x) (og : g0.offset = 0 ∧ g1.offset = 2) (o : f0.offset = 0 ∧ f1.offset = 1) (c : P.cellsOf f0.type = 1 ∧ P.cellsOf f1.type = 1) (hC0 : P.cellsOf g0.type = 2) (hC : P.cellsOf t = 4) :
    ∃ (b : Bool) (a : Option Addr) (n cp : Nat) (zs : List Int) (b2 : Bool) (a2 : Option Addr) (n2 cp2 : Nat) (ys : List Int), cs = [.bool b, .slice a n cp, .bool b2, .slice a2 n2 cp2] ∧ Sx w a n cp zs ∧ Sx w a2 n2 cp2 ys := by
  obtain ⟨xs, n, _, hx, hlen, hxl, hg⟩ := DataW.trod_struct ht h
  rw [hC] at hlen
  match cs, hlen with
  | [u0, u1, u2, u3], _ =>
    have e0 := hg 0 g0 rfl
    have e1 := hg 1 g1 rfl
    rw [og.1, hC0] at e0
    rw [og.2, hgt, hC0] at e1
    rw [List.getElem?_eq_getElem (by rw [hxl]; simp)] at e0
    rw [List.getElem?_eq_getElem (by rw [hxl]; simp)] at e1
    obtain ⟨b, a, n1, cp, zs, h2, hsx⟩ := open_whole hs h0 h1 he hCe e0 o c hC0
    obtain ⟨b2, a2, n2, cp2, ys, h3, hsx2⟩ := open_whole hs h0 h1 he hCe e1 o c hC0
    simp at h2 h3
    obtain ⟨rfl, rfl⟩ := h2
    obtain ⟨rfl, rfl⟩ := h3
    exact ⟨b, a, n1, cp, zs, b2, a2, n2, cp2, ys, rfl, hsx, hsx2⟩
end
end Go.Proofs.Ytijpfnkhaldfeaa
