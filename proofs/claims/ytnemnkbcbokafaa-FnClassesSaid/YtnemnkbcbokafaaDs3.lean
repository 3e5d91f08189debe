/- The squarefree divisors of a number: the reference. -/
import Derived.Test.YtnemnkbcbokafaaPr7
import Derived.Test.YtnemnkbcbokafaaPln
namespace Go.Proofs.Ytnemnkbcbokafaa
open Go.RowKit
set_option linter.unusedVariables false
set_option maxHeartbeats 4000000
set_option maxRecDepth 20000
set_option linter.unusedSimpArgs false
theorem dvB_sub {x : Int} : ∀ {qs l : List Int}, x ∈ l → x ∈ dvB l qs
  | [], l, h => h
  | q :: qs, l, h => dvB_sub (qs := qs) (dvT_mem.2 (.inl h))
theorem dvB_app (l ps qs : List Int) : dvB l (ps ++ qs) = dvB (dvB l ps) qs := by unfold dvB; exact List.foldl_append
theorem dvB_take_bd {n : Int} (h : 1 ≤ n) (j : Nat) : ∀ x ∈ dvB [-1, 1] ((prL n).take j), x ≠ 0 ∧ x.natAbs ≤ n := fun x hx => dvR_bd h x (by
  have e : dvR n = dvB (dvB [-1, 1] ((prL n).take j)) ((prL n).drop j) := by rw [← dvB_app, List.take_append_drop]; rfl
  rw [e]; exact dvB_sub hx)
theorem dvB_pos (qs : List Int) : 0 < (dvB [-1, 1] qs).length := by
  refine List.length_pos_iff.2 fun e => ?_
  have : (1 : Int) ∈ dvB [-1, 1] qs := dvB_sub (by simp)
  rw [e] at this; cases this
def TdO (w w1 : World) (ps : List Int) (ov iv : Value) (wr : World) : Prop := ∃ (i : Nat) (A : Addr) (c : Nat), iv = .int .i64 i ∧ ov = .slice (some A) (dvB [-1, 1] (ps.take i)).length c ∧ i ≤ ps.length ∧ Sx wr (some A) (dvB [-1, 1] (ps.take i)).length c (dvB [-1, 1] (ps.take i)) ∧ Below w.heap.size w wr ∧ Below w1.heap.size w1 wr
def TdI (w0 : World) (l zs : List Int) (mv jv : Value) (wr : World) : Prop := ∃ (j : Nat) (A : Addr) (c : Nat), jv = .int .i64 j ∧ mv = .slice (some A) (putA l (zs.take j)).length c ∧ j ≤ zs.length ∧ Sx wr (some A) (putA l (zs.take j)).length c (putA l (zs.take j)) ∧ Below w0.heap.size w0 wr
theorem tcDivisors_any (N : Int) (w : World) (hN : N ≠ 0) (hN2 : N.natAbs ≤ 1000000000) : Calls Try.prog 34 #[.int .i64 N] w fun e w' =>
    ∃ A c, e = .returned (.slice (some A) (dvR N.natAbs).length c) ∧ Sx w' (some A) (dvR N.natAbs).length c (dvR N.natAbs) ∧ Below w.heap.size w w' := by
  have TA := fun W : World => Lib.hid (l1Abs_any N W (by omega) (by omega))
  have hab : absI N = (N.natAbs : Int) := rfl
  rw [hab] at TA
  have TM := fun W : World => Lib.hid (mdFactors_any N.natAbs W (by omega) (by omega))
  obtain ⟨n, hn⟩ : ∃ n : Int, (N.natAbs : Int) = n := ⟨_, rfl⟩
  have hn1 : 1 ≤ n := by omega
  have hn2 : n ≤ 1000000000 := by omega
  rw [hn] at TA TM ⊢
  clear hn hab
  have HBD := Lib.hid (dvB_take_bd hn1)
  have HLN := Lib.hid (dvB_take_len hn1)
  have HPB := Lib.hid (fun p hp => prL_bd hn1 p hp)
  have hpl := prL_len (n := n) (by omega)
  have HSN := Lib.hid (fun j => dvB_snoc [-1, 1] (prL n) (j := j))
  have HDE := Lib.hid (show dvB [-1, 1] ((prL n).take (prL n).length) = dvR n by rw [List.take_length]; rfl)
  generalize prL n = ps at *
  have tok1 : True := trivial
  have tok2 : True := trivial
  have tok3 : True := trivial
  have tok4 : True := trivial
  have tok5 : True := trivial
  have tok6 : True := trivial
  have tok7 : True := trivial
  go_enter Try.func34, Try.ntmps34
  go_wp2_with (first | (go_at_call 61; (with_reducible refine ((TA _).out).mono ?_); rintro e w' ⟨rfl, rfl⟩) | (have _t := tok1; go_at_call 60; (with_reducible refine ((TM _).out).mono ?_); rintro e w1 ⟨v, rfl, hof, hb1⟩; clear tok1 _t; have hz1 := hb1.size; (try simp only [World.size_alloc, World.size_setCell, World.size_drew, World.size_drewN'] at hz1); obtain ⟨a3, c3, rfl, hsh⟩ := hof.shape))
  have hs1 := hb1.size
  have HSH := Lib.hid hsh
  have hx0 : Sx (w.alloc (.cells #[.int .i64 (-1), .int .i64 1] 3 (0, 0))) (some ⟨w.heap.size, 0, none⟩) 2 2 [-1, 1] := by
    refine Sx.of_row (cur := #[.int .i64 (-1), .int .i64 1]) (T := 3) (fr := (0, 0)) (heap_alloc_new _ _) rfl (Nat.le_refl _) (by unfold maxLen; omega) (fun j hj => ?_)
    rcases (show j = 0 ∨ j = 1 by omega) with rfl | rfl <;> rfl
  have HX0 := Lib.hid (hx0.below hb1)
  have hbw1 : Below w.heap.size w w1 := ((Below.refl _ _).alloc (Nat.le_refl _) _).trans (hb1.mono (by simp))
  clear hsh hof hx0 TM TA
  go_loopw [3, 14] (fun ov iv wr => TdO w w1 ps ov iv wr) (fun _ iv _ => (ps.length - intOf iv).toNat)
  case atStart => exact ⟨0, _, 2, rfl, rfl, by omega, HX0.out, hbw1, Below.refl _ _⟩
  case round =>
    obtain ⟨i, Ad, c, rfl, rfl, hil, hx, hbw, hb1r⟩ := hrel
    have hsw := hbw.size
    have hsr := hb1r.size
    by_cases hlt : i < ps.length
    · have hltc : (i : Int) < (ps.length : Int) := by omega
      obtain ⟨g, gj, rfl, hgl, kj, hgj, pj⟩ := HSH.out i hlt
      have k0 := (hb1r.cell (p := ⟨g, i, none⟩) hgl).trans kj
      have p0 := (hb1r.cell (p := ⟨gj, 0, none⟩) hgj).trans pj
      obtain ⟨p, hp⟩ : ∃ p, ps[i]?.getD 0 = p := ⟨_, rfl⟩
      have hpm : p ∈ ps := by rw [← hp, List.getElem?_eq_getElem hlt]; simp
      have hpb := HPB.out p hpm
      have hsn := HSN.out i hlt
      have hbd := HBD.out i
      have hln := HLN.out i
      have hpo := dvB_pos (ps.take i)
      rw [hp] at p0 hsn
      have HST := Lib.hid hsn
      clear hp hpm hsn kj pj
      generalize w0e : wr = w0 at *
      clear w0e
      obtain ⟨l, hl⟩ : ∃ l, dvB [-1, 1] (ps.take i) = l := ⟨_, rfl⟩
      rw [hl] at hx HST hln hpo hbd ⊢
      clear hl
      obtain ⟨b, off, hAd, hbl, hcs⟩ := hx.at hpo
      cases hAd
      have HX := Lib.hid hx
      have HBD2 := Lib.hid hbd
      clear hx hbd
      go_wp2_with fail
      go_loopw [6, 21] (fun mv jv wr => TdI w0 l (l.map (· * p)) mv jv wr) (fun _ jv _ => (l.length - intOf jv).toNat)
      case atStart => exact ⟨0, _, c, rfl, rfl, by omega, HX.out, Below.refl _ _⟩
      case round =>
        obtain ⟨j, A2, c2, rfl, rfl, hj, hx, hb0r⟩ := hrel
        have hs0r := hb0r.size
        rw [List.length_map] at hj
        by_cases hjl : j < l.length
        · have hjc : (j : Int) < (l.length : Int) := by omega
          have q0 := (hb0r.cell (p := ⟨b, off + j, none⟩) hbl).trans (hcs j hjl)
          have p1 := (hb0r.cell (p := ⟨gj, 0, none⟩) (show gj < w0.heap.size by omega)).trans p0
          have hsn := putA_snoc l (l.map (· * p)) (j := j) (by simpa using hjl)
          have hym : l[j]?.getD 0 ∈ l := by rw [List.getElem?_eq_getElem hjl]; simp
          have hyb := (HBD2.out _ hym).2
          have hln2 := putA_len ((l.map (· * p)).take j) l
          have hpp := putA_pos (m := (l.map (· * p)).take j) hpo
          rw [List.length_take, List.length_map] at hln2
          have hyp : (l.map (· * p))[j]?.getD 0 = l[j]?.getD 0 * p := by rw [List.getElem?_map, List.getElem?_eq_getElem hjl]; rfl
          rw [hyp] at hsn
          clear hyp hym
          obtain ⟨y, hy⟩ : ∃ y, l[j]?.getD 0 = y := ⟨_, rfl⟩
          rw [hy] at q0 hsn hyb
          have hm := mul_bd (a := y) (b := p) (A := 1000000000) (B := 1000000000) (by omega) (by omega)
          have HSN2 := Lib.hid hsn
          have TP := Lib.hid (l1Put_any A2 c2 (putA l ((l.map (· * p)).take j)) (y * p) wr hx (by omega) hpp)
          rw [← HSN2.out] at TP
          clear hsn hy hx hln2 hpp
          go_wp2_with (first | (have _t := tok2; go_at_call 64; (with_reducible refine (TP.out).mono ?_); rintro e w2 ⟨A2, c2, rfl, hx2, hb2⟩; clear tok2 _t; have hz2 := hb2.size; (try simp only [World.size_alloc, World.size_setCell, World.size_drew, World.size_drewN'] at hz2)))
          go_roundw
          case rel => exact ⟨j + 1, _, _, by go_num, rfl, by simp only [List.length_map]; omega, hx2, hb0r.trans (hb2.mono hs0r)⟩
          case measure => simp [intOf]; omega
        · obtain rfl : j = l.length := by omega
          have e9 : (l.map (· * p)).take l.length = l.map (· * p) := List.take_of_length_le (by simp)
          rw [e9] at hx ⊢
          have hx9 : Sx wr (some A2) (dvT l p).length c2 (dvT l p) := hx
          have hv9 : (Value.slice (some A2) (putA l (l.map (· * p))).length c2) = .slice (some A2) (dvT l p).length c2 := rfl
          rw [hv9]
          rw [← HST.out] at hx9 ⊢
          have HX9 := Lib.hid hx9
          clear hx9 hx hv9 e9
          go_wp2_with fail
          go_roundw
          case rel => exact ⟨i + 1, A2, c2, by go_num, rfl, by omega, HX9.out, hbw.trans (hb0r.mono hsw), hb1r.trans (hb0r.mono hsr)⟩
          case measure => simp [intOf]; omega
    · obtain rfl : i = ps.length := by omega
      rw [HDE.out] at hx ⊢
      go_wp2_with fail
      go_ret
      exact ⟨_, _, rfl, hx, hbw⟩
end Go.Proofs.Ytnemnkbcbokafaa
