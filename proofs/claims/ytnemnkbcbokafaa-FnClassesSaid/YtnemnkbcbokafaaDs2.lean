/- The squarefree divisors of a number: the program. -/
import Derived.Test.YtnemnkbcbokafaaPr3
import Derived.Test.YtnemnkbcbokafaaPr6
import Derived.Test.YtnemnkbcbokafaaCl
import Derived.Test.YtnemnkbcbokafaaPln
namespace Go.Proofs.Ytnemnkbcbokafaa
open Go.RowKit
set_option linter.unusedVariables false
set_option maxHeartbeats 4000000
set_option maxRecDepth 20000
set_option linter.unusedSimpArgs false
theorem dvA_sub {x : Int} : ∀ {qs l : List Int}, x ∈ l → x ∈ dvA l qs
  | [], l, h => h
  | q :: qs, l, h => dvA_sub (qs := qs) (dvS_mem.2 (.inl h))
theorem dvA_app (l ps qs : List Int) : dvA l (ps ++ qs) = dvA (dvA l ps) qs := by unfold dvA; exact List.foldl_append
theorem dvA_take_bd {n : Int} (h : 1 ≤ n) (j : Nat) : ∀ x ∈ dvA [-1, 1] ((prL n).take j), x ≠ 0 ∧ x.natAbs ≤ n := fun x hx => dvL_bd h x (by
  have e : dvL n = dvA (dvA [-1, 1] ((prL n).take j)) ((prL n).drop j) := by rw [← dvA_app, List.take_append_drop]; rfl
  rw [e]; exact dvA_sub hx)
theorem dv_sorted {n : Int} (h : 1 ≤ n) : sortL (dvL n) = dvR n := dv_sort h (sortL_sorted _) (List.mergeSort_perm _ _)
/-- the row at a holds the numbers zs, in another block than v -/
def FarA (W : World) (a : Option Addr) (zs : List Int) (v : Value) : Prop := 0 < zs.length → ∃ b off, a = some ⟨b, off, none⟩ ∧ b < W.heap.size ∧ some b ≠ v.ownBlock ∧ ∀ j, j < zs.length → W.cell? ⟨b, off + j, none⟩ = some (.int .i64 (zs[j]?.getD 0))
theorem FarA.of {W : World} {a : Option Addr} {n c B : Nat} {zs : List Int} {v : Value} (h : Sx W a n c zs) (hf : Fr B a) (hv : ∀ g, v.ownBlock = some g → g < B) : FarA W a zs v := fun h0 => by
  have hl := h.len
  obtain ⟨b, off, rfl, hb, hc⟩ := h.at (by omega)
  refine ⟨b, off, rfl, hb, fun e => ?_, fun j hj => hc j (by omega)⟩
  have := hf _ rfl
  have := hv b e.symm
  simp only at *
  omega
theorem FarA.below {W W' : World} {a : Option Addr} {zs : List Int} {v : Value} (h : FarA W a zs v) (hb : Below W.heap.size W W') : FarA W' a zs v := fun h0 => by
  obtain ⟨b, off, rfl, hl, hn, hc⟩ := h h0
  exact ⟨b, off, rfl, by have := hb.size; omega, hn, fun j hj => (hb.cell (p := ⟨b, off + j, none⟩) hl).trans (hc j hj)⟩
theorem FarA.alloc {W : World} {a : Option Addr} {zs : List Int} {v : Value} (h : FarA W a zs v) (o : Obj) : FarA (W.alloc o) a zs v := h.below ((Below.refl _ _).alloc (Nat.le_refl _) o)
theorem FarA.grown {W W' : World} {a : Option Addr} {zs : List Int} {v v' : Value} (h : FarA W a zs v) (hg : W.grownBy W' v.ownBlock) (hat : v'.ownBlock = v.ownBlock ∨ v'.ownBlock = some W.heap.size) (hs : W.heap.size ≤ W'.heap.size) : FarA W' a zs v' := fun h0 => by
  obtain ⟨b, off, rfl, hl, hn, hc⟩ := h h0
  refine ⟨b, off, rfl, by omega, ?_, fun j hj => (World.cell?_of_block (a := ⟨b, off + j, none⟩) (hg.block b hl hn)).trans (hc j hj)⟩
  rcases hat with e | e
  · rw [e]; exact hn
  · rw [e]; intro e2; simp only [Option.some.injEq] at e2; omega
theorem row_lit2 (W : World) (B g : Nat) (x y : Int) (hg : W.heap.size = g) (hB : B ≤ g) : OwnI (W.alloc (.cells #[.int .i64 x, .int .i64 y] 3 (0, 0))) B 3 (.slice (some ⟨g, 0, none⟩) 2 2) [x, y] :=
  ⟨rfl, .inr ⟨g, 2, #[.int .i64 x, .int .i64 y], rfl, hB, by subst hg; exact heap_alloc_new _ _, by simp, by unfold maxLen; omega, by simp, by simp [ints]⟩⟩
def SqO (w : World) (ps : List Int) (a1 : Option Addr) (ov iv : Value) (wr : World) : Prop := ∃ (i : Nat) (v : Value), iv = .int .i64 i ∧ v = ov ∧ i ≤ ps.length ∧ OwnI wr w.heap.size 3 v (dvA [-1, 1] (ps.take i)) ∧ FarA wr a1 ps v ∧ Below w.heap.size w wr
def SqI (w : World) (ps l : List Int) (p : Int) (a1 a2 : Option Addr) (ov jv : Value) (wr : World) : Prop := ∃ (j : Nat) (v : Value), jv = .int .i64 j ∧ v = ov ∧ j ≤ l.length ∧ OwnI wr w.heap.size 3 v (l ++ (l.map (· * p)).take j) ∧ FarA wr a1 ps v ∧ FarA wr a2 l v ∧ Below w.heap.size w wr
theorem squarefreeDivisors_any (N : Int) (w : World) (hN : N ≠ 0) (hN2 : N.natAbs ≤ 1000000000) : Calls Try.prog 33 #[.int .i64 N] w fun e w' =>
    ∃ A c, e = .returned (.slice (some A) (dvR N.natAbs).length c) ∧ Sx w' (some A) (dvR N.natAbs).length c (dvR N.natAbs) ∧ Below w.heap.size w w' := by
  obtain ⟨i0, hi, iz0, iz1, iz2⟩ := info_parts infoI
  have TP := fun W : World => Lib.hid (primesOf_any N W hN (by omega))
  obtain ⟨n, hn⟩ : ∃ n : Int, (N.natAbs : Int) = n := ⟨_, rfl⟩
  have hn1 : 1 ≤ n := by omega
  have hn2 : n ≤ 1000000000 := by omega
  rw [hn] at TP ⊢
  clear hn hN hN2
  have HBD := Lib.hid (dvA_take_bd hn1)
  have HLN := Lib.hid (dvA_take_len hn1)
  have HPB := Lib.hid (fun p hp => prL_bd hn1 p hp)
  have hpl := prL_len (n := n) (by omega)
  have HSR := Lib.hid (dv_sorted hn1)
  have HSN := Lib.hid (fun j => dvA_snoc [-1, 1] (prL n) (j := j))
  have HDE := Lib.hid (show dvA [-1, 1] ((prL n).take (prL n).length) = dvL n by rw [List.take_length]; rfl)
  generalize prL n = ps at *
  have tok1 : True := trivial
  have tok2 : True := trivial
  have tok3 : True := trivial
  have tok4 : True := trivial
  have tok5 : True := trivial
  have tok6 : True := trivial
  have tok7 : True := trivial
  go_enter Try.func33, Try.ntmps33
  go_wp2_with (first | (have _t := tok1; go_at_call 57; (with_reducible refine ((TP _).out).mono ?_); rintro e w1 ⟨v1, rfl, ho1, -, hb1⟩; clear tok1 _t; have hz1 := hb1.size; (try simp only [World.size_alloc, World.size_setCell, World.size_drew, World.size_drewN'] at hz1); obtain ⟨a1, c1, rfl, hx1, hf1⟩ := Sx.of_owns ho1; clear ho1))
  have hs1 := hb1.size
  have HF1 := Lib.hid (FarA.of (v := .slice (some ⟨w.heap.size, 0, none⟩) 2 2) hx1 hf1 (fun g e => by simp [Value.ownBlock] at e; simp; omega))
  have HO1 := Lib.hid ((row_lit2 w w.heap.size w.heap.size (-1) 1 rfl (Nat.le_refl _)).below hb1)
  have hbw1 : Below w.heap.size w w1 := ((Below.refl _ _).alloc (Nat.le_refl _) _).trans (hb1.mono (by simp))
  clear hx1 hf1 TP
  go_loopw [3, 12] (fun ov iv wr => SqO w ps a1 ov iv wr) (fun _ iv _ => (ps.length - intOf iv).toNat)
  case atStart => exact ⟨0, _, rfl, rfl, by omega, HO1.out, HF1.out, hbw1⟩
  case round =>
    obtain ⟨i, v, rfl, rfl, hil, ho, hfa, hbw⟩ := hrel
    have hsw := hbw.size
    by_cases hlt : i < ps.length
    · have hltc : (i : Int) < (ps.length : Int) := by omega
      obtain ⟨b1, o1, rfl, hbl1, hnb1, hc1⟩ := hfa (by omega)
      have c0 := hc1 i hlt
      obtain ⟨p, hp⟩ : ∃ p, ps[i]?.getD 0 = p := ⟨_, rfl⟩
      have hpm : p ∈ ps := by rw [← hp, List.getElem?_eq_getElem hlt]; simp
      have hpb := HPB.out p hpm
      have hsn := HSN.out i hlt
      have hbd := HBD.out i
      have hln := HLN.out i
      have hln2 := HLN.out (i + 1)
      rw [hp] at c0 hsn
      rw [hsn] at hln2
      have HST := Lib.hid hsn
      have HFA := Lib.hid hfa
      clear hp hpm hsn hc1 HSR HDE
      generalize dvA [-1, 1] (ps.take i) = l at *
      rw [dvS_len] at hln2
      obtain ⟨a0, c0', rfl, hx0, hf0⟩ := Sx.of_owns ho
      have TC := Lib.hid (clone_any a0 l.length c0' l wr hx0 (by omega))
      have HO := Lib.hid ho
      have hlt0 := HO.out.lt
      clear ho hfa hx0 hf0
      go_wp2_with (first | (have _t := tok2; go_at_call 62; (with_reducible refine (TC.out).mono ?_); rintro e w2 ⟨a2, n2, c2, rfl, hx2, hf2, hb2⟩; clear tok2 _t; have hz2 := hb2.size; (try simp only [World.size_alloc, World.size_setCell, World.size_drew, World.size_drewN'] at hz2)))
      have hs2 := hb2.size
      have hn9 := hx2.len
      have HF2 := Lib.hid (FarA.of (v := .slice a0 l.length c0') hx2 hf2 (fun g e => (hlt0 g e).2))
      have HFA2 := Lib.hid (HFA.out.below hb2)
      have HO2 := Lib.hid (HO.out.below hb2)
      have hbw2 := hbw.trans (hb2.mono hsw)
      clear hx2 hf2 HO HFA hlt0 c0
      subst hn9
      go_loopw [3, 19] (fun ov jv wr => SqI w ps l p (some ⟨b1, o1, none⟩) a2 ov jv wr) (fun _ jv _ => (l.length - intOf jv).toNat)
      case atStart => exact ⟨0, _, rfl, rfl, by omega, by simpa using HO2.out, HFA2.out, HF2.out, hbw2⟩
      case round =>
        obtain ⟨j, v, rfl, rfl, hjl, ho, hfa, hfl, hbw⟩ := hrel
        have hsw := hbw.size
        by_cases hj : j < l.length
        · have hjc : (j : Int) < (l.length : Int) := by omega
          obtain ⟨b3, o3, rfl, hbl3, hnb3, hc3⟩ := hfl (by omega)
          have q0 := hc3 j hj
          have hym : l[j]?.getD 0 ∈ l := by rw [List.getElem?_eq_getElem hj]; simp
          have hyb := (hbd _ hym).2
          have hap : l ++ (l.map (· * p)).take (j + 1) = (l ++ (l.map (· * p)).take j) ++ [l[j]?.getD 0 * p] := by
            rw [List.take_add_one, List.getElem?_map, List.getElem?_eq_getElem hj]; simp
          have hll : (l ++ (l.map (· * p)).take j).length ≤ 4000000000 := by simp; omega
          clear hc3 hym
          obtain ⟨y, hy⟩ : ∃ y, l[j]?.getD 0 = y := ⟨_, rfl⟩
          rw [hy] at q0 hap hyb
          have hm := mul_bd (a := y) (b := p) (A := 1000000000) (B := 1000000000) (by omega) (by omega)
          have HAP := Lib.hid hap
          have HO := Lib.hid ho
          have HFA := Lib.hid hfa
          have HFL := Lib.hid hfl
          clear hap hy ho hfa hfl hyb
          go_wp2_with (first | (at_builtin; refine wpList_append_own_at _ rfl _ _ 26 rfl w.heap.size 3 i0 (.int .i64 0) 1 8 Try.underlying26 hi iz0 iz1 iz2 rfl (by decide) v (l ++ (l.map (· * p)).take j).length _ rfl (HO.out.alloc _) ⟨wr.heap.size, 0, none⟩ 1 1 [_] rfl rfl (cell_one_new _ _ _) (by simp [Value.oneCell']) (by unfold maxLen; omega) (by omega) (by simp; omega) ?_; intro v5 w5 hv5 hg5 _ hat5))
          go_roundw
          case rel =>
            have hs5 := hg5.size
            refine ⟨j + 1, v5, by go_num, rfl, by omega, ?_, (HFA.out.alloc _).grown hg5 hat5 hs5, (HFL.out.alloc _).grown hg5 hat5 hs5, Below.ownGrown (hbw.alloc (by omega) _) (HO.out.alloc _) (Nat.le_refl _) (by simp; omega) hg5⟩
            unfold OwnI
            rw [HAP.out, ints_append, ints_one, List.length_append]
            exact hv5
          case measure => simp [intOf]; omega
        · obtain rfl : j = l.length := by omega
          have e9 : (l.map (· * p)).take l.length = l.map (· * p) := List.take_of_length_le (by simp)
          rw [e9] at ho
          have ho9 : OwnI wr w.heap.size 3 v (dvS l p) := ho
          rw [← HST.out] at ho9
          have HO9 := Lib.hid ho9
          have HFA9 := Lib.hid hfa
          clear ho9 ho hfa hfl e9
          go_wp2_with fail
          go_roundw
          case rel => exact ⟨i + 1, v, by go_num, rfl, by omega, HO9.out, HFA9.out, hbw⟩
          case measure => simp [intOf]; omega
    · obtain rfl : i = ps.length := by omega
      rw [HDE.out] at ho
      have hll := HLN.out ps.length
      rw [HDE.out] at hll
      have hne : dvL n ≠ [] := by
        intro e
        have : (1 : Int) ∈ dvL n := by rw [← HDE.out]; exact dvA_sub (by simp)
        rw [e] at this; cases this
      rcases ho.shape with ⟨_, h⟩ | ⟨g, cap, rfl, _⟩
      · exact (hne h).elim
      · obtain ⟨hr, -, hlc, hcm, hBg⟩ := ho.rowH
        have TS := Lib.hid (sort_any g cap (dvL n) w.heap.size wr hr hBg (by omega))
        have hsl := sortL_len (dvL n)
        rw [HSR.out] at TS hsl
        have HSL := Lib.hid hsl
        clear hsl hr ho hfa hne
        go_wp2_with (first | (have _t := tok6; go_at_call 63; (with_reducible refine (TS.out).mono ?_); rintro e w6 ⟨rfl, hrs, hb6⟩; clear tok6 _t; have hz6 := hb6.size; (try simp only [World.size_alloc, World.size_setCell, World.size_drew, World.size_drewN'] at hz6)))
        go_ret
        exact ⟨⟨g, 0, none⟩, cap, congrArg (fun k => Ending.returned (.slice (some ⟨g, 0, none⟩) k cap)) HSL.out.symm, hrs.sx (by rw [HSL.out]; exact hlc) hcm, hbw.trans hb6⟩
end Go.Proofs.Ytnemnkbcbokafaa
