/- Parts: The possible pairs modulo a prime: the program. Rows of pairs that a call has made, The pairs that the program looks at next: the iterator's value. -/
import Derived.Test.YtegiddpakocodaaGreatLo8
import Derived.Test.YtegiddpakocodaaGreatPln
import Derived.Test.YtegiddpakocodaaGreatBy
import Derived.Maps.AppendAt
namespace Go.Proofs.YtegiddpakocodaaGreat
section
open Go.RowKit
set_option linter.unusedVariables false
set_option maxHeartbeats 4000000
set_option maxRecDepth 20000
set_option linter.unusedSimpArgs false
theorem infoPair : (Tryz.prog.info? 75).map (fun i => (i.zero, i.size, i.bytes)) = some (some (.agg #[.int .i64 0, .int .i64 0]), 2, 16) := by kernel_rfl
/-- the numbers of a list of pairs, one after the other -/
def flat : List (Int × Int) → List Int
  | [] => []
  | (a, b) :: l => a :: b :: flat l
theorem flat_len : ∀ l, (flat l).length = 2 * l.length
  | [] => rfl
  | (a, b) :: l => by simp [flat, flat_len l]; omega
theorem flat_append : ∀ l m, flat (l ++ m) = flat l ++ flat m
  | [], m => rfl
  | (a, b) :: l, m => by simp [flat, flat_append l m]
theorem flat_at : ∀ (l : List (Int × Int)) (i : Nat), i < l.length → (flat l)[i * 2]?.getD 0 = (l.getD i (0, 0)).1 ∧ (flat l)[i * 2 + 1]?.getD 0 = (l.getD i (0, 0)).2
  | (a, b) :: l, 0, _ => by simp [flat]
  | (a, b) :: l, i + 1, h => by
    have := flat_at l i (by simpa using h)
    simpa [flat, Nat.add_mul, Nat.succ_mul] using this
/-- a row of pairs that a call has made -/
def OwnQ (W : World) (B : Nat) (v : Value) (l : List (Int × Int)) : Prop := W.ownsRow B 75 2 v l.length (ints (flat l))
theorem OwnQ.below {W W2 : World} {B : Nat} {v : Value} {l : List (Int × Int)} (h : OwnQ W B v l) (hb : Below W.heap.size W W2) : OwnQ W2 B v l :=
  ⟨h.1, h.2.imp id fun ⟨g, cap, cur, hv, hB, hg, rest⟩ => ⟨g, cap, cur, hv, hB, (hb.block g (blk_lt' hg)).trans hg, rest⟩⟩
theorem OwnQ.nil (W : World) (B : Nat) : OwnQ W B (.slice none 0 0) [] := World.ownsRow_nil _ _ _ _
theorem cells2_new (w : World) (x y : Value) (t : TypeId) : ∀ j u, [x, y][j]? = some u → (w.alloc (.cells #[x, y] t)).cell? ((⟨w.heap.size, 0, none⟩ : Addr).add j) = some u := by
  intro j u hj
  match j, hj with
  | 0, hj => simp at hj; subst hj; simp [Addr.add]
  | 1, hj => simp at hj; subst hj; simp [Addr.add]
theorem OwnQ.at {W : World} {B : Nat} {v : Value} {l : List (Int × Int)} (h : OwnQ W B v l) {i : Nat} (hi : i < l.length) : ∃ g cap, v = .slice (some ⟨g, 0, none⟩) l.length cap ∧ l.length ≤ cap ∧ cap ≤ maxLen ∧ g < W.heap.size ∧
    W.cell? ⟨g, i * 2, none⟩ = some (.int .i64 (l.getD i (0, 0)).1) ∧ W.cell? ⟨g, i * 2 + 1, none⟩ = some (.int .i64 (l.getD i (0, 0)).2) := by
  obtain ⟨hx, h⟩ := h
  rcases h with ⟨_, h2⟩ | ⟨g, cap, cur, hv, hB, hg, hnc, hcm, hcs, ht⟩
  · omega
  · have hl := flat_len l
    have hc : ∀ j, j < 2 * l.length → W.cell? ⟨g, j, none⟩ = some (.int .i64 ((flat l)[j]?.getD 0)) := fun j hj => by
      rw [cell_of_row W g j cur 75 (0, 0) hg]
      have h3 : (ints (flat l))[j]? = cur[j]? := by rw [← ht, List.getElem?_take, if_pos (by omega)]; simp
      rw [← h3, ints_at _ j (by omega), List.getD_eq_getElem?_getD]
    obtain ⟨f1, f2⟩ := flat_at l i hi
    have c1 := hc (i * 2) (by omega)
    have c2 := hc (i * 2 + 1) (by omega)
    rw [f1] at c1
    rw [f2] at c2
    exact ⟨g, cap, hv, hnc, hcm, blk_lt' hg, c1, c2⟩
/-- the possible pairs (m, 1) modulo p with m below k -/
def fpL (D A C p : Int) (k : Nat) : List (Int × Int) := ((List.range k).filter fun i : Nat => poB D A C (i : Int) 1 p 1).map fun (i : Nat) => ((i : Int), (1 : Int))
theorem fpL_step (D A C p : Int) (k : Nat) : fpL D A C p (k + 1) = fpL D A C p k ++ if poB D A C (k : Int) 1 p 1 = true then [((k : Int), 1)] else [] := by
  unfold fpL
  rw [List.range_succ, List.filter_append, List.map_append]
  cases h : poB D A C (k : Int) 1 p 1 <;> simp [h]
theorem fpL_le (D A C p : Int) (k : Nat) : (fpL D A C p k).length ≤ k := by
  unfold fpL
  rw [List.length_map]
  have := List.length_filter_le (fun i : Nat => poB D A C (i : Int) 1 p 1) (List.range k)
  rwa [List.length_range] at this
theorem pl_fp {D A C p : Int} (hp : 2 ≤ p) : pl D A C p 1 = fpL D A C p p.toNat ++ if poB D A C 1 0 p 1 = true then [(1, 0)] else [] := by
  rw [pl_first hp]
  congr 1
  unfold fpL rg
  rw [List.filter_map, List.map_map]
  rfl
def FpRel (w : World) (D A C p : Int) (P : Nat) (iv ov : Value) (wr : World) : Prop := ∃ (k : Nat) (v : Value), iv = .int .i64 k ∧ v = ov ∧ k ≤ P ∧ OwnQ wr (w.heap.size + 1) v (fpL D A C p k) ∧
  wr.heap[w.heap.size]? = some (.cells #[.int .i64 D, .int .i64 A, .int .i64 C] 24 (0, 0)) ∧ Below w.heap.size w wr
theorem firstPairs_any (D A C p : Int) (w : World) (hp : 2 ≤ p) (hp2 : p ≤ 1000) : Calls Tryz.prog 78 #[.agg #[.int .i64 D, .int .i64 A, .int .i64 C], .int .i64 p] w fun r w' =>
    ∃ v B, r = .returned v ∧ OwnQ w' B v (pl D A C p 1) ∧ w.heap.size ≤ B ∧ Below w.heap.size w w' := by
  obtain ⟨i0, hi, iz0, iz1, iz2⟩ := info_parts infoPair
  obtain ⟨P, rfl⟩ : ∃ P : Nat, p = P := ⟨p.toNat, by omega⟩
  have hM : (P : Int) ^ 1 ≤ 1000000000 := by rw [Int.pow_succ, Int.pow_zero, Int.one_mul]; omega
  have HT : Hid (∀ (m e : Int) (W : World), Calls Tryz.prog 94 #[.agg #[.int .i64 D, .int .i64 A, .int .i64 C], .int .i64 m, .int .i64 e, .int .i64 P, .int .i64 1] W fun r w' => r = .returned (.bool (poB D A C m e P 1)) ∧ Below W.heap.size W w') := Lib.hid (fun m e W => possible_any D A C m e P 1 W hp hp2 (by omega) (by omega) hM)
  clear hM
  have tok1 : True := trivial
  have tok2 : True := trivial
  have tok3 : True := trivial
  have tok4 : True := trivial
  have tok5 : True := trivial
  go_enter Tryz.func78, Tryz.ntmps78
  go_upto_region 2 with fail
  refine chk (fun W => Below w.heap.size w W ∧ W.heap[w.heap.size]? = some (.cells #[.int .i64 D, .int .i64 A, .int .i64 C] 24 (0, 0))) (by refine ⟨?_, ?_⟩ <;> (repeat' first | (with_reducible first | assumption | (apply Ne.symm; assumption) | apply Nat.le_refl | apply Nat.le_add_right | apply zL | apply zRf | apply Wx.box | apply Wx.box4 | apply zWa | apply Wx.drew | apply zWn | apply bx_drew | apply bx_drewN | apply bx_set3 | apply bx_set2 | apply bx_set4 | apply bx_set1) | ((with_reducible apply bx_new); (focus (go_size; done))) | (with_reducible first | apply zOl | apply zFa | apply zDn | apply zDr | apply zAl | apply zSt | refine zVi (by assumption) ?_ ?_) | go_size | omega)) ?_
  rintro w1 ⟨hB1, H_Q_1⟩
  obtain ⟨k_Q_1_0, k_Q_1_1, k_Q_1_2, f_Q_1, l_Q_1⟩ := bk3 H_Q_1
  replace H_Q_1 := Lib.hid H_Q_1
  have hs1 := hB1.size
  go_wp2_with fail
  go_loopw [8, 5] (fun iv ov wr => FpRel w D A C P P iv ov wr) (fun iv _ _ => (P - intOf iv).toNat)
  case atStart => exact ⟨0, _, rfl, rfl, by omega, OwnQ.nil _ _, H_Q_1.out, hB1⟩
  case round =>
    obtain ⟨k, v, rfl, rfl, hk, ho, hQ, hbw⟩ := hrel
    have HO0 := Lib.hid ho
    have hsw := hbw.size
    have hle := fpL_le D A C P k
    clear ho
    by_cases hlt : k < P
    · have hltc : (k : Int) < (P : Int) := by omega
      have TP := fun W : World => HT.out k 1 W
      have HST := Lib.hid (fpL_step D A C P k)
      obtain ⟨b1, hb1⟩ : ∃ b, poB D A C (k : Int) 1 P 1 = b := ⟨_, rfl⟩
      rw [hb1] at TP HST
      clear hb1
      go_upto_region 5 with fail
      replace H_Q_1 := H_Q_1.out
      refine chk (fun W => Below w.heap.size w W ∧ W.heap[w.heap.size]? = some (.cells #[.int .i64 D, .int .i64 A, .int .i64 C] 24 (0, 0)) ∧ Below wr.heap.size wr W) (by refine ⟨?_, ?_, ?_⟩ <;> (repeat' first | (with_reducible first | assumption | (apply Ne.symm; assumption) | apply Nat.le_refl | apply Nat.le_add_right | apply zL | apply zRf | apply Wx.box | apply Wx.box4 | apply zWa | apply Wx.drew | apply zWn | apply bx_drew | apply bx_drewN | apply bx_set3 | apply bx_set2 | apply bx_set4 | apply bx_set1) | ((with_reducible apply bx_new); (focus (go_size; done))) | (with_reducible first | apply zOl | apply zFa | apply zDn | apply zDr | apply zAl | apply zSt | refine zVi (by assumption) ?_ ?_) | go_size | omega)) ?_
      clear k_Q_1_0 k_Q_1_1 k_Q_1_2 f_Q_1 H_Q_1
      clear hB1
      rintro w2 ⟨hB2, H_Q_2, hbr⟩
      obtain ⟨k_Q_2_0, k_Q_2_1, k_Q_2_2, f_Q_2, l_Q_2⟩ := bk3 H_Q_2
      replace H_Q_2 := Lib.hid H_Q_2
      clear hQ
      cases b1
      · have h9 : fpL D A C P (k + 1) = fpL D A C P k := by rw [HST.out]; simp
        have HN := Lib.hid h9
        clear h9
        go_upto_region 7 with (first | (have _t := tok3; go_at_call 94; (with_reducible refine ((TP _)).mono ?_); rintro e w3 ⟨rfl, hb3⟩; clear tok3 _t; have hz3 := hb3.size; (try simp only [World.size_alloc, World.size_setCell, World.size_drew, World.size_drewN'] at hz3)))
        have H_Q_3 := (hb3.block (w.heap.size) (blk_lt' H_Q_2.out)).trans H_Q_2.out
        clear k_Q_2_0 k_Q_2_1 k_Q_2_2 f_Q_2 H_Q_2
        obtain ⟨k_Q_3_0, k_Q_3_1, k_Q_3_2, f_Q_3, l_Q_3⟩ := bk3 H_Q_3
        replace H_Q_3 := Lib.hid H_Q_3
        have hB3 : Below w.heap.size w w3 := below_via hb3 (by assumption) (by first | exact hB2.size | go_size)
        have hbr3 := below_via hb3 hbr (by have := hbr.size; omega)
        go_wp2_with fail
        go_roundw
        have q1 := H_Q_3.out
        have q2 := HO0.out.below hbr3
        case rel => exact ⟨k + 1, v, by go_num, rfl, by omega, by rw [HN.out]; exact q2, q1, hB3⟩
        case measure => simp [intOf]; omega
      · have h9 : fpL D A C P (k + 1) = fpL D A C P k ++ [((k : Int), 1)] := by rw [HST.out]; simp
        have HN := Lib.hid h9
        clear h9
        go_upto_region 6 with (first | (have _t := tok3; go_at_call 94; (with_reducible refine ((TP _)).mono ?_); rintro e w3 ⟨rfl, hb3⟩; clear tok3 _t; have hz3 := hb3.size; (try simp only [World.size_alloc, World.size_setCell, World.size_drew, World.size_drewN'] at hz3)))
        have H_Q_3 := (hb3.block (w.heap.size) (blk_lt' H_Q_2.out)).trans H_Q_2.out
        clear k_Q_2_0 k_Q_2_1 k_Q_2_2 f_Q_2 H_Q_2
        obtain ⟨k_Q_3_0, k_Q_3_1, k_Q_3_2, f_Q_3, l_Q_3⟩ := bk3 H_Q_3
        replace H_Q_3 := Lib.hid H_Q_3
        have hB3 : Below w.heap.size w w3 := below_via hb3 (by assumption) (by first | exact hB2.size | go_size)
        have hbr3 := below_via hb3 hbr (by have := hbr.size; omega)
        have hbz := hbr3.size
        replace H_Q_3 := H_Q_3.out
        refine chk (fun W => Below w.heap.size w W ∧ W.heap[w.heap.size]? = some (.cells #[.int .i64 D, .int .i64 A, .int .i64 C] 24 (0, 0)) ∧ Below wr.heap.size wr W) (by refine ⟨?_, ?_, ?_⟩ <;> (repeat' first | (with_reducible first | assumption | (apply Ne.symm; assumption) | apply Nat.le_refl | apply Nat.le_add_right | apply zL | apply zRf | apply Wx.box | apply Wx.box4 | apply zWa | apply Wx.drew | apply zWn | apply bx_drew | apply bx_drewN | apply bx_set3 | apply bx_set2 | apply bx_set4 | apply bx_set1) | ((with_reducible apply bx_new); (focus (go_size; done))) | (with_reducible first | apply zOl | apply zFa | apply zDn | apply zDr | apply zAl | apply zSt | refine zVi (by assumption) ?_ ?_) | go_size | omega)) ?_
        clear k_Q_3_0 k_Q_3_1 k_Q_3_2 f_Q_3 H_Q_3
        clear hB3
        rintro w4 ⟨hB4, H_Q_4, hbr4⟩
        obtain ⟨k_Q_4_0, k_Q_4_1, k_Q_4_2, f_Q_4, l_Q_4⟩ := bk3 H_Q_4
        replace H_Q_4 := Lib.hid H_Q_4
        clear hbr3 hbr hbz
        have ho4 := HO0.out.below hbr4
        unfold OwnQ at ho4
        have HO := Lib.hid ho4
        have hl4 : w.heap.size + 1 ≤ w4.heap.size := by omega
        clear ho4
        go_wp2_with (first | (at_builtin; refine wpList_append_own_at _ rfl _ _ 72 rfl (w.heap.size + 1) 75 i0 (.agg #[.int .i64 0, .int .i64 0]) 2 16 Tryz.underlying72 hi iz0 iz1 iz2 rfl (by decide) v _ _ rfl (HO.out.alloc _) ⟨w4.heap.size, 0, none⟩ 1 1 [_, _] rfl rfl (cells2_new _ _ _ _) (by simp [Value.oneCell']) (by unfold maxLen; omega) (by omega) (by simp; omega) ?_; intro v1 w6 hv1 hg1 _ hat))
        go_roundw
        case rel =>
          refine ⟨k + 1, v1, by go_num, rfl, by omega, ?_, ?_, ?_⟩
          · unfold OwnQ
            rw [HN.out, flat_append, ints_append, List.length_append]
            simpa [ints, flat] using hv1
          · have q1 := H_Q_4.out
            exact (hg1.block _ (Nat.lt_of_lt_of_le l_Q_4 (by simp)) (fun h => by have := (HO.out.lt _ h.symm).1; omega)).trans (bx_old q1 _)
          · exact (hB4.alloc (by have := hB4.size; omega) _).grown hg1 (by simp; have := hB4.size; omega) (fun j h => by have := (HO.out.lt _ h).1; omega)
        case measure => simp [intOf]; omega
    · obtain rfl : k = P := by omega
      have TQ := fun W : World => HT.out 1 0 W
      have HPL := Lib.hid (pl_fp (D := D) (A := A) (C := C) hp)
      obtain ⟨b1, hb1⟩ : ∃ b, poB D A C 1 0 k 1 = b := ⟨_, rfl⟩
      rw [hb1, Int.toNat_natCast] at HPL
      rw [hb1] at TQ
      clear hb1
      go_upto_region 8 with fail
      replace H_Q_1 := H_Q_1.out
      refine chk (fun W => Below w.heap.size w W ∧ W.heap[w.heap.size]? = some (.cells #[.int .i64 D, .int .i64 A, .int .i64 C] 24 (0, 0)) ∧ Below wr.heap.size wr W) (by refine ⟨?_, ?_, ?_⟩ <;> (repeat' first | (with_reducible first | assumption | (apply Ne.symm; assumption) | apply Nat.le_refl | apply Nat.le_add_right | apply zL | apply zRf | apply Wx.box | apply Wx.box4 | apply zWa | apply Wx.drew | apply zWn | apply bx_drew | apply bx_drewN | apply bx_set3 | apply bx_set2 | apply bx_set4 | apply bx_set1) | ((with_reducible apply bx_new); (focus (go_size; done))) | (with_reducible first | apply zOl | apply zFa | apply zDn | apply zDr | apply zAl | apply zSt | refine zVi (by assumption) ?_ ?_) | go_size | omega)) ?_
      clear k_Q_1_0 k_Q_1_1 k_Q_1_2 f_Q_1 H_Q_1
      clear hB1
      rintro w2 ⟨hB2, H_Q_2, hbr⟩
      obtain ⟨k_Q_2_0, k_Q_2_1, k_Q_2_2, f_Q_2, l_Q_2⟩ := bk3 H_Q_2
      replace H_Q_2 := Lib.hid H_Q_2
      clear hQ
      cases b1
      · go_upto_region 10 with (first | (have _t := tok5; go_at_call 94; (with_reducible refine ((TQ _)).mono ?_); rintro e w5 ⟨rfl, hb5⟩; clear tok5 _t; have hz5 := hb5.size; (try simp only [World.size_alloc, World.size_setCell, World.size_drew, World.size_drewN'] at hz5)))
        have H_Q_5 := (hb5.block (w.heap.size) (blk_lt' H_Q_2.out)).trans H_Q_2.out
        clear k_Q_2_0 k_Q_2_1 k_Q_2_2 f_Q_2 H_Q_2
        obtain ⟨k_Q_5_0, k_Q_5_1, k_Q_5_2, f_Q_5, l_Q_5⟩ := bk3 H_Q_5
        replace H_Q_5 := Lib.hid H_Q_5
        have hB5 : Below w.heap.size w w5 := below_via hb5 (by assumption) (by first | exact hB2.size | go_size)
        have hbr5 := below_via hb5 hbr (by have := hbr.size; omega)
        go_wp2_with fail
        go_ret
        refine ⟨v, w.heap.size + 1, rfl, ?_, by omega, hB5⟩
        rw [HPL.out]
        simpa using HO0.out.below hbr5
      · have _t := trivial
        go_upto_region 9 with (first | (have _t := tok5; go_at_call 94; (with_reducible refine ((TQ _)).mono ?_); rintro e w5 ⟨rfl, hb5⟩; clear tok5 _t; have hz5 := hb5.size; (try simp only [World.size_alloc, World.size_setCell, World.size_drew, World.size_drewN'] at hz5)))
        have H_Q_5 := (hb5.block (w.heap.size) (blk_lt' H_Q_2.out)).trans H_Q_2.out
        clear k_Q_2_0 k_Q_2_1 k_Q_2_2 f_Q_2 H_Q_2
        obtain ⟨k_Q_5_0, k_Q_5_1, k_Q_5_2, f_Q_5, l_Q_5⟩ := bk3 H_Q_5
        replace H_Q_5 := Lib.hid H_Q_5
        have hB5 : Below w.heap.size w w5 := below_via hb5 (by assumption) (by first | exact hB2.size | go_size)
        have hbr5 := below_via hb5 hbr (by have := hbr.size; omega)
        have hbz := hbr5.size
        replace H_Q_5 := H_Q_5.out
        refine chk (fun W => Below w.heap.size w W ∧ W.heap[w.heap.size]? = some (.cells #[.int .i64 D, .int .i64 A, .int .i64 C] 24 (0, 0)) ∧ Below wr.heap.size wr W) (by refine ⟨?_, ?_, ?_⟩ <;> (repeat' first | (with_reducible first | assumption | (apply Ne.symm; assumption) | apply Nat.le_refl | apply Nat.le_add_right | apply zL | apply zRf | apply Wx.box | apply Wx.box4 | apply zWa | apply Wx.drew | apply zWn | apply bx_drew | apply bx_drewN | apply bx_set3 | apply bx_set2 | apply bx_set4 | apply bx_set1) | ((with_reducible apply bx_new); (focus (go_size; done))) | (with_reducible first | apply zOl | apply zFa | apply zDn | apply zDr | apply zAl | apply zSt | refine zVi (by assumption) ?_ ?_) | go_size | omega)) ?_
        clear k_Q_5_0 k_Q_5_1 k_Q_5_2 f_Q_5 H_Q_5
        clear hB5
        rintro w4 ⟨hB4, H_Q_4, hbr4⟩
        obtain ⟨k_Q_4_0, k_Q_4_1, k_Q_4_2, f_Q_4, l_Q_4⟩ := bk3 H_Q_4
        replace H_Q_4 := Lib.hid H_Q_4
        clear hbr5 hbr hbz
        have ho4 := HO0.out.below hbr4
        unfold OwnQ at ho4
        have HO := Lib.hid ho4
        have hl4 : w.heap.size + 1 ≤ w4.heap.size := by omega
        clear ho4
        go_wp2_with (first | (at_builtin; refine wpList_append_own_at _ rfl _ _ 72 rfl (w.heap.size + 1) 75 i0 (.agg #[.int .i64 0, .int .i64 0]) 2 16 Tryz.underlying72 hi iz0 iz1 iz2 rfl (by decide) v _ _ rfl (HO.out.alloc _) ⟨w4.heap.size, 0, none⟩ 1 1 [_, _] rfl rfl (cells2_new _ _ _ _) (by simp [Value.oneCell']) (by unfold maxLen; omega) (by omega) (by simp; omega) ?_; intro v1 w6 hv1 hg1 _ hat))
        go_ret
        refine ⟨v1, w.heap.size + 1, rfl, ?_, by omega, (hB4.alloc (by have := hB4.size; omega) _).grown hg1 (by simp; have := hB4.size; omega) (fun j h => by have := (HO.out.lt _ h).1; omega)⟩
        rw [HPL.out]
        simp only [if_true]
        unfold OwnQ
        rw [flat_append, ints_append, List.length_append]
        simpa [ints, flat] using hv1
end
section
open Go.RowKit
set_option linter.unusedVariables false
set_option maxHeartbeats 4000000
set_option maxRecDepth 20000
set_option linter.unusedSimpArgs false
theorem candidates_any (D A C p : Int) (k : Nat) (a : Option Addr) (n c : Nat) (w : World) (hp : 2 ≤ p) (hp2 : p ≤ 1000) (hk : k ≤ 1000) (hM : p ^ k ≤ 1000000000) :
    Calls Tryz.prog 98 #[.agg #[.int .i64 D, .int .i64 A, .int .i64 C], .slice a n c, .int .i64 p, .int .i64 (k + 1 : Nat)] w fun r w' =>
      r = .returned (.func (.func 106) #[] #[.pointer (some ⟨w.heap.size + 1 + 1, 0, none⟩), .pointer (some ⟨w.heap.size + 1, 0, none⟩), .pointer (some ⟨w.heap.size + 1 + 1 + 1, 0, none⟩)]) ∧
      w' = (((w.alloc (.cells #[.int .i64 D, .int .i64 A, .int .i64 C] 24 (0, 0))).alloc (.cells #[.slice a n c] 72 (0, 0))).alloc (.cells #[.int .i64 p] 3 (0, 0))).alloc (.cells #[.int .i64 (p ^ k)] 3 (0, 0)) := by
  have T1 := fun W : World => Lib.hid (intPower_any p k W (by omega) (by omega) (by omega) (by rw [Int.toNat_natCast]; omega))
  rw [Int.toNat_natCast] at T1
  have hk1 : ((k + 1 : Nat) : Int) - 1 = k := by omega
  generalize p ^ k = M at *
  go_enter Tryz.func98, Tryz.ntmps98
  go_wp2_with (first | (go_at_call 62; (with_reducible refine ((T1 _).out).mono ?_); rintro e w' ⟨rfl, rfl⟩))
  go_ret
  exact ⟨rfl, rfl⟩
end
end Go.Proofs.YtegiddpakocodaaGreat
