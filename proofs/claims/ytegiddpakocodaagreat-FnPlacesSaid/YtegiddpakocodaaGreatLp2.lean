/- The first pair that lifts, and whether there is one: the reference. -/
import Derived.Test.YtegiddpakocodaaGreatLp1
namespace Go.Proofs.YtegiddpakocodaaGreat
open Go.RowKit
set_option linter.unusedVariables false
set_option maxHeartbeats 4000000
set_option maxRecDepth 20000
set_option linter.unusedSimpArgs false
theorem dp_one {p : Int} (hp : 2 ≤ p) (hp2 : p ≤ 1000) : 1 ≤ dp p := by
  have h31 : 1000000000 < p ^ 31 := by
    have h1 := pow_base hp 31
    have h3 : (2 : Int) ^ 31 = 2147483648 := by decide
    omega
  obtain ⟨j, h1, h2⟩ := top_exists hp 31 h31
  rw [dp_eq hp h1 h2]
  rcases Nat.eq_zero_or_pos j with rfl | h
  · rw [Nat.zero_add, Int.pow_succ, Int.pow_zero, Int.one_mul] at h2; omega
  · exact h
def lpT (v : (Int × Int) × (Int × Bool)) : Value := .tuple #[.int .i64 v.1.1, .int .i64 v.1.2, .int .i64 v.2.1, .bool v.2.2]
theorem results_tmp4 {fn : Func} {t u v x : Tmp} (h : fn.results = #[.tmp t, .tmp u, .tmp v, .tmp x]) (tmps : Array Value) (P : Program) (w : World) : (results fn tmps).run P w = .ok (.tuple #[tmps.getD t undef, tmps.getD u undef, tmps.getD v undef, tmps.getD x undef]) w := by
  simp [results, h]
def LfRel (w : World) (D A C p : Int) (d : Nat) (R : (Int × Int) × (Int × Bool)) (pv kv : Value) (wr : World) : Prop := ∃ (k : Nat) (b : Bool), kv = .int .i64 k ∧ pv = .bool b ∧ 1 ≤ k ∧ k ≤ d + 1 ∧ (if k ≤ d then lpF D A C p (d - k) k = R else R = ((0, 0), (0, b))) ∧
  wr.heap[w.heap.size]? = some (.cells #[.int .i64 D, .int .i64 A, .int .i64 C] 24 (0, 0)) ∧ Below w.heap.size w wr
theorem loFind_any (D A C p : Int) (w : World) (hp : 2 ≤ p) (hp2 : p ≤ 1000) :
    Calls Tryz.prog 71 #[.agg #[.int .i64 D, .int .i64 A, .int .i64 C], .int .i64 p] w fun r w' =>
      r = .returned (lpT (lpV D A C p)) ∧ Below w.heap.size w w' := by
  have hd1 := dp_one hp hp2
  have hd2 := dp_lt hp
  have TD := fun W : World => Lib.hid (loDepth_any p W hp hp2)
  have HM := Lib.hid (fun (k : Nat) (h : k ≤ dp p) => dp_pow hp h)
  obtain ⟨R, hR⟩ : ∃ R, lpV D A C p = R := ⟨_, rfl⟩
  have hst : lpF D A C p (dp p - 1) 1 = R := hR
  rw [hR]
  clear hR
  have HB := Lib.hid (fun (tn : Bool) (k : Nat) (W : World) (h1 : 1 ≤ k) (h2 : k ≤ dp p) => loBest_any D A C p k tn hp hp2 h1 (by omega) (dp_pow hp h2) k 0 0 W (by omega) (by omega) (by rw [Int.pow_zero]; omega))
  generalize dp p = d at *
  unfold lpT
  have tok1 : True := trivial
  have tok2 : True := trivial
  have tok3 : True := trivial
  have tok4 : True := trivial
  have tok5 : True := trivial
  have tok6 : True := trivial
  go_enter Tryz.func71, Tryz.ntmps71
  go_upto_region 1 with fail
  refine chk (fun W => Below w.heap.size w W ∧ W.heap[w.heap.size]? = some (.cells #[.int .i64 D, .int .i64 A, .int .i64 C] 24 (0, 0))) (by refine ⟨?_, ?_⟩ <;> (repeat' first | (with_reducible first | assumption | (apply Ne.symm; assumption) | apply Nat.le_refl | apply Nat.le_add_right | apply zL | apply zRf | apply Wx.box | apply Wx.box4 | apply zWa | apply Wx.drew | apply zWn | apply bx_drew | apply bx_drewN | apply bx_set3 | apply bx_set2 | apply bx_set4 | apply bx_set1) | ((with_reducible apply bx_new); (focus (go_size; done))) | (with_reducible first | apply zOl | apply zFa | apply zDn | apply zDr | apply zAl | apply zSt | refine zVi (by assumption) ?_ ?_) | go_size | omega)) ?_
  rintro w1 ⟨hB1, H_Q_1⟩
  obtain ⟨k_Q_1_0, k_Q_1_1, k_Q_1_2, f_Q_1, l_Q_1⟩ := bk3 H_Q_1
  replace H_Q_1 := Lib.hid H_Q_1
  go_wp2_with fail
  go_loopw [8, 9] (fun pv kv wr => LfRel w D A C p d R pv kv wr) (fun _ kv _ => (d + 1 - intOf kv).toNat)
  case atStart => exact ⟨1, false, rfl, rfl, by omega, by omega, by rw [if_pos hd1]; exact hst, H_Q_1.out, hB1⟩
  case round =>
    obtain ⟨k, b, rfl, rfl, hk1, hkd, hres, hQ, hbw⟩ := hrel
    by_cases hk : k ≤ d
    · have hkc : (k : Int) ≤ (d : Int) := by omega
      have T1 := fun W : World => Lib.hid (HB.out false k W hk1 hk)
      have T2 := fun W : World => Lib.hid (HB.out true k W hk1 hk)
      rw [bvT_1, show ((0 : Nat) : Int) = 0 from rfl] at T1
      rw [bvT_2, show ((0 : Nat) : Int) = 0 from rfl] at T2
      have hf := pl_find (D := D) (A := A) (C := C) (k := k) hp hk1
      have ha := pl_any (D := D) (A := A) (C := C) (k := k) hp hk1
      obtain ⟨⟨m, o1⟩, hb1⟩ : ∃ r, bv1 D A C p k = r := ⟨_, rfl⟩
      obtain ⟨⟨e, o2⟩, hb2⟩ : ∃ r, bv2 D A C p k = r := ⟨_, rfl⟩
      rw [hb1] at T1 hf ha
      rw [hb2] at T2 hf ha
      clear hb1 hb2 HB
      dsimp only at T1 T2 hf ha
      rw [if_pos hk] at hres
      go_upto_region 5 with (first | (go_at_call 60; (with_reducible refine ((TD _).out).mono ?_); rintro e w' ⟨rfl, rfl⟩))
      replace H_Q_1 := H_Q_1.out
      refine chk (fun W => Below w.heap.size w W ∧ W.heap[w.heap.size]? = some (.cells #[.int .i64 D, .int .i64 A, .int .i64 C] 24 (0, 0))) (by refine ⟨?_, ?_⟩ <;> (repeat' first | (with_reducible first | assumption | (apply Ne.symm; assumption) | apply Nat.le_refl | apply Nat.le_add_right | apply zL | apply zRf | apply Wx.box | apply Wx.box4 | apply zWa | apply Wx.drew | apply zWn | apply bx_drew | apply bx_drewN | apply bx_set3 | apply bx_set2 | apply bx_set4 | apply bx_set1) | ((with_reducible apply bx_new); (focus (go_size; done))) | (with_reducible first | apply zOl | apply zFa | apply zDn | apply zDr | apply zAl | apply zSt | refine zVi (by assumption) ?_ ?_) | go_size | omega)) ?_
      clear k_Q_1_0 k_Q_1_1 k_Q_1_2 f_Q_1 H_Q_1
      clear hB1
      rintro w2 ⟨hB2, H_Q_2⟩
      obtain ⟨k_Q_2_0, k_Q_2_1, k_Q_2_2, f_Q_2, l_Q_2⟩ := bk3 H_Q_2
      replace H_Q_2 := Lib.hid H_Q_2
      clear hQ
      by_cases hm : m < 0
      · rw [if_pos hm] at hf
        by_cases he : e < 0
        · rw [if_pos he] at hf
          go_upto_region 6 with (first | (have _t := tok3; go_at_call 82; (with_reducible refine ((T1 _).out).mono ?_); rintro e w3 ⟨rfl, hb3⟩; clear tok3 _t; have hz3 := hb3.size; (try simp only [World.size_alloc, World.size_setCell, World.size_drew, World.size_drewN'] at hz3)))
          have H_Q_3 := (hb3.block (w.heap.size) (blk_lt' H_Q_2.out)).trans H_Q_2.out
          clear k_Q_2_0 k_Q_2_1 k_Q_2_2 f_Q_2 H_Q_2
          obtain ⟨k_Q_3_0, k_Q_3_1, k_Q_3_2, f_Q_3, l_Q_3⟩ := bk3 H_Q_3
          replace H_Q_3 := Lib.hid H_Q_3
          have hB3 : Below w.heap.size w w3 := below_via hb3 (by assumption) (by first | exact hB2.size | go_size)
          clear T1
          go_upto_region 8 with fail
          replace H_Q_3 := H_Q_3.out
          refine chk (fun W => Below w.heap.size w W ∧ W.heap[w.heap.size]? = some (.cells #[.int .i64 D, .int .i64 A, .int .i64 C] 24 (0, 0))) (by refine ⟨?_, ?_⟩ <;> (repeat' first | (with_reducible first | assumption | (apply Ne.symm; assumption) | apply Nat.le_refl | apply Nat.le_add_right | apply zL | apply zRf | apply Wx.box | apply Wx.box4 | apply zWa | apply Wx.drew | apply zWn | apply bx_drew | apply bx_drewN | apply bx_set3 | apply bx_set2 | apply bx_set4 | apply bx_set1) | ((with_reducible apply bx_new); (focus (go_size; done))) | (with_reducible first | apply zOl | apply zFa | apply zDn | apply zDr | apply zAl | apply zSt | refine zVi (by assumption) ?_ ?_) | go_size | omega)) ?_
          clear k_Q_3_0 k_Q_3_1 k_Q_3_2 f_Q_3 H_Q_3
          clear hB3
          rintro w5 ⟨hB5, H_Q_5⟩
          obtain ⟨k_Q_5_0, k_Q_5_1, k_Q_5_2, f_Q_5, l_Q_5⟩ := bk3 H_Q_5
          replace H_Q_5 := Lib.hid H_Q_5
          go_upto_region 9 with (first | (have _t := tok6; go_at_call 82; (with_reducible refine ((T2 _).out).mono ?_); rintro e w6 ⟨rfl, hb6⟩; clear tok6 _t; have hz6 := hb6.size; (try simp only [World.size_alloc, World.size_setCell, World.size_drew, World.size_drewN'] at hz6)))
          have H_Q_6 := (hb6.block (w.heap.size) (blk_lt' H_Q_5.out)).trans H_Q_5.out
          clear k_Q_5_0 k_Q_5_1 k_Q_5_2 f_Q_5 H_Q_5
          obtain ⟨k_Q_6_0, k_Q_6_1, k_Q_6_2, f_Q_6, l_Q_6⟩ := bk3 H_Q_6
          replace H_Q_6 := Lib.hid H_Q_6
          have hB6 : Below w.heap.size w w6 := below_via hb6 (by assumption) (by first | exact hB5.size | go_size)
          clear T2
          have q1 := H_Q_6.out
          cases ho : (o1 || o2)
          · rw [ho] at ha
            have hnil : (pl D A C p k).isEmpty = true := by simpa using ha
            rw [lpF_nil hf hnil] at hres
            subst hres
            obtain ⟨rfl, rfl⟩ : o1 = false ∧ o2 = false := by simpa using ho
            clear hf ha ho hnil
            go_wp2_with fail
            (try simp only [Exit.inBlock, Exit.then]); refine bodyPost_ret (results_tmp4 rfl _ _ _) rfl ?_
            exact ⟨rfl, hB6⟩
          · rw [ho] at ha
            have hnn : (pl D A C p k).isEmpty = false := by simpa using ha
            have hnx : if k + 1 ≤ d then lpF D A C p (d - (k + 1)) (k + 1) = R else R = ((0, 0), (0, true)) := by
              by_cases h9 : k + 1 ≤ d
              · rw [if_pos h9]
                rw [show d - k = d - (k + 1) + 1 by omega, lpF_next hf hnn] at hres
                exact hres
              · rw [if_neg h9]
                rw [show d - k = 0 by omega, lpF_end hf, hnn] at hres
                exact hres.symm
            have HNX := Lib.hid hnx
            clear hf ha hnn hnx hres
            cases o1
            · obtain rfl : o2 = true := by simpa using ho
              go_wp2_with fail
              go_roundw
              case rel => exact ⟨k + 1, true, by go_num, rfl, by omega, by omega, HNX.out, q1, hB6⟩
              case measure => simp [intOf]; omega
            · go_wp2_with fail
              go_roundw
              case rel => exact ⟨k + 1, true, by go_num, rfl, by omega, by omega, HNX.out, q1, hB6⟩
              case measure => simp [intOf]; omega
        · rw [if_neg he] at hf
          rw [lpF_some hf] at hres
          subst hres
          clear hf ha
          go_upto_region 6 with (first | (have _t := tok3; go_at_call 82; (with_reducible refine ((T1 _).out).mono ?_); rintro e w3 ⟨rfl, hb3⟩; clear tok3 _t; have hz3 := hb3.size; (try simp only [World.size_alloc, World.size_setCell, World.size_drew, World.size_drewN'] at hz3)))
          have H_Q_3 := (hb3.block (w.heap.size) (blk_lt' H_Q_2.out)).trans H_Q_2.out
          clear k_Q_2_0 k_Q_2_1 k_Q_2_2 f_Q_2 H_Q_2
          obtain ⟨k_Q_3_0, k_Q_3_1, k_Q_3_2, f_Q_3, l_Q_3⟩ := bk3 H_Q_3
          replace H_Q_3 := Lib.hid H_Q_3
          have hB3 : Below w.heap.size w w3 := below_via hb3 (by assumption) (by first | exact hB2.size | go_size)
          clear T1
          go_upto_region 8 with fail
          replace H_Q_3 := H_Q_3.out
          refine chk (fun W => Below w.heap.size w W ∧ W.heap[w.heap.size]? = some (.cells #[.int .i64 D, .int .i64 A, .int .i64 C] 24 (0, 0))) (by refine ⟨?_, ?_⟩ <;> (repeat' first | (with_reducible first | assumption | (apply Ne.symm; assumption) | apply Nat.le_refl | apply Nat.le_add_right | apply zL | apply zRf | apply Wx.box | apply Wx.box4 | apply zWa | apply Wx.drew | apply zWn | apply bx_drew | apply bx_drewN | apply bx_set3 | apply bx_set2 | apply bx_set4 | apply bx_set1) | ((with_reducible apply bx_new); (focus (go_size; done))) | (with_reducible first | apply zOl | apply zFa | apply zDn | apply zDr | apply zAl | apply zSt | refine zVi (by assumption) ?_ ?_) | go_size | omega)) ?_
          clear k_Q_3_0 k_Q_3_1 k_Q_3_2 f_Q_3 H_Q_3
          clear hB3
          rintro w5 ⟨hB5, H_Q_5⟩
          obtain ⟨k_Q_5_0, k_Q_5_1, k_Q_5_2, f_Q_5, l_Q_5⟩ := bk3 H_Q_5
          replace H_Q_5 := Lib.hid H_Q_5
          go_upto_region 9 with (first | (have _t := tok6; go_at_call 82; (with_reducible refine ((T2 _).out).mono ?_); rintro e w6 ⟨rfl, hb6⟩; clear tok6 _t; have hz6 := hb6.size; (try simp only [World.size_alloc, World.size_setCell, World.size_drew, World.size_drewN'] at hz6)))
          have H_Q_6 := (hb6.block (w.heap.size) (blk_lt' H_Q_5.out)).trans H_Q_5.out
          clear k_Q_5_0 k_Q_5_1 k_Q_5_2 f_Q_5 H_Q_5
          obtain ⟨k_Q_6_0, k_Q_6_1, k_Q_6_2, f_Q_6, l_Q_6⟩ := bk3 H_Q_6
          replace H_Q_6 := Lib.hid H_Q_6
          have hB6 : Below w.heap.size w w6 := below_via hb6 (by assumption) (by first | exact hB5.size | go_size)
          clear T2
          go_wp2_with fail
          (try simp only [Exit.inBlock, Exit.then]); refine bodyPost_ret (results_tmp4 rfl _ _ _) rfl ?_
          exact ⟨rfl, hB6⟩
      · rw [if_neg hm] at hf
        rw [lpF_some hf] at hres
        subst hres
        clear hf ha T2
        go_upto_region 6 with (first | (have _t := tok3; go_at_call 82; (with_reducible refine ((T1 _).out).mono ?_); rintro e w3 ⟨rfl, hb3⟩; clear tok3 _t; have hz3 := hb3.size; (try simp only [World.size_alloc, World.size_setCell, World.size_drew, World.size_drewN'] at hz3)))
        go_wp2_with fail
        (try simp only [Exit.inBlock, Exit.then]); refine bodyPost_ret (results_tmp4 rfl _ _ _) rfl ?_
        exact ⟨rfl, below_via hb3 hB2 (by go_size)⟩
    · obtain rfl : k = d + 1 := by omega
      rw [if_neg (by omega)] at hres
      subst hres
      have hkc : ¬ (((d + 1 : Nat) : Int) ≤ (d : Int)) := by omega
      go_wp2_with (first | (go_at_call 60; (with_reducible refine ((TD _).out).mono ?_); rintro e w' ⟨rfl, rfl⟩))
      (try simp only [Exit.inBlock, Exit.then]); refine bodyPost_ret (results_tmp4 rfl _ _ _) rfl ?_
      exact ⟨rfl, hbw⟩
def slV (D A C p : Int) : Bool × Bool := (decide (0 < (lpV D A C p).2.1), decide (0 < (lpV D A C p).2.1) || !(lpV D A C p).2.2)
/-- LocalPair's value -/
def lcV (D A C p : Int) : (Int × Int) × (Int × Bool) := if qaB D A C && mdPB p then ((lpV D A C p).1, ((lpV D A C p).2.1, decide (0 < (lpV D A C p).2.1))) else ((0, 0), (0, false))
def ilV (D A C p : Int) : Bool × Bool := if qaB D A C && mdPB p then slV D A C p else (false, false)
theorem loSolves_any (D A C p : Int) (w : World) (hp : 2 ≤ p) (hp2 : p ≤ 1000) : Calls Tryz.prog 50 #[.agg #[.int .i64 D, .int .i64 A, .int .i64 C], .int .i64 p] w fun r w' =>
    r = .returned (.tuple #[.bool (slV D A C p).1, .bool (slV D A C p).2]) ∧ Below w.heap.size w w' := by
  have T1 := fun W : World => Lib.hid (loFind_any D A C p W hp hp2)
  unfold slV lpT at *
  obtain ⟨⟨⟨m, e⟩, ⟨k, o⟩⟩, hR⟩ : ∃ r, lpV D A C p = r := ⟨_, rfl⟩
  rw [hR] at T1 ⊢
  clear hR
  dsimp only at T1 ⊢
  by_cases hk : 0 < k <;> cases o
  all_goals
    have tok1 : True := trivial
    go_enter Tryz.func50, Tryz.ntmps50
    go_wp2_with (first | (have _t := tok1; go_at_call 71; (with_reducible refine ((T1 _).out).mono ?_); rintro e w1 ⟨rfl, hb1⟩; clear tok1 _t; have hz1 := hb1.size; (try simp only [World.size_alloc, World.size_setCell, World.size_drew, World.size_drewN'] at hz1); (try (have kq := cellAt hb1 (w.heap.size) (by go_size); have k1_w_0_0 := kq 0; have k1_w_0_1 := kq 1; have k1_w_0_2 := kq 2; clear kq; have f1_w_0 := frozAt hb1 (w.heap.size) (by go_size); simp [go_sem, *] at k1_w_0_0 k1_w_0_1 k1_w_0_2 f1_w_0)); (try have l1_w_0 : w.heap.size < w1.heap.size := by omega)))
    go_ret2
    refine ⟨by simp [hk], ?_⟩
    repeat' first | (with_reducible first | apply zRf | assumption | apply zDn | apply zDr | apply zAl | apply zSt | refine zVi (by assumption) ?_ ?_) | go_size
end Go.Proofs.YtegiddpakocodaaGreat
