/- The least number that lifts, digit after digit; the first pair that lifts: the reference. -/
import Derived.Test.YtegiddpakocodaaLo10
import Derived.Test.YtegiddpakocodaaLo11
import Derived.Test.YtegiddpakocodaaLoP5
import Derived.Test.YtegiddpakocodaaBy
namespace Go.Proofs.Ytegiddpakocodaa
open Go.RowKit
set_option linter.unusedVariables false
set_option maxHeartbeats 4000000
set_option maxRecDepth 20000
set_option linter.unusedSimpArgs false
def pbT (D A C p : Int) (tn : Bool) (y : Int) (i : Nat) : Bool := poB D A C (if tn = true then 1 else y) (if tn = true then y else 1) p i
def lbT (D A C p : Int) (k : Nat) (tn : Bool) (y : Int) : Bool := liB D A C (if tn = true then 1 else y) (if tn = true then y else 1) p k
def bvT (D A C p : Int) (k : Nat) (tn : Bool) (f : Nat) (x : Int) (i : Nat) : Int × Bool := bv (pbT D A C p tn) (lbT D A C p k tn) p tn f x i
theorem bvT_1 (D A C p : Int) (k : Nat) : bvT D A C p k false k 0 0 = bv1 D A C p k := rfl
theorem bvT_2 (D A C p : Int) (k : Nat) : bvT D A C p k true k 0 0 = bv2 D A C p k := rfl
def bvS (D A C p : Int) (k : Nat) (tn : Bool) (f : Nat) (x : Int) (i n : Nat) : Int × Bool := bvN (pbT D A C p tn) (lbT D A C p k tn) p tn f x i n
theorem bvS_step (D A C p : Int) (k : Nat) (tn : Bool) (f : Nat) (x : Int) (i n : Nat) : bvS D A C p k tn f x i (n + 1) = mS (bvS D A C p k tn f x i n) (bvT D A C p k tn f (x + n * p ^ i) (i + 1)) := bvN_succ ..
theorem bvT_end (D A C p : Int) (k : Nat) (tn : Bool) (x : Int) (i : Nat) : bvT D A C p k tn 0 x i = if pbT D A C p tn x i = true then (if lbT D A C p k tn x = true then x else -1, true) else (-1, false) := rfl
theorem bvT_cut {D A C p : Int} {k : Nat} {tn : Bool} {f : Nat} {x : Int} {i : Nat} (hi : i ≠ 0) (h : pbT D A C p tn x i = false) : bvT D A C p k tn (f + 1) x i = (-1, false) := by
  unfold bvT bv; rw [if_pos ⟨hi, h⟩]
theorem bvT_fold {D A C p : Int} {k : Nat} {tn : Bool} {f : Nat} {x : Int} {i : Nat} (h : i = 0 ∨ pbT D A C p tn x i = true) : bvT D A C p k tn (f + 1) x i = bvS D A C p k tn f x i (dgN p tn i) := by
  unfold bvT bv; rw [if_neg]; · rfl
  rintro ⟨h1, h2⟩; rcases h with h | h
  · exact h1 h
  · rw [h] at h2; cases h2
theorem mnS_run (b y : Int) : mnS b y = if 0 ≤ y ∧ (b < 0 ∨ y < b) then y else b := rfl
theorem digit_bd {x p : Int} {i t : Nat} (hp : 2 ≤ p) (hx : 0 ≤ x ∧ x < p ^ i) (ht : (t : Int) < p) : 0 ≤ (t : Int) * p ^ i ∧ 0 ≤ x + t * p ^ i ∧ x + t * p ^ i < p ^ (i + 1) := by
  have hq := pow_pos' (p := p) (by omega) i
  have h1 : 0 ≤ (t : Int) * p ^ i := Int.mul_nonneg (by omega) (by omega)
  have h2 : ((t : Int) + 1) * p ^ i ≤ p * p ^ i := Int.mul_le_mul_of_nonneg_right (by omega) (by omega)
  rw [Int.add_mul, Int.one_mul] at h2
  rw [Int.pow_succ, Int.mul_comm (p ^ i) p]
  omega
def LbRel (w : World) (D A C p : Int) (k : Nat) (tn : Bool) (f : Nat) (x : Int) (i : Nat) (bvv sv tv : Value) (wr : World) : Prop := ∃ t : Nat, tv = .int .i64 t ∧ t ≤ dgN p tn i ∧ bvv = .int .i64 (bvS D A C p k tn f x i t).1 ∧ sv = .bool (bvS D A C p k tn f x i t).2 ∧
  wr.heap[w.heap.size]? = some (.cells #[.int .i64 D, .int .i64 A, .int .i64 C] 24 (0, 0)) ∧ Below w.heap.size w wr
theorem loBest_any (D A C p : Int) (k : Nat) (tn : Bool) (hp : 2 ≤ p) (hp2 : p ≤ 1000) (hk1 : 1 ≤ k) (hk2 : k ≤ 1000) (hM : p ^ k ≤ 1000000000) : ∀ (f i : Nat) (x : Int) (w : World), i + f = k → 0 ≤ x → x < p ^ i →
    Calls Try.prog 58 #[.agg #[.int .i64 D, .int .i64 A, .int .i64 C], .bool tn, .int .i64 p, .int .i64 k, .int .i64 x, .int .i64 i] w fun r w' =>
      r = .returned (.tuple #[.int .i64 (bvT D A C p k tn f x i).1, .bool (bvT D A C p k tn f x i).2]) ∧ Below w.heap.size w w' := by
  intro f
  induction f with
  | zero =>
    intro i x w hik hx hx2
    obtain rfl : i = k := by omega
    have hq2 := pow_mono' (p := p) (by omega) hk1
    rw [show p ^ 1 = p by rw [Int.pow_succ, Int.pow_zero, Int.one_mul]] at hq2
    rw [bvT_end]
    have TL := fun W : World => Lib.hid (loLifts_any D A C (if tn = true then 1 else x) (if tn = true then x else 1) p i W (by omega) (by omega) hk1 hk2 hM (by split <;> omega) (by split <;> omega))
    have hic : (0 : Int) < (i : Int) := by omega
    unfold pbT lbT
    generalize liB D A C (if tn = true then 1 else x) (if tn = true then x else 1) p i = lv at *
    generalize poB D A C (if tn = true then 1 else x) (if tn = true then x else 1) p i = pv at *
    cases tn <;> cases pv <;> cases lv
    all_goals
      simp only [if_true, Bool.false_eq_true, if_false] at TL ⊢
      have tok1 : True := trivial
      have tok2 : True := trivial
      go_enter Try.func58, Try.ntmps58
      go_upto_region 6 with fail
      refine chk (fun W => Below w.heap.size w W ∧ W.heap[w.heap.size]? = some (.cells #[.int .i64 D, .int .i64 A, .int .i64 C] 24 (0, 0))) (by refine ⟨?_, ?_⟩ <;> (repeat' first | (with_reducible first | assumption | (apply Ne.symm; assumption) | apply Nat.le_refl | apply Nat.le_add_right | apply zL | apply zRf | apply Wx.box | apply Wx.box4 | apply zWa | apply Wx.drew | apply zWn | apply bx_drew | apply bx_drewN | apply bx_set3 | apply bx_set2 | apply bx_set4 | apply bx_set1) | ((with_reducible apply bx_new); (focus (go_size; done))) | (with_reducible first | apply zOl | apply zFa | apply zDn | apply zDr | apply zAl | apply zSt | refine zVi (by assumption) ?_ ?_) | go_size | omega)) ?_
      rintro w1 ⟨hB1, H_Q_1⟩
      obtain ⟨k_Q_1_0, k_Q_1_1, k_Q_1_2, f_Q_1, l_Q_1⟩ := bk3 H_Q_1
      replace H_Q_1 := Lib.hid H_Q_1
      go_wp2_with (first | (have _t := tok2; go_at_call 44; (with_reducible refine ((TL _).out).mono ?_); rintro e w2 ⟨rfl, hb2⟩; clear tok2 _t; have hz2 := hb2.size; (try simp only [World.size_alloc, World.size_setCell, World.size_drew, World.size_drewN'] at hz2)))
      go_ret2
      exact ⟨rfl, below_via hb2 hB1 (by go_size)⟩
  | succ f ih =>
    intro i x w hik hx hx2
    obtain ⟨P, rfl⟩ : ∃ P : Nat, p = P := ⟨p.toNat, by omega⟩
    have HD := Lib.hid (fun (t : Nat) (ht : (t : Int) < P) => digit_bd hp ⟨hx, hx2⟩ ht)
    have hMi := pow_mono' (p := (P : Int)) (by omega) (show i ≤ k by omega)
    have hMi1 := pow_pos' (p := (P : Int)) (by omega) i
    have HM2 := Lib.hid (show (P : Int) ^ (i + 1) ≤ 1000000000 by have := pow_mono' (p := (P : Int)) (by omega) (show i + 1 ≤ k by omega); omega)
    have TP := fun W : World => Lib.hid (loPower_any P i W (by omega) (by omega) (by omega) (by rw [Int.toNat_natCast]; omega))
    rw [Int.toNat_natCast] at TP
    by_cases hi0 : i = 0
    · subst hi0
      rw [bvT_fold (.inl rfl)]
      cases tn
      · have hdg : dgN P false 0 = P := by simp [dgN]
        rw [hdg]
        obtain ⟨M, hMe⟩ : ∃ M, (P : Int) ^ 0 = M := ⟨_, rfl⟩
        rw [hMe] at HD hMi hMi1 hx2 TP
        have HME := Lib.hid hMe
        clear hMe
        rw [show ((0 : Nat) : Int) = 0 from rfl] at TP ⊢
        have tok1 : True := trivial
        have tok2 : True := trivial
        have tok3 : True := trivial
        have tok4 : True := trivial
        have tok5 : True := trivial
        have tok6 : True := trivial
        have tok7 : True := trivial
        go_enter Try.func58, Try.ntmps58
        go_upto_region 14 with fail
        refine chk (fun W => Below w.heap.size w W ∧ W.heap[w.heap.size]? = some (.cells #[.int .i64 D, .int .i64 A, .int .i64 C] 24 (0, 0))) (by refine ⟨?_, ?_⟩ <;> (repeat' first | (with_reducible first | assumption | (apply Ne.symm; assumption) | apply Nat.le_refl | apply Nat.le_add_right | apply zL | apply zRf | apply Wx.box | apply Wx.box4 | apply zWa | apply Wx.drew | apply zWn | apply bx_drew | apply bx_drewN | apply bx_set3 | apply bx_set2 | apply bx_set4 | apply bx_set1) | ((with_reducible apply bx_new); (focus (go_size; done))) | (with_reducible first | apply zOl | apply zFa | apply zDn | apply zDr | apply zAl | apply zSt | refine zVi (by assumption) ?_ ?_) | go_size | omega)) ?_
        rintro w4 ⟨hB4, H_Q_4⟩
        obtain ⟨k_Q_4_0, k_Q_4_1, k_Q_4_2, f_Q_4, l_Q_4⟩ := bk3 H_Q_4
        replace H_Q_4 := Lib.hid H_Q_4
        go_upto_region 15 with (first | (go_at_call 38; (with_reducible refine ((TP _).out).mono ?_); rintro e w' ⟨rfl, rfl⟩))
        replace H_Q_4 := H_Q_4.out
        refine chk (fun W => Below w.heap.size w W ∧ W.heap[w.heap.size]? = some (.cells #[.int .i64 D, .int .i64 A, .int .i64 C] 24 (0, 0))) (by refine ⟨?_, ?_⟩ <;> (repeat' first | (with_reducible first | assumption | (apply Ne.symm; assumption) | apply Nat.le_refl | apply Nat.le_add_right | apply zL | apply zRf | apply Wx.box | apply Wx.box4 | apply zWa | apply Wx.drew | apply zWn | apply bx_drew | apply bx_drewN | apply bx_set3 | apply bx_set2 | apply bx_set4 | apply bx_set1) | ((with_reducible apply bx_new); (focus (go_size; done))) | (with_reducible first | apply zOl | apply zFa | apply zDn | apply zDr | apply zAl | apply zSt | refine zVi (by assumption) ?_ ?_) | go_size | omega)) ?_
        clear k_Q_4_0 k_Q_4_1 k_Q_4_2 f_Q_4 H_Q_4
        clear hB4
        rintro w5 ⟨hB5, H_Q_5⟩
        obtain ⟨k_Q_5_0, k_Q_5_1, k_Q_5_2, f_Q_5, l_Q_5⟩ := bk3 H_Q_5
        replace H_Q_5 := Lib.hid H_Q_5
        go_wp2_with fail
        go_loopw [18, 19, 21] (fun bvv sv tv wr => LbRel w D A C P k false f x 0 bvv sv tv wr) (fun _ _ tv _ => (P - intOf tv).toNat)
        case atStart => exact ⟨0, rfl, by omega, rfl, rfl, H_Q_5.out, hB5⟩
        case round =>
          obtain ⟨t, rfl, ht, rfl, rfl, hQ, hbw⟩ := hrel
          rw [hdg] at ht
          by_cases hlt : t < P
          · have hltc : (t : Int) < (P : Int) := by omega
            have hdb := HD.out t hltc
            have hdc : (0 ≤ (t : Int) * M ∧ (t : Int) * M ≤ 1000000000) ∧ 0 ≤ x + (t : Int) * M ∧ x + (t : Int) * M ≤ 1000000000 := by have := HM2.out; omega
            have TB := fun W : World => Lib.hid (ih 1 (x + t * M) W (by omega) (by omega) hdb.2.2)
            have HST0 := bvS_step D A C P k false f x 0 t
            rw [HME.out] at HST0
            have HST := Lib.hid HST0
            clear HST0
            obtain ⟨⟨b0, s0⟩, hb0⟩ : ∃ r, bvS D A C P k false f x 0 t = r := ⟨_, rfl⟩
            obtain ⟨⟨y, q⟩, hy0⟩ : ∃ r, bvT D A C P k false f (x + t * M) 1 = r := ⟨_, rfl⟩
            obtain ⟨⟨b9, s9⟩, hb9⟩ : ∃ r, bvS D A C P k false f x 0 (t + 1) = r := ⟨_, rfl⟩
            rw [hb0, hy0, hb9] at HST
            rw [hy0] at TB
            rw [hb0]
            have HB9 := Lib.hid hb9
            clear hb9 hb0 hy0
            dsimp only at TB ⊢
            rw [show ((1 : Nat) : Int) = 1 from rfl] at TB
            go_upto_region 19 with fail
            replace H_Q_5 := H_Q_5.out
            refine chk (fun W => Below w.heap.size w W ∧ W.heap[w.heap.size]? = some (.cells #[.int .i64 D, .int .i64 A, .int .i64 C] 24 (0, 0))) (by refine ⟨?_, ?_⟩ <;> (repeat' first | (with_reducible first | assumption | (apply Ne.symm; assumption) | apply Nat.le_refl | apply Nat.le_add_right | apply zL | apply zRf | apply Wx.box | apply Wx.box4 | apply zWa | apply Wx.drew | apply zWn | apply bx_drew | apply bx_drewN | apply bx_set3 | apply bx_set2 | apply bx_set4 | apply bx_set1) | ((with_reducible apply bx_new); (focus (go_size; done))) | (with_reducible first | apply zOl | apply zFa | apply zDn | apply zDr | apply zAl | apply zSt | refine zVi (by assumption) ?_ ?_) | go_size | omega)) ?_
            clear k_Q_5_0 k_Q_5_1 k_Q_5_2 f_Q_5 H_Q_5
            clear hB5
            rintro w6 ⟨hB6, H_Q_6⟩
            obtain ⟨k_Q_6_0, k_Q_6_1, k_Q_6_2, f_Q_6, l_Q_6⟩ := bk3 H_Q_6
            replace H_Q_6 := Lib.hid H_Q_6
            clear hQ
            go_upto_region 20 with (first | (have _t := tok7; go_at_call 58; (with_reducible refine ((TB _).out).mono ?_); rintro e w7 ⟨rfl, hb7⟩; clear tok7 _t; have hz7 := hb7.size; (try simp only [World.size_alloc, World.size_setCell, World.size_drew, World.size_drewN'] at hz7)))
            have H_Q_7 := (hb7.block (w.heap.size) (blk_lt' H_Q_6.out)).trans H_Q_6.out
            clear k_Q_6_0 k_Q_6_1 k_Q_6_2 f_Q_6 H_Q_6
            obtain ⟨k_Q_7_0, k_Q_7_1, k_Q_7_2, f_Q_7, l_Q_7⟩ := bk3 H_Q_7
            replace H_Q_7 := Lib.hid H_Q_7
            have hB7 : Below w.heap.size w w7 := below_via hb7 (by assumption) (by first | exact hB6.size | go_size)
            have q1 := H_Q_7.out
            have hst := HST.out
            simp only [mS, mnS_run, Prod.mk.injEq] at hst
            clear HST TB
            cases s0 <;> cases q
            all_goals
              obtain ⟨hs1, hs2⟩ := hst
              simp at hs2
              subst hs2
              by_cases c1 : 0 ≤ y
              · by_cases c2 : b0 < 0
                · rw [if_pos ⟨c1, .inl c2⟩] at hs1
                  subst hs1
                  go_wp2_with fail
                  go_roundw
                  case rel => exact ⟨t + 1, by go_num, by omega, by rw [HB9.out], by rw [HB9.out], q1, hB7⟩
                  case measure => simp [intOf]; omega
                · by_cases c3 : y < b0
                  · rw [if_pos ⟨c1, .inr c3⟩] at hs1
                    subst hs1
                    go_wp2_with fail
                    go_roundw
                    case rel => exact ⟨t + 1, by go_num, by omega, by rw [HB9.out], by rw [HB9.out], q1, hB7⟩
                    case measure => simp [intOf]; omega
                  · rw [if_neg (by omega)] at hs1
                    subst hs1
                    go_wp2_with fail
                    go_roundw
                    case rel => exact ⟨t + 1, by go_num, by omega, by rw [HB9.out], by rw [HB9.out], q1, hB7⟩
                    case measure => simp [intOf]; omega
              · rw [if_neg (by omega)] at hs1
                subst hs1
                go_wp2_with fail
                go_roundw
                case rel => exact ⟨t + 1, by go_num, by omega, by rw [HB9.out], by rw [HB9.out], q1, hB7⟩
                case measure => simp [intOf]; omega
          · obtain rfl : t = P := by omega
            have h1p := trivial
            go_wp2_with fail
            go_ret2
            exact ⟨rfl, hbw⟩
      · have hdg : dgN P true 0 = 1 := by simp [dgN]
        rw [hdg]
        obtain ⟨M, hMe⟩ : ∃ M, (P : Int) ^ 0 = M := ⟨_, rfl⟩
        rw [hMe] at HD hMi hMi1 hx2 TP
        have HME := Lib.hid hMe
        clear hMe
        rw [show ((0 : Nat) : Int) = 0 from rfl] at TP ⊢
        have tok1 : True := trivial
        have tok2 : True := trivial
        have tok3 : True := trivial
        have tok4 : True := trivial
        have tok5 : True := trivial
        have tok6 : True := trivial
        have tok7 : True := trivial
        go_enter Try.func58, Try.ntmps58
        go_upto_region 14 with fail
        refine chk (fun W => Below w.heap.size w W ∧ W.heap[w.heap.size]? = some (.cells #[.int .i64 D, .int .i64 A, .int .i64 C] 24 (0, 0))) (by refine ⟨?_, ?_⟩ <;> (repeat' first | (with_reducible first | assumption | (apply Ne.symm; assumption) | apply Nat.le_refl | apply Nat.le_add_right | apply zL | apply zRf | apply Wx.box | apply Wx.box4 | apply zWa | apply Wx.drew | apply zWn | apply bx_drew | apply bx_drewN | apply bx_set3 | apply bx_set2 | apply bx_set4 | apply bx_set1) | ((with_reducible apply bx_new); (focus (go_size; done))) | (with_reducible first | apply zOl | apply zFa | apply zDn | apply zDr | apply zAl | apply zSt | refine zVi (by assumption) ?_ ?_) | go_size | omega)) ?_
        rintro w4 ⟨hB4, H_Q_4⟩
        obtain ⟨k_Q_4_0, k_Q_4_1, k_Q_4_2, f_Q_4, l_Q_4⟩ := bk3 H_Q_4
        replace H_Q_4 := Lib.hid H_Q_4
        go_upto_region 15 with (first | (go_at_call 38; (with_reducible refine ((TP _).out).mono ?_); rintro e w' ⟨rfl, rfl⟩))
        replace H_Q_4 := H_Q_4.out
        refine chk (fun W => Below w.heap.size w W ∧ W.heap[w.heap.size]? = some (.cells #[.int .i64 D, .int .i64 A, .int .i64 C] 24 (0, 0))) (by refine ⟨?_, ?_⟩ <;> (repeat' first | (with_reducible first | assumption | (apply Ne.symm; assumption) | apply Nat.le_refl | apply Nat.le_add_right | apply zL | apply zRf | apply Wx.box | apply Wx.box4 | apply zWa | apply Wx.drew | apply zWn | apply bx_drew | apply bx_drewN | apply bx_set3 | apply bx_set2 | apply bx_set4 | apply bx_set1) | ((with_reducible apply bx_new); (focus (go_size; done))) | (with_reducible first | apply zOl | apply zFa | apply zDn | apply zDr | apply zAl | apply zSt | refine zVi (by assumption) ?_ ?_) | go_size | omega)) ?_
        clear k_Q_4_0 k_Q_4_1 k_Q_4_2 f_Q_4 H_Q_4
        clear hB4
        rintro w5 ⟨hB5, H_Q_5⟩
        obtain ⟨k_Q_5_0, k_Q_5_1, k_Q_5_2, f_Q_5, l_Q_5⟩ := bk3 H_Q_5
        replace H_Q_5 := Lib.hid H_Q_5
        go_wp2_with fail
        go_loopw [18, 19, 21] (fun bvv sv tv wr => LbRel w D A C P k true f x 0 bvv sv tv wr) (fun _ _ tv _ => (1 - intOf tv).toNat)
        case atStart => exact ⟨0, rfl, by omega, rfl, rfl, H_Q_5.out, hB5⟩
        case round =>
          obtain ⟨t, rfl, ht, rfl, rfl, hQ, hbw⟩ := hrel
          rw [hdg] at ht
          by_cases hlt : t < 1
          · have hltc : (t : Int) < (P : Int) := by omega
            have hdb := HD.out t hltc
            have hdc : (0 ≤ (t : Int) * M ∧ (t : Int) * M ≤ 1000000000) ∧ 0 ≤ x + (t : Int) * M ∧ x + (t : Int) * M ≤ 1000000000 := by have := HM2.out; omega
            have TB := fun W : World => Lib.hid (ih 1 (x + t * M) W (by omega) (by omega) hdb.2.2)
            have HST0 := bvS_step D A C P k true f x 0 t
            rw [HME.out] at HST0
            have HST := Lib.hid HST0
            clear HST0
            obtain ⟨⟨b0, s0⟩, hb0⟩ : ∃ r, bvS D A C P k true f x 0 t = r := ⟨_, rfl⟩
            obtain ⟨⟨y, q⟩, hy0⟩ : ∃ r, bvT D A C P k true f (x + t * M) 1 = r := ⟨_, rfl⟩
            obtain ⟨⟨b9, s9⟩, hb9⟩ : ∃ r, bvS D A C P k true f x 0 (t + 1) = r := ⟨_, rfl⟩
            rw [hb0, hy0, hb9] at HST
            rw [hy0] at TB
            rw [hb0]
            have HB9 := Lib.hid hb9
            clear hb9 hb0 hy0
            dsimp only at TB ⊢
            have ht0 : t = 0 := by omega
            rw [show ((1 : Nat) : Int) = 1 from rfl] at TB
            subst ht0
            rw [show x + ((0 : Nat) : Int) * M = x by simp] at TB
            go_upto_region 19 with fail
            replace H_Q_5 := H_Q_5.out
            refine chk (fun W => Below w.heap.size w W ∧ W.heap[w.heap.size]? = some (.cells #[.int .i64 D, .int .i64 A, .int .i64 C] 24 (0, 0))) (by refine ⟨?_, ?_⟩ <;> (repeat' first | (with_reducible first | assumption | (apply Ne.symm; assumption) | apply Nat.le_refl | apply Nat.le_add_right | apply zL | apply zRf | apply Wx.box | apply Wx.box4 | apply zWa | apply Wx.drew | apply zWn | apply bx_drew | apply bx_drewN | apply bx_set3 | apply bx_set2 | apply bx_set4 | apply bx_set1) | ((with_reducible apply bx_new); (focus (go_size; done))) | (with_reducible first | apply zOl | apply zFa | apply zDn | apply zDr | apply zAl | apply zSt | refine zVi (by assumption) ?_ ?_) | go_size | omega)) ?_
            clear k_Q_5_0 k_Q_5_1 k_Q_5_2 f_Q_5 H_Q_5
            clear hB5
            rintro w6 ⟨hB6, H_Q_6⟩
            obtain ⟨k_Q_6_0, k_Q_6_1, k_Q_6_2, f_Q_6, l_Q_6⟩ := bk3 H_Q_6
            replace H_Q_6 := Lib.hid H_Q_6
            clear hQ
            go_upto_region 20 with (first | (have _t := tok7; go_at_call 58; (with_reducible refine ((TB _).out).mono ?_); rintro e w7 ⟨rfl, hb7⟩; clear tok7 _t; have hz7 := hb7.size; (try simp only [World.size_alloc, World.size_setCell, World.size_drew, World.size_drewN'] at hz7)))
            have H_Q_7 := (hb7.block (w.heap.size) (blk_lt' H_Q_6.out)).trans H_Q_6.out
            clear k_Q_6_0 k_Q_6_1 k_Q_6_2 f_Q_6 H_Q_6
            obtain ⟨k_Q_7_0, k_Q_7_1, k_Q_7_2, f_Q_7, l_Q_7⟩ := bk3 H_Q_7
            replace H_Q_7 := Lib.hid H_Q_7
            have hB7 : Below w.heap.size w w7 := below_via hb7 (by assumption) (by first | exact hB6.size | go_size)
            have q1 := H_Q_7.out
            have hst := HST.out
            simp only [mS, mnS_run, Prod.mk.injEq] at hst
            clear HST TB
            cases s0 <;> cases q
            all_goals
              obtain ⟨hs1, hs2⟩ := hst
              simp at hs2
              subst hs2
              by_cases c1 : 0 ≤ y
              · by_cases c2 : b0 < 0
                · rw [if_pos ⟨c1, .inl c2⟩] at hs1
                  subst hs1
                  go_wp2_with fail
                  go_roundw
                  case rel => exact ⟨0 + 1, by first | rfl | go_num, by omega, by rw [HB9.out], by rw [HB9.out], q1, hB7⟩
                  case measure => simp [intOf]
                · by_cases c3 : y < b0
                  · rw [if_pos ⟨c1, .inr c3⟩] at hs1
                    subst hs1
                    go_wp2_with fail
                    go_roundw
                    case rel => exact ⟨0 + 1, by first | rfl | go_num, by omega, by rw [HB9.out], by rw [HB9.out], q1, hB7⟩
                    case measure => simp [intOf]
                  · rw [if_neg (by omega)] at hs1
                    subst hs1
                    go_wp2_with fail
                    go_roundw
                    case rel => exact ⟨0 + 1, by first | rfl | go_num, by omega, by rw [HB9.out], by rw [HB9.out], q1, hB7⟩
                    case measure => simp [intOf]
              · rw [if_neg (by omega)] at hs1
                subst hs1
                go_wp2_with fail
                go_roundw
                case rel => exact ⟨0 + 1, by first | rfl | go_num, by omega, by rw [HB9.out], by rw [HB9.out], q1, hB7⟩
                case measure => simp [intOf]
          · obtain rfl : t = 1 := by omega
            have h1p : (1 : Int) < P := by omega
            go_wp2_with fail
            go_ret2
            exact ⟨rfl, hbw⟩
    · have HI1 := Lib.hid (show ((i + 1 : Nat) : Int) = (i : Int) + 1 by omega)
      have hii : (0 : Int) < (i : Int) := by omega
      have hik2 : ((i : Int) == (k : Int)) = false := by simp; omega
      have hiz : ((i : Int) == 0) = false := by simp; omega
      have hq2 := pow_mono' (p := (P : Int)) (by omega) (show 1 ≤ i by omega)
      rw [show (P : Int) ^ 1 = P by rw [Int.pow_succ, Int.pow_zero, Int.one_mul]] at hq2
      have TL := fun W : World => Lib.hid (loLifts_any D A C (if tn = true then 1 else x) (if tn = true then x else 1) P i W (by omega) (by omega) (by omega) (by omega) (by omega) (by split <;> omega) (by split <;> omega))
      have hpb0 : pbT D A C P tn x i = poB D A C (if tn = true then 1 else x) (if tn = true then x else 1) P i := rfl
      generalize liB D A C (if tn = true then 1 else x) (if tn = true then x else 1) P i = lv at TL
      cases hpb : pbT D A C P tn x i
      · rw [bvT_cut hi0 hpb]
        rw [← hpb0, hpb] at TL
        cases tn
        all_goals
          simp only [if_true, Bool.false_eq_true, if_false] at TL
          clear hpb hpb0 ih HD TP
          have tok1 : True := trivial
          have tok2 : True := trivial
          go_enter Try.func58, Try.ntmps58
          go_upto_region 6 with fail
          refine chk (fun W => Below w.heap.size w W ∧ W.heap[w.heap.size]? = some (.cells #[.int .i64 D, .int .i64 A, .int .i64 C] 24 (0, 0))) (by refine ⟨?_, ?_⟩ <;> (repeat' first | (with_reducible first | assumption | (apply Ne.symm; assumption) | apply Nat.le_refl | apply Nat.le_add_right | apply zL | apply zRf | apply Wx.box | apply Wx.box4 | apply zWa | apply Wx.drew | apply zWn | apply bx_drew | apply bx_drewN | apply bx_set3 | apply bx_set2 | apply bx_set4 | apply bx_set1) | ((with_reducible apply bx_new); (focus (go_size; done))) | (with_reducible first | apply zOl | apply zFa | apply zDn | apply zDr | apply zAl | apply zSt | refine zVi (by assumption) ?_ ?_) | go_size | omega)) ?_
          rintro w1 ⟨hB1, H_Q_1⟩
          obtain ⟨k_Q_1_0, k_Q_1_1, k_Q_1_2, f_Q_1, l_Q_1⟩ := bk3 H_Q_1
          replace H_Q_1 := Lib.hid H_Q_1
          go_wp2_with (first | (have _t := tok2; go_at_call 44; (with_reducible refine ((TL _).out).mono ?_); rintro e w2 ⟨rfl, hb2⟩; clear tok2 _t; have hz2 := hb2.size; (try simp only [World.size_alloc, World.size_setCell, World.size_drew, World.size_drewN'] at hz2)))
          go_ret2
          exact ⟨rfl, below_via hb2 hB1 (by go_size)⟩
      · rw [bvT_fold (.inr hpb)]
        rw [← hpb0, hpb] at TL
        clear hpb hpb0
        cases tn
        · simp only [if_true, Bool.false_eq_true, if_false] at TL
          have hdg : dgN P false i = P := by simp [dgN, hi0]
          rw [hdg]
          obtain ⟨M, hMe⟩ : ∃ M, (P : Int) ^ i = M := ⟨_, rfl⟩
          rw [hMe] at HD hMi hMi1 hx2 TP
          have HME := Lib.hid hMe
          clear hMe
          have tok1 : True := trivial
          have tok2 : True := trivial
          have tok3 : True := trivial
          have tok4 : True := trivial
          have tok5 : True := trivial
          have tok6 : True := trivial
          have tok7 : True := trivial
          go_enter Try.func58, Try.ntmps58
          go_upto_region 6 with fail
          refine chk (fun W => Below w.heap.size w W ∧ W.heap[w.heap.size]? = some (.cells #[.int .i64 D, .int .i64 A, .int .i64 C] 24 (0, 0))) (by refine ⟨?_, ?_⟩ <;> (repeat' first | (with_reducible first | assumption | (apply Ne.symm; assumption) | apply Nat.le_refl | apply Nat.le_add_right | apply zL | apply zRf | apply Wx.box | apply Wx.box4 | apply zWa | apply Wx.drew | apply zWn | apply bx_drew | apply bx_drewN | apply bx_set3 | apply bx_set2 | apply bx_set4 | apply bx_set1) | ((with_reducible apply bx_new); (focus (go_size; done))) | (with_reducible first | apply zOl | apply zFa | apply zDn | apply zDr | apply zAl | apply zSt | refine zVi (by assumption) ?_ ?_) | go_size | omega)) ?_
          rintro w3 ⟨hB3, H_Q_3⟩
          obtain ⟨k_Q_3_0, k_Q_3_1, k_Q_3_2, f_Q_3, l_Q_3⟩ := bk3 H_Q_3
          replace H_Q_3 := Lib.hid H_Q_3
          go_upto_region 14 with (first | (have _t := tok4; go_at_call 44; (with_reducible refine ((TL _).out).mono ?_); rintro e w4 ⟨rfl, hb4⟩; clear tok4 _t; have hz4 := hb4.size; (try simp only [World.size_alloc, World.size_setCell, World.size_drew, World.size_drewN'] at hz4)))
          have H_Q_4 := (hb4.block (w.heap.size) (blk_lt' H_Q_3.out)).trans H_Q_3.out
          clear k_Q_3_0 k_Q_3_1 k_Q_3_2 f_Q_3 H_Q_3
          obtain ⟨k_Q_4_0, k_Q_4_1, k_Q_4_2, f_Q_4, l_Q_4⟩ := bk3 H_Q_4
          replace H_Q_4 := Lib.hid H_Q_4
          have hB4 : Below w.heap.size w w4 := below_via hb4 (by assumption) (by first | exact hB3.size | go_size)
          clear TL
          go_upto_region 15 with (first | (go_at_call 38; (with_reducible refine ((TP _).out).mono ?_); rintro e w' ⟨rfl, rfl⟩))
          replace H_Q_4 := H_Q_4.out
          refine chk (fun W => Below w.heap.size w W ∧ W.heap[w.heap.size]? = some (.cells #[.int .i64 D, .int .i64 A, .int .i64 C] 24 (0, 0))) (by refine ⟨?_, ?_⟩ <;> (repeat' first | (with_reducible first | assumption | (apply Ne.symm; assumption) | apply Nat.le_refl | apply Nat.le_add_right | apply zL | apply zRf | apply Wx.box | apply Wx.box4 | apply zWa | apply Wx.drew | apply zWn | apply bx_drew | apply bx_drewN | apply bx_set3 | apply bx_set2 | apply bx_set4 | apply bx_set1) | ((with_reducible apply bx_new); (focus (go_size; done))) | (with_reducible first | apply zOl | apply zFa | apply zDn | apply zDr | apply zAl | apply zSt | refine zVi (by assumption) ?_ ?_) | go_size | omega)) ?_
          clear k_Q_4_0 k_Q_4_1 k_Q_4_2 f_Q_4 H_Q_4
          clear hB4
          rintro w5 ⟨hB5, H_Q_5⟩
          obtain ⟨k_Q_5_0, k_Q_5_1, k_Q_5_2, f_Q_5, l_Q_5⟩ := bk3 H_Q_5
          replace H_Q_5 := Lib.hid H_Q_5
          go_wp2_with fail
          go_loopw [18, 19, 21] (fun bvv sv tv wr => LbRel w D A C P k false f x i bvv sv tv wr) (fun _ _ tv _ => (P - intOf tv).toNat)
          case atStart => exact ⟨0, rfl, by omega, rfl, rfl, H_Q_5.out, hB5⟩
          case round =>
            obtain ⟨t, rfl, ht, rfl, rfl, hQ, hbw⟩ := hrel
            rw [hdg] at ht
            by_cases hlt : t < P
            · have hltc : (t : Int) < (P : Int) := by omega
              have hdb := HD.out t hltc
              have hdc : (0 ≤ (t : Int) * M ∧ (t : Int) * M ≤ 1000000000) ∧ 0 ≤ x + (t : Int) * M ∧ x + (t : Int) * M ≤ 1000000000 := by have := HM2.out; omega
              have TB := fun W : World => Lib.hid (ih (i + 1) (x + t * M) W (by omega) (by omega) hdb.2.2)
              have HST0 := bvS_step D A C P k false f x i t
              rw [HME.out] at HST0
              have HST := Lib.hid HST0
              clear HST0
              obtain ⟨⟨b0, s0⟩, hb0⟩ : ∃ r, bvS D A C P k false f x i t = r := ⟨_, rfl⟩
              obtain ⟨⟨y, q⟩, hy0⟩ : ∃ r, bvT D A C P k false f (x + t * M) (i + 1) = r := ⟨_, rfl⟩
              obtain ⟨⟨b9, s9⟩, hb9⟩ : ∃ r, bvS D A C P k false f x i (t + 1) = r := ⟨_, rfl⟩
              rw [hb0, hy0, hb9] at HST
              rw [hy0] at TB
              rw [hb0]
              have HB9 := Lib.hid hb9
              clear hb9 hb0 hy0
              dsimp only at TB ⊢
              rw [HI1.out] at TB
              go_upto_region 19 with fail
              replace H_Q_5 := H_Q_5.out
              refine chk (fun W => Below w.heap.size w W ∧ W.heap[w.heap.size]? = some (.cells #[.int .i64 D, .int .i64 A, .int .i64 C] 24 (0, 0))) (by refine ⟨?_, ?_⟩ <;> (repeat' first | (with_reducible first | assumption | (apply Ne.symm; assumption) | apply Nat.le_refl | apply Nat.le_add_right | apply zL | apply zRf | apply Wx.box | apply Wx.box4 | apply zWa | apply Wx.drew | apply zWn | apply bx_drew | apply bx_drewN | apply bx_set3 | apply bx_set2 | apply bx_set4 | apply bx_set1) | ((with_reducible apply bx_new); (focus (go_size; done))) | (with_reducible first | apply zOl | apply zFa | apply zDn | apply zDr | apply zAl | apply zSt | refine zVi (by assumption) ?_ ?_) | go_size | omega)) ?_
              clear k_Q_5_0 k_Q_5_1 k_Q_5_2 f_Q_5 H_Q_5
              clear hB5
              rintro w6 ⟨hB6, H_Q_6⟩
              obtain ⟨k_Q_6_0, k_Q_6_1, k_Q_6_2, f_Q_6, l_Q_6⟩ := bk3 H_Q_6
              replace H_Q_6 := Lib.hid H_Q_6
              clear hQ
              go_upto_region 20 with (first | (have _t := tok7; go_at_call 58; (with_reducible refine ((TB _).out).mono ?_); rintro e w7 ⟨rfl, hb7⟩; clear tok7 _t; have hz7 := hb7.size; (try simp only [World.size_alloc, World.size_setCell, World.size_drew, World.size_drewN'] at hz7)))
              have H_Q_7 := (hb7.block (w.heap.size) (blk_lt' H_Q_6.out)).trans H_Q_6.out
              clear k_Q_6_0 k_Q_6_1 k_Q_6_2 f_Q_6 H_Q_6
              obtain ⟨k_Q_7_0, k_Q_7_1, k_Q_7_2, f_Q_7, l_Q_7⟩ := bk3 H_Q_7
              replace H_Q_7 := Lib.hid H_Q_7
              have hB7 : Below w.heap.size w w7 := below_via hb7 (by assumption) (by first | exact hB6.size | go_size)
              have q1 := H_Q_7.out
              have hst := HST.out
              simp only [mS, mnS_run, Prod.mk.injEq] at hst
              clear HST TB
              cases s0 <;> cases q
              all_goals
                obtain ⟨hs1, hs2⟩ := hst
                simp at hs2
                subst hs2
                by_cases c1 : 0 ≤ y
                · by_cases c2 : b0 < 0
                  · rw [if_pos ⟨c1, .inl c2⟩] at hs1
                    subst hs1
                    go_wp2_with fail
                    go_roundw
                    case rel => exact ⟨t + 1, by go_num, by omega, by rw [HB9.out], by rw [HB9.out], q1, hB7⟩
                    case measure => simp [intOf]; omega
                  · by_cases c3 : y < b0
                    · rw [if_pos ⟨c1, .inr c3⟩] at hs1
                      subst hs1
                      go_wp2_with fail
                      go_roundw
                      case rel => exact ⟨t + 1, by go_num, by omega, by rw [HB9.out], by rw [HB9.out], q1, hB7⟩
                      case measure => simp [intOf]; omega
                    · rw [if_neg (by omega)] at hs1
                      subst hs1
                      go_wp2_with fail
                      go_roundw
                      case rel => exact ⟨t + 1, by go_num, by omega, by rw [HB9.out], by rw [HB9.out], q1, hB7⟩
                      case measure => simp [intOf]; omega
                · rw [if_neg (by omega)] at hs1
                  subst hs1
                  go_wp2_with fail
                  go_roundw
                  case rel => exact ⟨t + 1, by go_num, by omega, by rw [HB9.out], by rw [HB9.out], q1, hB7⟩
                  case measure => simp [intOf]; omega
            · obtain rfl : t = P := by omega
              have h1p := trivial
              go_wp2_with fail
              go_ret2
              exact ⟨rfl, hbw⟩
        · simp only [if_true, Bool.false_eq_true, if_false] at TL
          have hdg : dgN P true i = P := by simp [dgN, hi0]
          rw [hdg]
          obtain ⟨M, hMe⟩ : ∃ M, (P : Int) ^ i = M := ⟨_, rfl⟩
          rw [hMe] at HD hMi hMi1 hx2 TP
          have HME := Lib.hid hMe
          clear hMe
          have tok1 : True := trivial
          have tok2 : True := trivial
          have tok3 : True := trivial
          have tok4 : True := trivial
          have tok5 : True := trivial
          have tok6 : True := trivial
          have tok7 : True := trivial
          go_enter Try.func58, Try.ntmps58
          go_upto_region 6 with fail
          refine chk (fun W => Below w.heap.size w W ∧ W.heap[w.heap.size]? = some (.cells #[.int .i64 D, .int .i64 A, .int .i64 C] 24 (0, 0))) (by refine ⟨?_, ?_⟩ <;> (repeat' first | (with_reducible first | assumption | (apply Ne.symm; assumption) | apply Nat.le_refl | apply Nat.le_add_right | apply zL | apply zRf | apply Wx.box | apply Wx.box4 | apply zWa | apply Wx.drew | apply zWn | apply bx_drew | apply bx_drewN | apply bx_set3 | apply bx_set2 | apply bx_set4 | apply bx_set1) | ((with_reducible apply bx_new); (focus (go_size; done))) | (with_reducible first | apply zOl | apply zFa | apply zDn | apply zDr | apply zAl | apply zSt | refine zVi (by assumption) ?_ ?_) | go_size | omega)) ?_
          rintro w3 ⟨hB3, H_Q_3⟩
          obtain ⟨k_Q_3_0, k_Q_3_1, k_Q_3_2, f_Q_3, l_Q_3⟩ := bk3 H_Q_3
          replace H_Q_3 := Lib.hid H_Q_3
          go_upto_region 14 with (first | (have _t := tok4; go_at_call 44; (with_reducible refine ((TL _).out).mono ?_); rintro e w4 ⟨rfl, hb4⟩; clear tok4 _t; have hz4 := hb4.size; (try simp only [World.size_alloc, World.size_setCell, World.size_drew, World.size_drewN'] at hz4)))
          have H_Q_4 := (hb4.block (w.heap.size) (blk_lt' H_Q_3.out)).trans H_Q_3.out
          clear k_Q_3_0 k_Q_3_1 k_Q_3_2 f_Q_3 H_Q_3
          obtain ⟨k_Q_4_0, k_Q_4_1, k_Q_4_2, f_Q_4, l_Q_4⟩ := bk3 H_Q_4
          replace H_Q_4 := Lib.hid H_Q_4
          have hB4 : Below w.heap.size w w4 := below_via hb4 (by assumption) (by first | exact hB3.size | go_size)
          clear TL
          go_upto_region 15 with (first | (go_at_call 38; (with_reducible refine ((TP _).out).mono ?_); rintro e w' ⟨rfl, rfl⟩))
          replace H_Q_4 := H_Q_4.out
          refine chk (fun W => Below w.heap.size w W ∧ W.heap[w.heap.size]? = some (.cells #[.int .i64 D, .int .i64 A, .int .i64 C] 24 (0, 0))) (by refine ⟨?_, ?_⟩ <;> (repeat' first | (with_reducible first | assumption | (apply Ne.symm; assumption) | apply Nat.le_refl | apply Nat.le_add_right | apply zL | apply zRf | apply Wx.box | apply Wx.box4 | apply zWa | apply Wx.drew | apply zWn | apply bx_drew | apply bx_drewN | apply bx_set3 | apply bx_set2 | apply bx_set4 | apply bx_set1) | ((with_reducible apply bx_new); (focus (go_size; done))) | (with_reducible first | apply zOl | apply zFa | apply zDn | apply zDr | apply zAl | apply zSt | refine zVi (by assumption) ?_ ?_) | go_size | omega)) ?_
          clear k_Q_4_0 k_Q_4_1 k_Q_4_2 f_Q_4 H_Q_4
          clear hB4
          rintro w5 ⟨hB5, H_Q_5⟩
          obtain ⟨k_Q_5_0, k_Q_5_1, k_Q_5_2, f_Q_5, l_Q_5⟩ := bk3 H_Q_5
          replace H_Q_5 := Lib.hid H_Q_5
          go_wp2_with fail
          go_loopw [18, 19, 21] (fun bvv sv tv wr => LbRel w D A C P k true f x i bvv sv tv wr) (fun _ _ tv _ => (P - intOf tv).toNat)
          case atStart => exact ⟨0, rfl, by omega, rfl, rfl, H_Q_5.out, hB5⟩
          case round =>
            obtain ⟨t, rfl, ht, rfl, rfl, hQ, hbw⟩ := hrel
            rw [hdg] at ht
            by_cases hlt : t < P
            · have hltc : (t : Int) < (P : Int) := by omega
              have hdb := HD.out t hltc
              have hdc : (0 ≤ (t : Int) * M ∧ (t : Int) * M ≤ 1000000000) ∧ 0 ≤ x + (t : Int) * M ∧ x + (t : Int) * M ≤ 1000000000 := by have := HM2.out; omega
              have TB := fun W : World => Lib.hid (ih (i + 1) (x + t * M) W (by omega) (by omega) hdb.2.2)
              have HST0 := bvS_step D A C P k true f x i t
              rw [HME.out] at HST0
              have HST := Lib.hid HST0
              clear HST0
              obtain ⟨⟨b0, s0⟩, hb0⟩ : ∃ r, bvS D A C P k true f x i t = r := ⟨_, rfl⟩
              obtain ⟨⟨y, q⟩, hy0⟩ : ∃ r, bvT D A C P k true f (x + t * M) (i + 1) = r := ⟨_, rfl⟩
              obtain ⟨⟨b9, s9⟩, hb9⟩ : ∃ r, bvS D A C P k true f x i (t + 1) = r := ⟨_, rfl⟩
              rw [hb0, hy0, hb9] at HST
              rw [hy0] at TB
              rw [hb0]
              have HB9 := Lib.hid hb9
              clear hb9 hb0 hy0
              dsimp only at TB ⊢
              rw [HI1.out] at TB
              go_upto_region 19 with fail
              replace H_Q_5 := H_Q_5.out
              refine chk (fun W => Below w.heap.size w W ∧ W.heap[w.heap.size]? = some (.cells #[.int .i64 D, .int .i64 A, .int .i64 C] 24 (0, 0))) (by refine ⟨?_, ?_⟩ <;> (repeat' first | (with_reducible first | assumption | (apply Ne.symm; assumption) | apply Nat.le_refl | apply Nat.le_add_right | apply zL | apply zRf | apply Wx.box | apply Wx.box4 | apply zWa | apply Wx.drew | apply zWn | apply bx_drew | apply bx_drewN | apply bx_set3 | apply bx_set2 | apply bx_set4 | apply bx_set1) | ((with_reducible apply bx_new); (focus (go_size; done))) | (with_reducible first | apply zOl | apply zFa | apply zDn | apply zDr | apply zAl | apply zSt | refine zVi (by assumption) ?_ ?_) | go_size | omega)) ?_
              clear k_Q_5_0 k_Q_5_1 k_Q_5_2 f_Q_5 H_Q_5
              clear hB5
              rintro w6 ⟨hB6, H_Q_6⟩
              obtain ⟨k_Q_6_0, k_Q_6_1, k_Q_6_2, f_Q_6, l_Q_6⟩ := bk3 H_Q_6
              replace H_Q_6 := Lib.hid H_Q_6
              clear hQ
              go_upto_region 20 with (first | (have _t := tok7; go_at_call 58; (with_reducible refine ((TB _).out).mono ?_); rintro e w7 ⟨rfl, hb7⟩; clear tok7 _t; have hz7 := hb7.size; (try simp only [World.size_alloc, World.size_setCell, World.size_drew, World.size_drewN'] at hz7)))
              have H_Q_7 := (hb7.block (w.heap.size) (blk_lt' H_Q_6.out)).trans H_Q_6.out
              clear k_Q_6_0 k_Q_6_1 k_Q_6_2 f_Q_6 H_Q_6
              obtain ⟨k_Q_7_0, k_Q_7_1, k_Q_7_2, f_Q_7, l_Q_7⟩ := bk3 H_Q_7
              replace H_Q_7 := Lib.hid H_Q_7
              have hB7 : Below w.heap.size w w7 := below_via hb7 (by assumption) (by first | exact hB6.size | go_size)
              have q1 := H_Q_7.out
              have hst := HST.out
              simp only [mS, mnS_run, Prod.mk.injEq] at hst
              clear HST TB
              cases s0 <;> cases q
              all_goals
                obtain ⟨hs1, hs2⟩ := hst
                simp at hs2
                subst hs2
                by_cases c1 : 0 ≤ y
                · by_cases c2 : b0 < 0
                  · rw [if_pos ⟨c1, .inl c2⟩] at hs1
                    subst hs1
                    go_wp2_with fail
                    go_roundw
                    case rel => exact ⟨t + 1, by go_num, by omega, by rw [HB9.out], by rw [HB9.out], q1, hB7⟩
                    case measure => simp [intOf]; omega
                  · by_cases c3 : y < b0
                    · rw [if_pos ⟨c1, .inr c3⟩] at hs1
                      subst hs1
                      go_wp2_with fail
                      go_roundw
                      case rel => exact ⟨t + 1, by go_num, by omega, by rw [HB9.out], by rw [HB9.out], q1, hB7⟩
                      case measure => simp [intOf]; omega
                    · rw [if_neg (by omega)] at hs1
                      subst hs1
                      go_wp2_with fail
                      go_roundw
                      case rel => exact ⟨t + 1, by go_num, by omega, by rw [HB9.out], by rw [HB9.out], q1, hB7⟩
                      case measure => simp [intOf]; omega
                · rw [if_neg (by omega)] at hs1
                  subst hs1
                  go_wp2_with fail
                  go_roundw
                  case rel => exact ⟨t + 1, by go_num, by omega, by rw [HB9.out], by rw [HB9.out], q1, hB7⟩
                  case measure => simp [intOf]; omega
            · obtain rfl : t = P := by omega
              have h1p := trivial
              go_wp2_with fail
              go_ret2
              exact ⟨rfl, hbw⟩
end Go.Proofs.Ytegiddpakocodaa
