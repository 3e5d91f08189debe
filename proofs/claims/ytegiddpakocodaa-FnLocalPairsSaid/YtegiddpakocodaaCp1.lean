/- How many pairs are possible: the reference. -/
import Derived.Test.YtegiddpakocodaaLo10
import Derived.Test.YtegiddpakocodaaLo11
import Derived.Test.YtegiddpakocodaaLoP4
import Derived.Test.YtegiddpakocodaaBy
namespace Go.Proofs.Ytegiddpakocodaa
open Go.RowKit
set_option linter.unusedVariables false
set_option maxHeartbeats 4000000
set_option maxRecDepth 20000
set_option linter.unusedSimpArgs false
def coV (D A C p k : Int) : Int × Bool := if (qaB D A C && (deB p k && decide (p ^ k.toNat ≤ 1000))) = true then (((cntP D A C p k.toNat (p ^ k.toNat).toNat : Nat) : Int), true) else (0, false)
theorem coV_cases (D A C p k : Int) : (qaB D A C = false ∧ coV D A C p k = (0, false)) ∨ (qaB D A C = true ∧ ((deB p k = false ∧ coV D A C p k = (0, false)) ∨ (deB p k = true ∧ ((¬ p ^ k.toNat ≤ 1000 ∧ coV D A C p k = (0, false)) ∨ (p ^ k.toNat ≤ 1000 ∧ coV D A C p k = (((cntP D A C p k.toNat (p ^ k.toNat).toNat : Nat) : Int), true)))))) := by
  unfold coV
  cases h1 : qaB D A C
  · left; exact ⟨rfl, by simp⟩
  · right; refine ⟨rfl, ?_⟩
    cases h2 : deB p k
    · left; exact ⟨rfl, by simp⟩
    · right; refine ⟨rfl, ?_⟩
      by_cases h3 : p ^ k.toNat ≤ 1000
      · right; exact ⟨h3, by simp [h3]⟩
      · left; exact ⟨h3, by simp [h3]⟩
theorem sCountPossible_any (D A C p k : Int) (w : World) : Calls Try.prog 17 #[.agg #[.int .i64 D, .int .i64 A, .int .i64 C], .int .i64 p, .int .i64 k] w fun r w' =>
    r = .returned (.tuple #[.int .i64 (coV D A C p k).1, .bool (coV D A C p k).2]) ∧ Below w.heap.size w w' := by
  have T1 := fun W : World => Lib.hid (loGood_any D A C W)
  have T2 := fun W : World => Lib.hid (loDepthOf_any p k W)
  rcases coV_cases D A C p k with ⟨h1, e1⟩ | ⟨h1, ⟨h2, e1⟩ | ⟨h2, h3⟩⟩
  · rw [e1]
    rw [h1] at T1
    clear h1 e1
    have T3 := T1
    have tok1 : True := trivial
    go_enter Try.func17, Try.ntmps17
    go_wp2_with (first | (have _t := tok1; go_at_call 28; (with_reducible refine ((T1 _).out).mono ?_); rintro e w1 ⟨rfl, hb1⟩; clear tok1 _t; have hz1 := hb1.size; (try simp only [World.size_alloc, World.size_setCell, World.size_drew, World.size_drewN'] at hz1); (try (have kq := cellAt hb1 (w.heap.size) (by go_size); have k1_w_0_0 := kq 0; have k1_w_0_1 := kq 1; have k1_w_0_2 := kq 2; clear kq; have f1_w_0 := frozAt hb1 (w.heap.size) (by go_size); simp [go_sem, *] at k1_w_0_0 k1_w_0_1 k1_w_0_2 f1_w_0)); (try have l1_w_0 : w.heap.size < w1.heap.size := by omega)) | (go_at_call 37; (with_reducible refine ((T2 _).out).mono ?_); rintro e w' ⟨rfl, rfl⟩) | (go_at_call 38; (with_reducible refine ((T3 _).out).mono ?_); rintro e w' ⟨rfl, rfl⟩))
    go_ret2
    refine ⟨rfl, ?_⟩
    repeat' first | (with_reducible first | apply zRf | assumption | apply zDn | apply zDr | apply zAl | apply zSt | refine zVi (by assumption) ?_ ?_) | go_size
  · rw [e1]
    rw [h1] at T1
    rw [h2] at T2
    clear h1 h2 e1
    have T3 := T1
    have tok1 : True := trivial
    go_enter Try.func17, Try.ntmps17
    go_wp2_with (first | (have _t := tok1; go_at_call 28; (with_reducible refine ((T1 _).out).mono ?_); rintro e w1 ⟨rfl, hb1⟩; clear tok1 _t; have hz1 := hb1.size; (try simp only [World.size_alloc, World.size_setCell, World.size_drew, World.size_drewN'] at hz1); (try (have kq := cellAt hb1 (w.heap.size) (by go_size); have k1_w_0_0 := kq 0; have k1_w_0_1 := kq 1; have k1_w_0_2 := kq 2; clear kq; have f1_w_0 := frozAt hb1 (w.heap.size) (by go_size); simp [go_sem, *] at k1_w_0_0 k1_w_0_1 k1_w_0_2 f1_w_0)); (try have l1_w_0 : w.heap.size < w1.heap.size := by omega)) | (go_at_call 37; (with_reducible refine ((T2 _).out).mono ?_); rintro e w' ⟨rfl, rfl⟩) | (go_at_call 38; (with_reducible refine ((T3 _).out).mono ?_); rintro e w' ⟨rfl, rfl⟩))
    go_ret2
    refine ⟨rfl, ?_⟩
    repeat' first | (with_reducible first | apply zRf | assumption | apply zDn | apply zDr | apply zAl | apply zSt | refine zVi (by assumption) ?_ ?_) | go_size
  · obtain ⟨hm, hk, n, rfl, hn1, hn2, hM, hn4⟩ := deB_bd h2
    have hpb := mdPB_bd hm
    rw [Int.toNat_natCast] at h3
    have T3 := fun W : World => Lib.hid (loPower_any p n W (by omega) (by omega) (by omega) (by rw [Int.toNat_natCast]; omega))
    rw [Int.toNat_natCast] at T3
    rw [h1] at T1
    rw [h2] at T2
    clear h1 h2 hm hk
    have hq := pow_pos' (p := p) (by omega) n
    have hq2 := pow_mono' (p := p) (by omega) hn1
    rw [show p ^ 1 = p by rw [Int.pow_succ, Int.pow_zero, Int.one_mul]] at hq2
    rcases h3 with ⟨h3, e1⟩ | ⟨h3, e1⟩
    · rw [e1]
      clear e1
      generalize p ^ n = M at *
      have tok1 : True := trivial
      go_enter Try.func17, Try.ntmps17
      go_wp2_with (first | (have _t := tok1; go_at_call 28; (with_reducible refine ((T1 _).out).mono ?_); rintro e w1 ⟨rfl, hb1⟩; clear tok1 _t; have hz1 := hb1.size; (try simp only [World.size_alloc, World.size_setCell, World.size_drew, World.size_drewN'] at hz1); (try (have kq := cellAt hb1 (w.heap.size) (by go_size); have k1_w_0_0 := kq 0; have k1_w_0_1 := kq 1; have k1_w_0_2 := kq 2; clear kq; have f1_w_0 := frozAt hb1 (w.heap.size) (by go_size); simp [go_sem, *] at k1_w_0_0 k1_w_0_1 k1_w_0_2 f1_w_0)); (try have l1_w_0 : w.heap.size < w1.heap.size := by omega)) | (go_at_call 37; (with_reducible refine ((T2 _).out).mono ?_); rintro e w' ⟨rfl, rfl⟩) | (go_at_call 38; (with_reducible refine ((T3 _).out).mono ?_); rintro e w' ⟨rfl, rfl⟩))
      go_ret2
      refine ⟨rfl, ?_⟩
      repeat' first | (with_reducible first | apply zRf | assumption | apply zDn | apply zDr | apply zAl | apply zSt | refine zVi (by assumption) ?_ ?_) | go_size
    · rw [e1]
      clear e1
      have HL := fun (m e : Int) (W : World) (hm : 0 ≤ m ∧ m < p ^ n) (he : 0 ≤ e ∧ e < p ^ n) => loLifts_any D A C m e p n W (by omega) (by omega) hn1 hn2 hM hm he
      obtain ⟨M, hMM⟩ : ∃ M : Nat, p ^ n = M := ⟨(p ^ n).toNat, by omega⟩
      simp only [Int.toNat_natCast]
      rw [hMM] at HL T3 h3 hM hq hq2 ⊢
      rw [Int.toNat_natCast]
      have HLL := Lib.hid HL
      clear HL hMM
      have tok1 : True := trivial
      have tok2 : True := trivial
      have tok3 : True := trivial
      have tok4 : True := trivial
      go_enter Try.func17, Try.ntmps17
      go_upto_region 1 with fail
      refine chk (fun W => Below w.heap.size w W ∧ W.heap[w.heap.size]? = some (.cells #[.int .i64 D, .int .i64 A, .int .i64 C] 24 (0, 0))) (by refine ⟨?_, ?_⟩ <;> (repeat' first | (with_reducible first | assumption | (apply Ne.symm; assumption) | apply Nat.le_refl | apply Nat.le_add_right | apply zL | apply zRf | apply Wx.box | apply Wx.box4 | apply zWa | apply Wx.drew | apply zWn | apply bx_drew | apply bx_drewN | apply bx_set3 | apply bx_set2 | apply bx_set4 | apply bx_set1) | ((with_reducible apply bx_new); (focus (go_size; done))) | (with_reducible first | apply zOl | apply zFa | apply zDn | apply zDr | apply zAl | apply zSt | refine zVi (by assumption) ?_ ?_) | go_size | omega)) ?_
      rintro w40 ⟨hB40, H_Q_40⟩
      obtain ⟨k_Q_40_0, k_Q_40_1, k_Q_40_2, f_Q_40, l_Q_40⟩ := bk3 H_Q_40
      replace H_Q_40 := Lib.hid H_Q_40
      go_upto_region 3 with (first | (have _t := tok1; go_at_call 28; (with_reducible refine ((T1 _).out).mono ?_); rintro e w1 ⟨rfl, hb1⟩; clear tok1 _t; have hz1 := hb1.size; (try simp only [World.size_alloc, World.size_setCell, World.size_drew, World.size_drewN'] at hz1); (try (have kq := cellAt hb1 (w.heap.size) (by go_size); have k1_w_0_0 := kq 0; have k1_w_0_1 := kq 1; have k1_w_0_2 := kq 2; clear kq; have f1_w_0 := frozAt hb1 (w.heap.size) (by go_size); simp [go_sem, *] at k1_w_0_0 k1_w_0_1 k1_w_0_2 f1_w_0)); (try have l1_w_0 : w.heap.size < w1.heap.size := by omega)) | (go_at_call 37; (with_reducible refine ((T2 _).out).mono ?_); rintro e w' ⟨rfl, rfl⟩) | (go_at_call 38; (with_reducible refine ((T3 _).out).mono ?_); rintro e w' ⟨rfl, rfl⟩))
      have H_Q_1 := (hb1.block (w.heap.size) (blk_lt' H_Q_40.out)).trans H_Q_40.out
      clear k_Q_40_0 k_Q_40_1 k_Q_40_2 f_Q_40 H_Q_40
      obtain ⟨k_Q_1_0, k_Q_1_1, k_Q_1_2, f_Q_1, l_Q_1⟩ := bk3 H_Q_1
      replace H_Q_1 := Lib.hid H_Q_1
      have hB1 : Below w.heap.size w w1 := below_via hb1 (by assumption) (by first | exact hB40.size | go_size)
      go_upto_region 4 with (first | (have _t := tok1; go_at_call 28; (with_reducible refine ((T1 _).out).mono ?_); rintro e w1 ⟨rfl, hb1⟩; clear tok1 _t; have hz1 := hb1.size; (try simp only [World.size_alloc, World.size_setCell, World.size_drew, World.size_drewN'] at hz1); (try (have kq := cellAt hb1 (w.heap.size) (by go_size); have k1_w_0_0 := kq 0; have k1_w_0_1 := kq 1; have k1_w_0_2 := kq 2; clear kq; have f1_w_0 := frozAt hb1 (w.heap.size) (by go_size); simp [go_sem, *] at k1_w_0_0 k1_w_0_1 k1_w_0_2 f1_w_0)); (try have l1_w_0 : w.heap.size < w1.heap.size := by omega)) | (go_at_call 37; (with_reducible refine ((T2 _).out).mono ?_); rintro e w' ⟨rfl, rfl⟩) | (go_at_call 38; (with_reducible refine ((T3 _).out).mono ?_); rintro e w' ⟨rfl, rfl⟩))
      clear T1 T2 T3
      go_wp2_with fail
      go_loopw [8, 10] (fun cv xv wr => ∃ x : Nat, xv = .int .i64 x ∧ cv = .int .i64 (cntP D A C p n x : Nat) ∧ x ≤ M ∧ wr.heap[w.heap.size]? = some (.cells #[.int .i64 D, .int .i64 A, .int .i64 C] 24 (0, 0)) ∧ Below w.heap.size w wr) (fun _ xv _ => (M - intOf xv).toNat)
      case atStart => exact ⟨0, rfl, by simp [cntP], by omega, H_Q_1.out, hB1⟩
      case round =>
        obtain ⟨x, rfl, rfl, hx, hQ, hbw⟩ := hrel
        by_cases hlt : x < M
        · have hltc : (x : Int) < M := by omega
          have T4 := fun W : World => Lib.hid (HLL.out x 1 W (by omega) (by omega))
          have T5 := fun W : World => Lib.hid (HLL.out 1 x W (by omega) (by omega))
          have hst := cntP_step D A C p n x
          have hle := cntP_le D A C p n x
          have hle2 := cntP_le D A C p n (x + 1)
          generalize cntP D A C p n x = c0 at *
          obtain ⟨c1, hc1⟩ : ∃ v, cntP D A C p n (x + 1) = v := ⟨_, rfl⟩
          rw [hc1] at hst hle2
          have HC1 := Lib.hid hc1
          have HST := Lib.hid hst
          clear hst hc1
          generalize poB D A C x 1 p n = b1 at *
          generalize poB D A C 1 x p n = b2 at *
          generalize liB D A C x 1 p n = l1 at *
          generalize liB D A C 1 x p n = l2 at *
          have hrem : (x : Int).tmod p = x % p := Int.tmod_eq_emod_of_nonneg (by omega)
          obtain ⟨rm, hrm⟩ : ∃ v, (x : Int) % p = v := ⟨_, rfl⟩
          rw [hrm] at hrem HST
          have hp0 : p ≠ 0 := by omega
          cases b1 <;> cases b2 <;> (by_cases hr0 : rm = 0)
          all_goals
            have h9 := HST.out
            simp [hr0] at h9
            have hr1 : (rm == 0) = decide (rm = 0) := by by_cases h : rm = 0 <;> simp [h]
            go_upto_region 7 with fail
            replace H_Q_1 := H_Q_1.out
            refine chk (fun W => Below w.heap.size w W ∧ W.heap[w.heap.size]? = some (.cells #[.int .i64 D, .int .i64 A, .int .i64 C] 24 (0, 0))) (by refine ⟨?_, ?_⟩ <;> (repeat' first | (with_reducible first | assumption | (apply Ne.symm; assumption) | apply Nat.le_refl | apply Nat.le_add_right | apply zL | apply zRf | apply Wx.box | apply Wx.box4 | apply zWa | apply Wx.drew | apply zWn | apply bx_drew | apply bx_drewN | apply bx_set3 | apply bx_set2 | apply bx_set4 | apply bx_set1) | ((with_reducible apply bx_new); (focus (go_size; done))) | (with_reducible first | apply zOl | apply zFa | apply zDn | apply zDr | apply zAl | apply zSt | refine zVi (by assumption) ?_ ?_) | go_size | omega)) ?_
            clear k_Q_1_0 k_Q_1_1 k_Q_1_2 f_Q_1 H_Q_1
            clear hB1
            rintro w2 ⟨hB2, H_Q_2⟩
            obtain ⟨k_Q_2_0, k_Q_2_1, k_Q_2_2, f_Q_2, l_Q_2⟩ := bk3 H_Q_2
            replace H_Q_2 := Lib.hid H_Q_2
            clear hQ
            go_upto_region 10 with (first | (have _t := tok3; go_at_call 44; (with_reducible refine ((T4 _).out).mono ?_); rintro e w3 ⟨rfl, hb3⟩; clear tok3 _t; have hz3 := hb3.size; (try simp only [World.size_alloc, World.size_setCell, World.size_drew, World.size_drewN'] at hz3)))
            have H_Q_3 := (hb3.block (w.heap.size) (blk_lt' H_Q_2.out)).trans H_Q_2.out
            clear k_Q_2_0 k_Q_2_1 k_Q_2_2 f_Q_2 H_Q_2
            obtain ⟨k_Q_3_0, k_Q_3_1, k_Q_3_2, f_Q_3, l_Q_3⟩ := bk3 H_Q_3
            replace H_Q_3 := Lib.hid H_Q_3
            have hB3 : Below w.heap.size w w3 := below_via hb3 (by assumption) (by first | exact hB2.size | go_size)
            go_upto_region 11 with (first | (have _t := tok4; go_at_call 44; (with_reducible refine ((T5 _).out).mono ?_); rintro e w4 ⟨rfl, hb4⟩; clear tok4 _t; have hz4 := hb4.size; (try simp only [World.size_alloc, World.size_setCell, World.size_drew, World.size_drewN'] at hz4)))
            have H_Q_4 := (hb4.block (w.heap.size) (blk_lt' H_Q_3.out)).trans H_Q_3.out
            clear k_Q_3_0 k_Q_3_1 k_Q_3_2 f_Q_3 H_Q_3
            obtain ⟨k_Q_4_0, k_Q_4_1, k_Q_4_2, f_Q_4, l_Q_4⟩ := bk3 H_Q_4
            replace H_Q_4 := Lib.hid H_Q_4
            have hB4 : Below w.heap.size w w4 := below_via hb4 (by assumption) (by first | exact hB3.size | go_size)
            go_wp2_with fail
            go_roundw
            have q1 := H_Q_4.out
            case rel => exact ⟨x + 1, by go_num, by rw [HC1.out]; subst h9; go_num, by omega, q1, hB4⟩
            case measure => simp [intOf]; omega
        · obtain rfl : x = M := by omega
          go_wp2_with fail
          go_ret2
          exact ⟨rfl, hbw⟩
end Go.Proofs.Ytegiddpakocodaa
