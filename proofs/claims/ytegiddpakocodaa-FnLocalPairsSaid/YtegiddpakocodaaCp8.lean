/- How many pairs are possible: the program, and the walk of the law. -/
import Derived.Test.YtegiddpakocodaaCp1
import Derived.Test.YtegiddpakocodaaCp6
namespace Go.Proofs.Ytegiddpakocodaa
open Go.RowKit
set_option linter.unusedVariables false
set_option maxHeartbeats 4000000
set_option maxRecDepth 20000
set_option linter.unusedSimpArgs false
def CouRel (w : World) (D A C : Int) (p n : Nat) (vv jv : Value) (wr : World) : Prop := ∃ (j B : Nat) (v : Value), jv = .int .i64 (j + 1 : Nat) ∧ v = vv ∧ 1 ≤ j ∧ j ≤ n ∧ OwnQ wr B v (pl D A C p j) ∧
  wr.heap[w.heap.size]? = some (.cells #[.int .i64 D, .int .i64 A, .int .i64 C] 24 (0, 0)) ∧ Below w.heap.size w wr
theorem CountPossible_any (d a c p k : Int) (w : World) : Calls Try.prog 16 #[.agg #[.int .i64 d, .int .i64 a, .int .i64 c], .int .i64 p, .int .i64 k] w fun r w' =>
    r = .returned (.tuple #[.int .i64 (coV d a c p k).1, .bool (coV d a c p k).2]) ∧ Below w.heap.size w w' := by
  have T1 := fun W : World => Lib.hid (isQuartic_any d a c W)
  have T2 := fun W : World => Lib.hid (inside_any p 2 997 W)
  have hnot : ∀ (x : Bool) (w : World), (Op.unary .not (.bool x)).run Try.prog w = .ok (.bool (!x)) w := fun _ _ => rfl
  have done : ∀ {P : Prop}, True → True := fun _ => trivial
  cases h1 : qaB d a c
  · rw [show coV d a c p k = (0, false) by simp [coV, h1]]
    rw [h1] at T1
    have T3 := T1; have T4 := T1; have T5 := T1; have T6 := T1
    clear h1 done
    have tok1 : True := trivial
    have tok2 : True := trivial
    go_enter Try.func16, Try.ntmps16
    go_wp2_with (first | (have _t := tok1; go_at_call 24; (with_reducible refine ((T1 _).out).mono ?_); rintro e w1 ⟨rfl, hb1⟩; clear tok1 _t; have hz1 := hb1.size; (try simp only [World.size_alloc, World.size_setCell, World.size_drew, World.size_drewN'] at hz1); (try (have kq := cellAt hb1 (w.heap.size) (by go_size); have k1_w_0_0 := kq 0; have k1_w_0_1 := kq 1; have k1_w_0_2 := kq 2; clear kq; have f1_w_0 := frozAt hb1 (w.heap.size) (by go_size); simp [go_sem, *] at k1_w_0_0 k1_w_0_1 k1_w_0_2 f1_w_0)); (try have l1_w_0 : w.heap.size < w1.heap.size := by omega)) | (go_at_call 25; (with_reducible refine ((T2 _).out).mono ?_); rintro e w' ⟨rfl, rfl⟩) | (go_at_call 26; (with_reducible refine ((T3 _).out).mono ?_); rintro e w' ⟨rfl, rfl⟩) | (go_at_call 39; (with_reducible refine ((T4 _).out).mono ?_); rintro e w' ⟨rfl, rfl⟩) | (go_at_call 25; (with_reducible refine ((T5 _).out).mono ?_); rintro e w' ⟨rfl, rfl⟩) | (go_at_call 41; (with_reducible refine ((T6 _).out).mono ?_); rintro e w' ⟨rfl, rfl⟩))
    go_ret2
    refine ⟨rfl, ?_⟩
    repeat' first | (with_reducible first | apply zRf | assumption | apply zDn | apply zDr | apply zAl | apply zSt | refine zVi (by assumption) ?_ ?_) | go_size
  · rw [h1] at T1
    cases h2 : inB p 2 997
    · rw [show coV d a c p k = (0, false) by simp [coV, deB, mdPB, h2]]
      rw [h2] at T2
      have T3 := T1; have T4 := T1; have T5 := T1; have T6 := T1
      clear h1 h2 done
      have tok1 : True := trivial
      have tok2 : True := trivial
      go_enter Try.func16, Try.ntmps16
      go_wp2_with (first | (have _t := tok1; go_at_call 24; (with_reducible refine ((T1 _).out).mono ?_); rintro e w1 ⟨rfl, hb1⟩; clear tok1 _t; have hz1 := hb1.size; (try simp only [World.size_alloc, World.size_setCell, World.size_drew, World.size_drewN'] at hz1); (try (have kq := cellAt hb1 (w.heap.size) (by go_size); have k1_w_0_0 := kq 0; have k1_w_0_1 := kq 1; have k1_w_0_2 := kq 2; clear kq; have f1_w_0 := frozAt hb1 (w.heap.size) (by go_size); simp [go_sem, *] at k1_w_0_0 k1_w_0_1 k1_w_0_2 f1_w_0)); (try have l1_w_0 : w.heap.size < w1.heap.size := by omega)) | (go_at_call 25; (with_reducible refine ((T2 _).out).mono ?_); rintro e w' ⟨rfl, rfl⟩) | (go_at_call 26; (with_reducible refine ((T3 _).out).mono ?_); rintro e w' ⟨rfl, rfl⟩) | (go_at_call 39; (with_reducible refine ((T4 _).out).mono ?_); rintro e w' ⟨rfl, rfl⟩) | (go_at_call 25; (with_reducible refine ((T5 _).out).mono ?_); rintro e w' ⟨rfl, rfl⟩) | (go_at_call 41; (with_reducible refine ((T6 _).out).mono ?_); rintro e w' ⟨rfl, rfl⟩))
      go_ret2
      refine ⟨rfl, ?_⟩
      repeat' first | (with_reducible first | apply zRf | assumption | apply zDn | apply zDr | apply zAl | apply zSt | refine zVi (by assumption) ?_ ?_) | go_size
    · rw [h2] at T2
      have pb := inB_iff.1 h2
      have T3 := fun W : World => Lib.hid (isPrime_any p W pb.1 (by omega))
      have T4 := fun W : World => Lib.hid (depth_any p W pb.1 (by omega))
      have T5 := fun W : World => Lib.hid (inside_any k 1 (dp p) W)
      cases h3 : primeB p
      · rw [show coV d a c p k = (0, false) by simp [coV, deB, mdPB, h3]]
        rw [h3] at T3
        have T6 := T1
        clear h1 h2 h3 pb done
        generalize ((dp p : Nat) : Int) = dd at *
        have tok1 : True := trivial
        have tok2 : True := trivial
        go_enter Try.func16, Try.ntmps16
        go_wp2_with (first | (have _t := tok1; go_at_call 24; (with_reducible refine ((T1 _).out).mono ?_); rintro e w1 ⟨rfl, hb1⟩; clear tok1 _t; have hz1 := hb1.size; (try simp only [World.size_alloc, World.size_setCell, World.size_drew, World.size_drewN'] at hz1); (try (have kq := cellAt hb1 (w.heap.size) (by go_size); have k1_w_0_0 := kq 0; have k1_w_0_1 := kq 1; have k1_w_0_2 := kq 2; clear kq; have f1_w_0 := frozAt hb1 (w.heap.size) (by go_size); simp [go_sem, *] at k1_w_0_0 k1_w_0_1 k1_w_0_2 f1_w_0)); (try have l1_w_0 : w.heap.size < w1.heap.size := by omega)) | (go_at_call 25; (with_reducible refine ((T2 _).out).mono ?_); rintro e w' ⟨rfl, rfl⟩) | (go_at_call 26; (with_reducible refine ((T3 _).out).mono ?_); rintro e w' ⟨rfl, rfl⟩) | (go_at_call 39; (with_reducible refine ((T4 _).out).mono ?_); rintro e w' ⟨rfl, rfl⟩) | (go_at_call 25; (with_reducible refine ((T5 _).out).mono ?_); rintro e w' ⟨rfl, rfl⟩) | (go_at_call 41; (with_reducible refine ((T6 _).out).mono ?_); rintro e w' ⟨rfl, rfl⟩))
        go_ret2
        refine ⟨rfl, ?_⟩
        repeat' first | (with_reducible first | apply zRf | assumption | apply zDn | apply zDr | apply zAl | apply zSt | refine zVi (by assumption) ?_ ?_) | go_size
      · rw [h3] at T3
        cases h4 : inB k 1 (dp p)
        · rw [show coV d a c p k = (0, false) by simp [coV, deB, mdPB, h4]]
          rw [h4] at T5
          have T6 := T1
          clear h1 h2 h3 h4 pb done
          generalize ((dp p : Nat) : Int) = dd at *
          have tok1 : True := trivial
          have tok2 : True := trivial
          go_enter Try.func16, Try.ntmps16
          go_wp2_with (first | (have _t := tok1; go_at_call 24; (with_reducible refine ((T1 _).out).mono ?_); rintro e w1 ⟨rfl, hb1⟩; clear tok1 _t; have hz1 := hb1.size; (try simp only [World.size_alloc, World.size_setCell, World.size_drew, World.size_drewN'] at hz1); (try (have kq := cellAt hb1 (w.heap.size) (by go_size); have k1_w_0_0 := kq 0; have k1_w_0_1 := kq 1; have k1_w_0_2 := kq 2; clear kq; have f1_w_0 := frozAt hb1 (w.heap.size) (by go_size); simp [go_sem, *] at k1_w_0_0 k1_w_0_1 k1_w_0_2 f1_w_0)); (try have l1_w_0 : w.heap.size < w1.heap.size := by omega)) | (go_at_call 25; (with_reducible refine ((T2 _).out).mono ?_); rintro e w' ⟨rfl, rfl⟩) | (go_at_call 26; (with_reducible refine ((T3 _).out).mono ?_); rintro e w' ⟨rfl, rfl⟩) | (go_at_call 39; (with_reducible refine ((T4 _).out).mono ?_); rintro e w' ⟨rfl, rfl⟩) | (go_at_call 25; (with_reducible refine ((T5 _).out).mono ?_); rintro e w' ⟨rfl, rfl⟩) | (go_at_call 41; (with_reducible refine ((T6 _).out).mono ?_); rintro e w' ⟨rfl, rfl⟩))
          go_ret2
          refine ⟨rfl, ?_⟩
          repeat' first | (with_reducible first | apply zRf | assumption | apply zDn | apply zDr | apply zAl | apply zSt | refine zVi (by assumption) ?_ ?_) | go_size
        · rw [h4] at T5
          have hde : deB p k = true := by simp [deB, mdPB, h2, h3, h4]
          obtain ⟨g1, g2, n, rfl, n1, n2, n3, n4⟩ := deB_bd hde
          have T6 := fun W : World => Lib.hid (intPower_any p n W (by omega) (by omega) (by omega) (by rw [Int.toNat_natCast]; omega))
          rw [Int.toNat_natCast] at T6
          by_cases h5 : p ^ n ≤ 1000
          · rw [show coV d a c p n = (((cntP d a c p n (p ^ n).toNat : Nat) : Int), true) by simp [coV, h1, hde, h5]]
            rw [cntP_pl]
            obtain ⟨P, rfl⟩ : ∃ P : Nat, p = P := ⟨p.toNat, by omega⟩
            have T7 := Lib.hid (fun W : World => firstPairs_any d a c P W (by omega) (by omega))
            have T8 := Lib.hid (fun (j : Nat) (v : Value) (B : Nat) (W : World) (h1 : 1 ≤ j) (h2 : j + 1 ≤ n) (ho : OwnQ W B v (pl d a c P j)) => nextPairs_any d a c P j v B W (by omega) (by omega) h1 (by omega) (by have := pow_mono' (p := (P : Int)) (by omega) h2; omega) ho)
            clear h1 h2 h3 h4 g1 g2 hde n3 n4 pb done
            generalize ((dp (P : Int) : Nat) : Int) = dd at *
            generalize (P : Int) ^ n = q at *
            have tok1 : True := trivial
            have tok2 : True := trivial
            have tok3 : True := trivial
            have tok4 : True := trivial
            have tok5 : True := trivial
            go_enter Try.func16, Try.ntmps16
            go_upto_region 1 with fail
            refine chk (fun W => Below w.heap.size w W ∧ W.heap[w.heap.size]? = some (.cells #[.int .i64 d, .int .i64 a, .int .i64 c] 24 (0, 0))) (by refine ⟨?_, ?_⟩ <;> (repeat' first | (with_reducible first | assumption | (apply Ne.symm; assumption) | apply Nat.le_refl | apply Nat.le_add_right | apply zL | apply zRf | apply Wx.box | apply Wx.box4 | apply zWa | apply Wx.drew | apply zWn | apply bx_drew | apply bx_drewN | apply bx_set3 | apply bx_set2 | apply bx_set4 | apply bx_set1) | ((with_reducible apply bx_new); (focus (go_size; done))) | (with_reducible first | apply zOl | apply zFa | apply zDn | apply zDr | apply zAl | apply zSt | refine zVi (by assumption) ?_ ?_) | go_size | omega)) ?_
            rintro w40 ⟨hB40, H_Q_40⟩
            obtain ⟨k_Q_40_0, k_Q_40_1, k_Q_40_2, f_Q_40, l_Q_40⟩ := bk3 H_Q_40
            replace H_Q_40 := Lib.hid H_Q_40
            go_upto_region 3 with (first | (have _t := tok1; go_at_call 24; (with_reducible refine ((T1 _).out).mono ?_); rintro e w1 ⟨rfl, hb1⟩; clear tok1 _t; have hz1 := hb1.size; (try simp only [World.size_alloc, World.size_setCell, World.size_drew, World.size_drewN'] at hz1); (try (have kq := cellAt hb1 (w.heap.size) (by go_size); have k1_w_0_0 := kq 0; have k1_w_0_1 := kq 1; have k1_w_0_2 := kq 2; clear kq; have f1_w_0 := frozAt hb1 (w.heap.size) (by go_size); simp [go_sem, *] at k1_w_0_0 k1_w_0_1 k1_w_0_2 f1_w_0)); (try have l1_w_0 : w.heap.size < w1.heap.size := by omega)) | (go_at_call 25; (with_reducible refine ((T2 _).out).mono ?_); rintro e w' ⟨rfl, rfl⟩) | (go_at_call 26; (with_reducible refine ((T3 _).out).mono ?_); rintro e w' ⟨rfl, rfl⟩) | (go_at_call 39; (with_reducible refine ((T4 _).out).mono ?_); rintro e w' ⟨rfl, rfl⟩) | (go_at_call 25; (with_reducible refine ((T5 _).out).mono ?_); rintro e w' ⟨rfl, rfl⟩) | (go_at_call 41; (with_reducible refine ((T6 _).out).mono ?_); rintro e w' ⟨rfl, rfl⟩))
            have H_Q_1 := (hb1.block (w.heap.size) (blk_lt' H_Q_40.out)).trans H_Q_40.out
            clear k_Q_40_0 k_Q_40_1 k_Q_40_2 f_Q_40 H_Q_40
            obtain ⟨k_Q_1_0, k_Q_1_1, k_Q_1_2, f_Q_1, l_Q_1⟩ := bk3 H_Q_1
            replace H_Q_1 := Lib.hid H_Q_1
            have hB1 : Below w.heap.size w w1 := below_via hb1 (by assumption) (by first | exact hB40.size | go_size)
            clear T1 T2 T3 T4 T5 T6
            go_upto_region 4 with (first | (have _t := tok2; go_at_call 49; (with_reducible refine ((T7.out _)).mono ?_); rintro e w2 ⟨v, Bq, rfl, ho, hBq, hb2⟩; clear tok2 _t; have hz2 := hb2.size; (try simp only [World.size_alloc, World.size_setCell, World.size_drew, World.size_drewN'] at hz2)))
            have H_Q_2 := (hb2.block (w.heap.size) (blk_lt' H_Q_1.out)).trans H_Q_1.out
            clear k_Q_1_0 k_Q_1_1 k_Q_1_2 f_Q_1 H_Q_1
            obtain ⟨k_Q_2_0, k_Q_2_1, k_Q_2_2, f_Q_2, l_Q_2⟩ := bk3 H_Q_2
            replace H_Q_2 := Lib.hid H_Q_2
            have hB2 : Below w.heap.size w w2 := below_via hb2 (by assumption) (by first | exact hB1.size | go_size)
            have ho2 := Lib.hid ho
            clear ho
            go_wp2_with fail
            go_loopw [8, 9] (fun vv jv wr => CouRel w d a c P n vv jv wr) (fun _ jv _ => (n + 1 - intOf jv).toNat)
            case atStart => exact ⟨1, Bq, v, rfl, rfl, by omega, by omega, ho2.out, H_Q_2.out, hB2⟩
            case round =>
              obtain ⟨j, B, v, rfl, rfl, hj1, hjn, ho, hQ, hbw⟩ := hrel
              clear ho2
              by_cases hlt : j < n
              · have hltc : ((j + 1 : Nat) : Int) ≤ n := by omega
                have T9 := fun W : World => Lib.hid (fun ho : OwnQ W B v (pl d a c P j) => T8.out j v B W hj1 (by omega) ho)
                have hstep : ((j + 1 : Nat) : Int) + 1 = (j + 1 + 1 : Nat) := by omega
                have HO := Lib.hid ho
                clear ho
                obtain ⟨J, hJ⟩ : ∃ J : Int, ((j + 1 : Nat) : Int) = J := ⟨_, rfl⟩
                rw [hJ] at T9 hstep hltc ⊢
                have HST := Lib.hid hstep
                have HJ := Lib.hid (show 2 ≤ J ∧ J ≤ 1001 by omega)
                have HJ3 := Lib.hid hJ.symm
                clear hstep hJ
                obtain ⟨hJ1, hJ2⟩ := HJ.out
                go_upto_region 7 with fail
                replace H_Q_2 := H_Q_2.out
                refine chk (fun W => Below w.heap.size w W ∧ W.heap[w.heap.size]? = some (.cells #[.int .i64 d, .int .i64 a, .int .i64 c] 24 (0, 0)) ∧ Below wr.heap.size wr W) (by refine ⟨?_, ?_, ?_⟩ <;> (repeat' first | (with_reducible first | assumption | (apply Ne.symm; assumption) | apply Nat.le_refl | apply Nat.le_add_right | apply zL | apply zRf | apply Wx.box | apply Wx.box4 | apply zWa | apply Wx.drew | apply zWn | apply bx_drew | apply bx_drewN | apply bx_set3 | apply bx_set2 | apply bx_set4 | apply bx_set1) | ((with_reducible apply bx_new); (focus (go_size; done))) | (with_reducible first | apply zOl | apply zFa | apply zDn | apply zDr | apply zAl | apply zSt | refine zVi (by assumption) ?_ ?_) | go_size | omega)) ?_
                clear k_Q_2_0 k_Q_2_1 k_Q_2_2 f_Q_2 H_Q_2
                clear hB2
                rintro w3 ⟨hB3, H_Q_3, hbr⟩
                obtain ⟨k_Q_3_0, k_Q_3_1, k_Q_3_2, f_Q_3, l_Q_3⟩ := bk3 H_Q_3
                replace H_Q_3 := Lib.hid H_Q_3
                have ho3 := HO.out.below hbr
                have T10 := Lib.hid ((T9 w3).out ho3)
                go_wp2_with (first | (have _t := tok4; go_at_call 50; (with_reducible refine (T10.out).mono ?_); rintro e w4 ⟨v4, B4, rfl, ho4, hB4, hb4⟩; clear tok4 _t; have hz4 := hb4.size; (try simp only [World.size_alloc, World.size_setCell, World.size_drew, World.size_drewN'] at hz4)))
                go_roundw
                case rel => exact ⟨j + 1, B4, v4, by rw [← HST.out], rfl, by omega, by omega, ho4, (hb4.block _ (blk_lt' H_Q_3.out)).trans H_Q_3.out, below_via hb4 hB3 (by go_size)⟩
                case measure => rw [HST.out, HJ3.out]; simp [intOf]; omega
              · obtain rfl : j = n := by omega
                obtain ⟨g, c4, a4, cur, rfl, -, -, -⟩ := ho.row
                have hltc : ¬ ((j + 1 : Nat) : Int) ≤ j := by omega
                go_wp2_with fail
                go_ret2
                exact ⟨rfl, hbw⟩
          · rw [show coV d a c p n = (0, false) by simp [coV, h5]]
            clear h1 h2 h3 h4 g1 g2 hde n1 n2 n3 n4 pb done
            generalize ((dp p : Nat) : Int) = dd at *
            generalize p ^ n = q at *
            generalize (n : Int) = kk at *
            have tok1 : True := trivial
            have tok2 : True := trivial
            go_enter Try.func16, Try.ntmps16
            go_wp2_with (first | (have _t := tok1; go_at_call 24; (with_reducible refine ((T1 _).out).mono ?_); rintro e w1 ⟨rfl, hb1⟩; clear tok1 _t; have hz1 := hb1.size; (try simp only [World.size_alloc, World.size_setCell, World.size_drew, World.size_drewN'] at hz1); (try (have kq := cellAt hb1 (w.heap.size) (by go_size); have k1_w_0_0 := kq 0; have k1_w_0_1 := kq 1; have k1_w_0_2 := kq 2; clear kq; have f1_w_0 := frozAt hb1 (w.heap.size) (by go_size); simp [go_sem, *] at k1_w_0_0 k1_w_0_1 k1_w_0_2 f1_w_0)); (try have l1_w_0 : w.heap.size < w1.heap.size := by omega)) | (go_at_call 25; (with_reducible refine ((T2 _).out).mono ?_); rintro e w' ⟨rfl, rfl⟩) | (go_at_call 26; (with_reducible refine ((T3 _).out).mono ?_); rintro e w' ⟨rfl, rfl⟩) | (go_at_call 39; (with_reducible refine ((T4 _).out).mono ?_); rintro e w' ⟨rfl, rfl⟩) | (go_at_call 25; (with_reducible refine ((T5 _).out).mono ?_); rintro e w' ⟨rfl, rfl⟩) | (go_at_call 41; (with_reducible refine ((T6 _).out).mono ?_); rintro e w' ⟨rfl, rfl⟩))
            go_ret2
            refine ⟨rfl, ?_⟩
            repeat' first | (with_reducible first | apply zRf | assumption | apply zDn | apply zDr | apply zAl | apply zSt | refine zVi (by assumption) ?_ ?_) | go_size
end Go.Proofs.Ytegiddpakocodaa
