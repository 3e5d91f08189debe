/- Lemmas and contracts of functions. No condition. -/
import Derived.Test.YtfbegjiebahdcaaPk40
namespace Go.Proofs.Ytfbegjiebahdcaa
open Go.RowKit
set_option linter.unusedVariables false
set_option maxHeartbeats 1000000
set_option maxRecDepth 20000
set_option linter.unusedSimpArgs false
attribute [local go_sem] openAt openUpon
def LiRel (w : World) (A B : Int) (zs : List Int) (n : Nat) (r1 : Int) (r2 : Bool) (iv bv hv : Value) (wr : World) : Prop := ∃ (k : Nat) (b h b' h' : Int), iv = .int .i64 k ∧ bv = .int .i64 b' ∧ hv = .int .i64 h' ∧ k ≤ n ∧ lpF A B zs (n - k) k b h = (r1, r2) ∧ (k = 0 → b' = -1) ∧ (0 < k → b' = b ∧ h' = h ∧ 0 ≤ b ∧ 0 ≤ h ∧ h ≤ 14100000) ∧
  wr.heap[w.heap.size]? = some (.cells #[.int .i64 A, .int .i64 B] 28 (0, 0)) ∧ Below w.heap.size w wr
theorem LowestPoint_any (A B : Int) (a : Option Addr) (n c : Nat) (zs : List Int) (w : World) (hp : Px w a n c zs) : Calls Try.prog 51 #[.agg #[.int .i64 A, .int .i64 B], .slice a n c] w fun r w' => r = .returned (.tuple #[.int .i64 (lpV A B zs n).1, .bool (lpV A B zs n).2]) ∧ Below w.heap.size w w' := by
  have T1 := fun W : World => Lib.hid (isCurve_any A B W)
  have T2 := fun W : World => Lib.hid (inside_any n 1 20 W)
  have hnm := hp.cap
  have hnm2 := hp.max
  unfold maxLen at hnm2
  rcases lpV_cases A B zs n with ⟨h1, e1⟩ | ⟨h1, ⟨h2, e1⟩ | ⟨h2, e1⟩⟩
  · rw [e1]
    rw [h1] at T1
    clear h1 e1
    have tok1 : True := trivial
    go_enter Try.func51, Try.ntmps51
    go_wp2_with (first | (have _t := tok1; go_at_call 58; (with_reducible refine ((T1 _).out).mono ?_); rintro e w1 ⟨rfl, hb1⟩; clear tok1 _t; have hz1 := hb1.size; (try simp only [World.size_alloc, World.size_setCell, World.size_drew, World.size_drewN'] at hz1); (try (have kq := cellAt hb1 (w.heap.size) (by go_size); have k1_w_0_0 := kq 0; have k1_w_0_1 := kq 1; clear kq; have f1_w_0 := frozAt hb1 (w.heap.size) (by go_size); simp [go_sem, *] at k1_w_0_0 k1_w_0_1 f1_w_0)); (try have l1_w_0 : w.heap.size < w1.heap.size := by omega)) | (go_at_call 59; (with_reducible refine ((T2 _).out).mono ?_); rintro e w' ⟨rfl, rfl⟩))
    go_ret2
    refine ⟨rfl, ?_⟩
    repeat' first | (with_reducible first | apply zRf | assumption | apply zDn | apply zDr | apply zAl | apply zSt | refine zVi (by assumption) ?_ ?_) | go_size
  · rw [e1]
    rw [h1] at T1
    rw [h2] at T2
    clear h1 h2 e1
    have tok1 : True := trivial
    go_enter Try.func51, Try.ntmps51
    go_wp2_with (first | (have _t := tok1; go_at_call 58; (with_reducible refine ((T1 _).out).mono ?_); rintro e w1 ⟨rfl, hb1⟩; clear tok1 _t; have hz1 := hb1.size; (try simp only [World.size_alloc, World.size_setCell, World.size_drew, World.size_drewN'] at hz1); (try (have kq := cellAt hb1 (w.heap.size) (by go_size); have k1_w_0_0 := kq 0; have k1_w_0_1 := kq 1; clear kq; have f1_w_0 := frozAt hb1 (w.heap.size) (by go_size); simp [go_sem, *] at k1_w_0_0 k1_w_0_1 f1_w_0)); (try have l1_w_0 : w.heap.size < w1.heap.size := by omega)) | (go_at_call 59; (with_reducible refine ((T2 _).out).mono ?_); rintro e w' ⟨rfl, rfl⟩))
    go_ret2
    refine ⟨rfl, ?_⟩
    repeat' first | (with_reducible first | apply zRf | assumption | apply zDn | apply zDr | apply zAl | apply zSt | refine zVi (by assumption) ?_ ?_) | go_size
  · rw [e1]
    have hb := cvB_bd h1
    have hk := inB_iff.1 h2
    have HCV := Lib.hid h1
    rw [h1] at T1
    rw [h2] at T2
    obtain ⟨r1, r2, hr⟩ : ∃ r1 r2, lpF A B zs n 0 0 0 = (r1, r2) := ⟨_, _, rfl⟩
    rw [hr]
    dsimp only
    have HR := Lib.hid hr
    have hn20 : n ≤ 20 := by omega
    clear hr h1 h2 e1
    have tok1 : True := trivial
    have tok2 : True := trivial
    have tok3 : True := trivial
    have tok4 : True := trivial
    have tok5 : True := trivial
    have tok6 : True := trivial
    have tok7 : True := trivial
    have tok8 : True := trivial
    have tok9 : True := trivial
    go_enter Try.func51, Try.ntmps51
    go_wp2_with (first | (have _t := tok1; go_at_call 58; (with_reducible refine ((T1 _).out).mono ?_); rintro e w1 ⟨rfl, hb1⟩; clear tok1 _t; have hz1 := hb1.size; (try simp only [World.size_alloc, World.size_setCell, World.size_drew, World.size_drewN'] at hz1); (try (have kq := cellAt hb1 (w.heap.size) (by go_size); have k1_w_0_0 := kq 0; have k1_w_0_1 := kq 1; clear kq; have f1_w_0 := frozAt hb1 (w.heap.size) (by go_size); simp [go_sem, *] at k1_w_0_0 k1_w_0_1 f1_w_0)); (try have l1_w_0 : w.heap.size < w1.heap.size := by omega)) | (go_at_call 59; (with_reducible refine ((T2 _).out).mono ?_); rintro e w' ⟨rfl, rfl⟩))
    have hz1' := hb1.size
    simp only [World.size_alloc] at hz1'
    have HC1 : w1.heap[w.heap.size]? = some (.cells #[.int .i64 A, .int .i64 B] 28 (0, 0)) := (hb1.block _ (by go_size)).trans (by (repeat' first | (with_reducible first | assumption | (apply Ne.symm; assumption) | apply Nat.le_refl | apply Nat.le_add_right | apply zL | apply zRf | apply Wx.box | apply Wx.box4 | apply zWa | apply Wx.drew | apply zWn | apply bx_drew | apply bx_drewN | apply bx_set2 | apply bx_set4 | apply bx_set1) | ((with_reducible apply bx_new); (focus (go_size; done))) | (with_reducible first | apply zOl | apply zFa | apply zDn | apply zDr | apply zAl | apply zSt | refine zVi (by assumption) ?_ ?_) | go_size | omega))
    have HB1 : Below w.heap.size w w1 := by
      repeat' first | (with_reducible first | apply zRf | assumption | apply zDn | apply zDr | apply zAl | apply zSt | refine zVi (by assumption) ?_ ?_) | go_size
    go_loopw [24, 6, 7] (fun iv bv hv wr => LiRel w A B zs n r1 r2 iv bv hv wr) (fun iv _ _ _ => (n - intOf iv).toNat)
    case atStart => exact ⟨0, 0, 0, -1, 0, rfl, rfl, rfl, by omega, HR.out, fun _ => rfl, fun h => absurd h (by omega), HC1, HB1⟩
    case round =>
      clear HC1 HB1 hb1
      obtain ⟨k, b, h, b', h', rfl, rfl, rfl, hkn, hlp, hb1', hb2', hC, hbw⟩ := hrel
      by_cases hlt : k < n
      · have hltc : (k : Int) < n := by omega
        obtain ⟨b0, off, rfl, hb0, hcs⟩ := hp.at (by omega)
        have c0 := (hbw.cell (p := ⟨b0, off + k * 3, none⟩) hb0).trans (hcs (k * 3) (by omega))
        have c1 := (hbw.cell (p := ⟨b0, off + k * 3 + 1, none⟩) hb0).trans (hcs (k * 3 + 1) (by omega))
        have c2 := (hbw.cell (p := ⟨b0, off + k * 3 + 2, none⟩) hb0).trans (hcs (k * 3 + 2) (by omega))
        obtain ⟨X, hX⟩ : ∃ v, zs[k * 3]?.getD 0 = v := ⟨_, rfl⟩
        obtain ⟨Y, hY⟩ : ∃ v, zs[k * 3 + 1]?.getD 0 = v := ⟨_, rfl⟩
        obtain ⟨E, hE⟩ : ∃ v, zs[k * 3 + 2]?.getD 0 = v := ⟨_, rfl⟩
        have hstep := lpF_step (A := A) (B := B) (b := b) (h := h) hlt hX hY hE
        rw [hlp] at hstep
        rw [hX] at c0
        rw [hY] at c1
        rw [hE] at c2
        have HS := Lib.hid hstep
        have HB1' := Lib.hid hb1'
        have HB2' := Lib.hid hb2'
        have hsw := hbw.size
        clear hcs hX hY hE hstep hlp hb1' hb2'
        go_upto_region 7 with (fail)
        refine chk (fun W => Below w.heap.size w W ∧ W.heap[w.heap.size]? = some (.cells #[.int .i64 A, .int .i64 B] 28 (0, 0)) ∧ W.heap[wr.heap.size]? = some (.cells #[.int .i64 X, .int .i64 Y, .int .i64 E] 54 (0, 0))) (by refine ⟨?_, ?_, ?_⟩ <;> (repeat' first | (with_reducible first | assumption | (apply Ne.symm; assumption) | apply Nat.le_refl | apply Nat.le_add_right | apply zL | apply zRf | apply Wx.box | apply Wx.box4 | apply zWa | apply Wx.drew | apply zWn | apply bx_drew | apply bx_drewN | apply bx_set2 | apply bx_set4 | apply bx_set1) | ((with_reducible apply bx_new); (focus (go_size; done))) | (with_reducible first | apply zOl | apply zFa | apply zDn | apply zDr | apply zAl | apply zSt | refine zVi (by assumption) ?_ ?_) | go_size | omega)) ?_
        rintro w2 ⟨hB2, H_C_2, H_Q_2⟩
        obtain ⟨k_C_2_0, k_C_2_1, f_C_2, l_C_2⟩ := bk2 H_C_2
        replace H_C_2 := Lib.hid H_C_2
        obtain ⟨k_Q_2_0, k_Q_2_1, k_Q_2_2, f_Q_2, l_Q_2⟩ := bk3 H_Q_2
        replace H_Q_2 := Lib.hid H_Q_2
        clear hC c0 c1 c2
        have TP0 := fun W => isP_any A B X Y E W
        rcases HS.out with ⟨g1, g2⟩ | ⟨g1, g3⟩
        · have TP := TP0
          rw [show pqB A B X Y E = false by unfold pqB; rw [g1, Bool.and_false]] at TP
          have HG := Lib.hid g2
          clear g1 g2 TP0
          go_upto_region 8 with (first | (have _t := tok3; go_at_call 74; (with_reducible refine ((TP _)).mono ?_); rintro e w3 ⟨rfl, hb3⟩; clear tok3 _t; have hz3 := hb3.size; (try simp only [World.size_alloc, World.size_setCell, World.size_drew, World.size_drewN'] at hz3); (try (have kq := cellAt hb3 (w.heap.size) (by go_size); have k3_w_0_0 := kq 0; have k3_w_0_1 := kq 1; clear kq; have f3_w_0 := frozAt hb3 (w.heap.size) (by go_size); simp [go_sem, *] at k3_w_0_0 k3_w_0_1 f3_w_0)); (try have l3_w_0 : w.heap.size < w3.heap.size := by omega); (try (have kq := cellAt hb3 (wr.heap.size) (by go_size); have k3_wr_0_0 := kq 0; have k3_wr_0_1 := kq 1; have k3_wr_0_2 := kq 2; clear kq; have f3_wr_0 := frozAt hb3 (wr.heap.size) (by go_size); simp [go_sem, *] at k3_wr_0_0 k3_wr_0_1 k3_wr_0_2 f3_wr_0)); (try have l3_wr_0 : wr.heap.size < w3.heap.size := by omega); (try clear k1_w_0_0 k1_w_0_1 f1_w_0); (try clear l1_w_0); (try clear k1_wr_0_0 k1_wr_0_1 k1_wr_0_2 f1_wr_0); (try clear l1_wr_0); (try clear k2_w_0_0 k2_w_0_1 f2_w_0); (try clear l2_w_0); (try clear k2_wr_0_0 k2_wr_0_1 k2_wr_0_2 f2_wr_0); (try clear l2_wr_0)))
          go_wp2_with fail
          go_ret2
          refine ⟨by have := HG.out; simp only [Prod.mk.injEq] at this; rw [this.1, this.2]; rfl, ?_⟩
          repeat' first | (with_reducible first | apply zRf | assumption | apply zDn | apply zDr | apply zAl | apply zSt | refine zVi (by assumption) ?_ ?_) | go_size
        · have TP := TP0
          have hpq : pqB A B X Y E = true := by unfold pqB; rw [HCV.out, g1]; rfl
          rw [hpq] at TP
          have hpb := pq_bd hpq
          have hbb := best_bd hpq
          have TB := fun W => bestHeight_any A B X Y E W hpb.1 hpb.2.1 hpb.2.2.1 hpb.2.2.2.1 hpb.2.2.2.2
          have HG3 := Lib.hid g3
          clear hpq hpb g1 g3 TP0
          go_upto_region 9 with (first | (have _t := tok3; go_at_call 74; (with_reducible refine ((TP _)).mono ?_); rintro e w3 ⟨rfl, hb3⟩; clear tok3 _t; have hz3 := hb3.size; (try simp only [World.size_alloc, World.size_setCell, World.size_drew, World.size_drewN'] at hz3); (try (have kq := cellAt hb3 (w.heap.size) (by go_size); have k3_w_0_0 := kq 0; have k3_w_0_1 := kq 1; clear kq; have f3_w_0 := frozAt hb3 (w.heap.size) (by go_size); simp [go_sem, *] at k3_w_0_0 k3_w_0_1 f3_w_0)); (try have l3_w_0 : w.heap.size < w3.heap.size := by omega); (try (have kq := cellAt hb3 (wr.heap.size) (by go_size); have k3_wr_0_0 := kq 0; have k3_wr_0_1 := kq 1; have k3_wr_0_2 := kq 2; clear kq; have f3_wr_0 := frozAt hb3 (wr.heap.size) (by go_size); simp [go_sem, *] at k3_wr_0_0 k3_wr_0_1 k3_wr_0_2 f3_wr_0)); (try have l3_wr_0 : wr.heap.size < w3.heap.size := by omega); (try clear k1_w_0_0 k1_w_0_1 f1_w_0); (try clear l1_w_0); (try clear k1_wr_0_0 k1_wr_0_1 k1_wr_0_2 f1_wr_0); (try clear l1_wr_0); (try clear k2_w_0_0 k2_w_0_1 f2_w_0); (try clear l2_w_0); (try clear k2_wr_0_0 k2_wr_0_1 k2_wr_0_2 f2_wr_0); (try clear l2_wr_0)))
          have H_C_3 := (hb3.block (w.heap.size) (blk_lt' H_C_2.out)).trans H_C_2.out
          clear k_C_2_0 k_C_2_1 f_C_2 H_C_2
          obtain ⟨k_C_3_0, k_C_3_1, f_C_3, l_C_3⟩ := bk2 H_C_3
          replace H_C_3 := Lib.hid H_C_3
          have H_Q_3 := (hb3.block (wr.heap.size) (blk_lt' H_Q_2.out)).trans H_Q_2.out
          clear k_Q_2_0 k_Q_2_1 k_Q_2_2 f_Q_2 H_Q_2
          obtain ⟨k_Q_3_0, k_Q_3_1, k_Q_3_2, f_Q_3, l_Q_3⟩ := bk3 H_Q_3
          replace H_Q_3 := Lib.hid H_Q_3
          have hB3 : Below w.heap.size w w3 := below_via hb3 (by assumption) (by go_size)
          clear TP
          generalize bLo (dcV A B) (ptSt A B X E) (bestN (ptSt A B X E)) = lo at *
          generalize bHi (dcV A B) (ptSt A B X E) (bestN (ptSt A B X E)) = hi at *
          generalize bestN (ptSt A B X E) = N at *
          rcases HG3.out with ⟨g1, g2⟩ | ⟨g1, g3⟩
          · rw [g1] at TB
            have HG := Lib.hid g2
            clear g1 g2
            go_upto_region 11 with (first | (have _t := tok5; go_at_call 82; (with_reducible refine ((TB _)).mono ?_); rintro e w5 ⟨rfl, hb5⟩; clear tok5 _t; have hz5 := hb5.size; (try simp only [World.size_alloc, World.size_setCell, World.size_drew, World.size_drewN'] at hz5); (try (have kq := cellAt hb5 (w.heap.size) (by go_size); have k5_w_0_0 := kq 0; have k5_w_0_1 := kq 1; clear kq; have f5_w_0 := frozAt hb5 (w.heap.size) (by go_size); simp [go_sem, *] at k5_w_0_0 k5_w_0_1 f5_w_0)); (try have l5_w_0 : w.heap.size < w5.heap.size := by omega); (try (have kq := cellAt hb5 (wr.heap.size) (by go_size); have k5_wr_0_0 := kq 0; have k5_wr_0_1 := kq 1; have k5_wr_0_2 := kq 2; clear kq; have f5_wr_0 := frozAt hb5 (wr.heap.size) (by go_size); simp [go_sem, *] at k5_wr_0_0 k5_wr_0_1 k5_wr_0_2 f5_wr_0)); (try have l5_wr_0 : wr.heap.size < w5.heap.size := by omega); (try clear k1_w_0_0 k1_w_0_1 f1_w_0); (try clear l1_w_0); (try clear k1_wr_0_0 k1_wr_0_1 k1_wr_0_2 f1_wr_0); (try clear l1_wr_0); (try clear k2_w_0_0 k2_w_0_1 f2_w_0); (try clear l2_w_0); (try clear k2_wr_0_0 k2_wr_0_1 k2_wr_0_2 f2_wr_0); (try clear l2_wr_0); (try clear k3_w_0_0 k3_w_0_1 f3_w_0); (try clear l3_w_0); (try clear k3_wr_0_0 k3_wr_0_1 k3_wr_0_2 f3_wr_0); (try clear l3_wr_0); (try clear k4_w_0_0 k4_w_0_1 f4_w_0); (try clear l4_w_0); (try clear k4_wr_0_0 k4_wr_0_1 k4_wr_0_2 f4_wr_0); (try clear l4_wr_0)))
            go_wp2_with fail
            go_ret2
            refine ⟨by have := HG.out; simp only [Prod.mk.injEq] at this; rw [this.1, this.2]; rfl, ?_⟩
            repeat' first | (with_reducible first | apply zRf | assumption | apply zDn | apply zDr | apply zAl | apply zSt | refine zVi (by assumption) ?_ ?_) | go_size
          · rw [g1] at TB
            clear g1
            go_upto_region 12 with (first | (have _t := tok5; go_at_call 82; (with_reducible refine ((TB _)).mono ?_); rintro e w5 ⟨rfl, hb5⟩; clear tok5 _t; have hz5 := hb5.size; (try simp only [World.size_alloc, World.size_setCell, World.size_drew, World.size_drewN'] at hz5); (try (have kq := cellAt hb5 (w.heap.size) (by go_size); have k5_w_0_0 := kq 0; have k5_w_0_1 := kq 1; clear kq; have f5_w_0 := frozAt hb5 (w.heap.size) (by go_size); simp [go_sem, *] at k5_w_0_0 k5_w_0_1 f5_w_0)); (try have l5_w_0 : w.heap.size < w5.heap.size := by omega); (try (have kq := cellAt hb5 (wr.heap.size) (by go_size); have k5_wr_0_0 := kq 0; have k5_wr_0_1 := kq 1; have k5_wr_0_2 := kq 2; clear kq; have f5_wr_0 := frozAt hb5 (wr.heap.size) (by go_size); simp [go_sem, *] at k5_wr_0_0 k5_wr_0_1 k5_wr_0_2 f5_wr_0)); (try have l5_wr_0 : wr.heap.size < w5.heap.size := by omega); (try clear k1_w_0_0 k1_w_0_1 f1_w_0); (try clear l1_w_0); (try clear k1_wr_0_0 k1_wr_0_1 k1_wr_0_2 f1_wr_0); (try clear l1_wr_0); (try clear k2_w_0_0 k2_w_0_1 f2_w_0); (try clear l2_w_0); (try clear k2_wr_0_0 k2_wr_0_1 k2_wr_0_2 f2_wr_0); (try clear l2_wr_0); (try clear k3_w_0_0 k3_w_0_1 f3_w_0); (try clear l3_w_0); (try clear k3_wr_0_0 k3_wr_0_1 k3_wr_0_2 f3_wr_0); (try clear l3_wr_0); (try clear k4_w_0_0 k4_w_0_1 f4_w_0); (try clear l4_w_0); (try clear k4_wr_0_0 k4_wr_0_1 k4_wr_0_2 f4_wr_0); (try clear l4_wr_0)))
            have H_C_5 := (hb5.block (w.heap.size) (blk_lt' H_C_3.out)).trans H_C_3.out
            clear k_C_3_0 k_C_3_1 f_C_3 H_C_3
            obtain ⟨k_C_5_0, k_C_5_1, f_C_5, l_C_5⟩ := bk2 H_C_5
            replace H_C_5 := Lib.hid H_C_5
            have H_Q_5 := (hb5.block (wr.heap.size) (blk_lt' H_Q_3.out)).trans H_Q_3.out
            clear k_Q_3_0 k_Q_3_1 k_Q_3_2 f_Q_3 H_Q_3
            obtain ⟨k_Q_5_0, k_Q_5_1, k_Q_5_2, f_Q_5, l_Q_5⟩ := bk3 H_Q_5
            replace H_Q_5 := Lib.hid H_Q_5
            have hB5 : Below w.heap.size w w5 := below_via hb5 (by assumption) (by go_size)
            clear TB
            replace H_C_5 := H_C_5.out
            replace H_Q_5 := H_Q_5.out
            refine chk (fun W => Below w.heap.size w W ∧ W.heap[w.heap.size]? = some (.cells #[.int .i64 A, .int .i64 B] 28 (0, 0)) ∧ W.heap[w5.heap.size]? = some (.cells #[.int .i64 lo, .int .i64 hi] 102 (0, 0))) (by refine ⟨?_, ?_, ?_⟩ <;> (repeat' first | (with_reducible first | assumption | (apply Ne.symm; assumption) | apply Nat.le_refl | apply Nat.le_add_right | apply zL | apply zRf | apply Wx.box | apply Wx.box4 | apply zWa | apply Wx.drew | apply zWn | apply bx_drew | apply bx_drewN | apply bx_set2 | apply bx_set4 | apply bx_set1) | ((with_reducible apply bx_new); (focus (go_size; done))) | (with_reducible first | apply zOl | apply zFa | apply zDn | apply zDr | apply zAl | apply zSt | refine zVi (by assumption) ?_ ?_) | go_size | omega)) ?_
            clear k_C_5_0 k_C_5_1 f_C_5 H_C_5
            clear k_Q_5_0 k_Q_5_1 k_Q_5_2 f_Q_5 H_Q_5
            clear hB5
            rintro w6 ⟨hB6, H_C_6, H_Z_6⟩
            obtain ⟨k_C_6_0, k_C_6_1, f_C_6, l_C_6⟩ := bk2 H_C_6
            replace H_C_6 := Lib.hid H_C_6
            obtain ⟨k_Z_6_0, k_Z_6_1, f_Z_6, l_Z_6⟩ := bk2 H_Z_6
            replace H_Z_6 := Lib.hid H_Z_6
            rcases g3 with ⟨rfl, g4⟩ | ⟨g3, ⟨g4, g5⟩ | ⟨g4, g5⟩⟩
            · have HG := Lib.hid g4
              obtain rfl := HB1'.out rfl
              clear g4
              go_upto_region 13 with (fail)
              refine wp_drawn' (n := 4) (by kernel_rfl) (by kernel_rfl) (by kernel_rfl) ?_
              apply Exists.intro
              refine ⟨?_, ?_⟩
              · intro W hW
                try (have kx_w_0_0 := fun x => xcell hW (w.heap.size) (by go_size) x 0; simp [go_sem, *] at kx_w_0_0)
                try (have kx_w_0_1 := fun x => xcell hW (w.heap.size) (by go_size) x 1; simp [go_sem, *] at kx_w_0_1)
                try (have kx_w5_0_0 := fun x => xcell hW (w5.heap.size) (by go_size) x 0; simp [go_sem, *] at kx_w5_0_0)
                try (have kx_w5_0_1 := fun x => xcell hW (w5.heap.size) (by go_size) x 1; simp [go_sem, *] at kx_w5_0_1)
                simp only [List.take_succ_cons, List.take_zero]
                repeat (go_big_quiet_step (fail))
                exact wpQuiet_nil rfl
              intro w8 hb8
              simp only [List.drop_succ_cons, List.drop_zero, Act.put, List.setIfInBounds_toArray, List.set_cons_succ, List.set_cons_zero]
              have hz8 := hb8.size
              (try simp only [World.size_alloc, World.size_setCell, World.size_drew, World.size_drewN'] at hz8)
              (try (have kq := cellAt hb8 (w.heap.size) (by go_size); have k8_w_0_0 := kq 0; have k8_w_0_1 := kq 1; clear kq; have f8_w_0 := frozAt hb8 (w.heap.size) (by go_size); simp [go_sem, *] at k8_w_0_0 k8_w_0_1 f8_w_0))
              (try have l8_w_0 : w.heap.size < w8.heap.size := by omega)
              (try (have kq := cellAt hb8 (w5.heap.size) (by go_size); have k8_w5_0_0 := kq 0; have k8_w5_0_1 := kq 1; clear kq; have f8_w5_0 := frozAt hb8 (w5.heap.size) (by go_size); simp [go_sem, *] at k8_w5_0_0 k8_w5_0_1 f8_w5_0))
              (try have l8_w5_0 : w5.heap.size < w8.heap.size := by omega)
              (try clear k4_w_0_0 k4_w_0_1 f4_w_0)
              (try clear l4_w_0)
              (try clear k5_w_0_0 k5_w_0_1 f5_w_0)
              (try clear l5_w_0)
              (try clear k6_w_0_0 k6_w_0_1 f6_w_0)
              (try clear l6_w_0)
              (try clear k6_w5_0_0 k6_w5_0_1 f6_w5_0)
              (try clear l6_w5_0)
              (try clear k7_w_0_0 k7_w_0_1 f7_w_0)
              (try clear l7_w_0)
              (try clear k7_w5_0_0 k7_w5_0_1 f7_w5_0)
              (try clear l7_w5_0)
              have H_C_8 := (hb8.block (w.heap.size) (blk_lt' H_C_6.out)).trans H_C_6.out
              clear k_C_6_0 k_C_6_1 f_C_6 H_C_6
              obtain ⟨k_C_8_0, k_C_8_1, f_C_8, l_C_8⟩ := bk2 H_C_8
              replace H_C_8 := Lib.hid H_C_8
              have H_Z_8 := (hb8.block (w5.heap.size) (blk_lt' H_Z_6.out)).trans H_Z_6.out
              clear k_Z_6_0 k_Z_6_1 f_Z_6 H_Z_6
              obtain ⟨k_Z_8_0, k_Z_8_1, f_Z_8, l_Z_8⟩ := bk2 H_Z_8
              replace H_Z_8 := Lib.hid H_Z_8
              have hB8 : Below w.heap.size w w8 := below_via hb8 (by assumption) (by go_size)
              have q1 := H_C_8.out
              go_wp2_with fail
              go_roundw
              case rel => exact ⟨0 + 1, 0, hi, 0, hi, rfl, rfl, rfl, by omega, HG.out.symm, fun h => absurd h (by omega), fun _ => ⟨rfl, rfl, by omega, hbb.2.1, hbb.2.2⟩, by (repeat' first | (with_reducible first | assumption | (apply Ne.symm; assumption) | apply Nat.le_refl | apply Nat.le_add_right | apply zL | apply zRf | apply Wx.box | apply Wx.box4 | apply zWa | apply Wx.drew | apply zWn | apply bx_drew | apply bx_drewN | apply bx_set2 | apply bx_set4 | apply bx_set1) | ((with_reducible apply bx_new); (focus (go_size; done))) | (with_reducible first | apply zOl | apply zFa | apply zDn | apply zDr | apply zAl | apply zSt | refine zVi (by assumption) ?_ ?_) | go_size | omega), by (repeat' first | (with_reducible first | assumption | (apply Ne.symm; assumption) | apply Nat.le_refl | apply Nat.le_add_right | apply zL | apply zRf | apply Wx.box | apply Wx.box4 | apply zWa | apply Wx.drew | apply zWn | apply bx_drew | apply bx_drewN | apply bx_set2 | apply bx_set4 | apply bx_set1) | ((with_reducible apply bx_new); (focus (go_size; done))) | (with_reducible first | apply zOl | apply zFa | apply zDn | apply zDr | apply zAl | apply zSt | refine zVi (by assumption) ?_ ?_) | go_size | omega)⟩
              case measure => simp [intOf]; omega
            · have HG := Lib.hid g5
              obtain ⟨rfl, rfl, h0, h8, h9⟩ := HB2'.out (by omega)
              have hk0 : decide (b' < 0) = false := by simp; omega
              clear g5 g3 HB1' HB2'
              go_upto_region 13 with (fail)
              refine wp_drawn' (n := 4) (by kernel_rfl) (by kernel_rfl) (by kernel_rfl) ?_
              apply Exists.intro
              refine ⟨?_, ?_⟩
              · intro W hW
                try (have kx_w_0_0 := fun x => xcell hW (w.heap.size) (by go_size) x 0; simp [go_sem, *] at kx_w_0_0)
                try (have kx_w_0_1 := fun x => xcell hW (w.heap.size) (by go_size) x 1; simp [go_sem, *] at kx_w_0_1)
                try (have kx_w5_0_0 := fun x => xcell hW (w5.heap.size) (by go_size) x 0; simp [go_sem, *] at kx_w5_0_0)
                try (have kx_w5_0_1 := fun x => xcell hW (w5.heap.size) (by go_size) x 1; simp [go_sem, *] at kx_w5_0_1)
                simp only [List.take_succ_cons, List.take_zero]
                repeat (go_big_quiet_step (fail))
                exact wpQuiet_nil rfl
              intro w8 hb8
              simp only [List.drop_succ_cons, List.drop_zero, Act.put, List.setIfInBounds_toArray, List.set_cons_succ, List.set_cons_zero]
              have hz8 := hb8.size
              (try simp only [World.size_alloc, World.size_setCell, World.size_drew, World.size_drewN'] at hz8)
              (try (have kq := cellAt hb8 (w.heap.size) (by go_size); have k8_w_0_0 := kq 0; have k8_w_0_1 := kq 1; clear kq; have f8_w_0 := frozAt hb8 (w.heap.size) (by go_size); simp [go_sem, *] at k8_w_0_0 k8_w_0_1 f8_w_0))
              (try have l8_w_0 : w.heap.size < w8.heap.size := by omega)
              (try (have kq := cellAt hb8 (w5.heap.size) (by go_size); have k8_w5_0_0 := kq 0; have k8_w5_0_1 := kq 1; clear kq; have f8_w5_0 := frozAt hb8 (w5.heap.size) (by go_size); simp [go_sem, *] at k8_w5_0_0 k8_w5_0_1 f8_w5_0))
              (try have l8_w5_0 : w5.heap.size < w8.heap.size := by omega)
              (try clear k4_w_0_0 k4_w_0_1 f4_w_0)
              (try clear l4_w_0)
              (try clear k5_w_0_0 k5_w_0_1 f5_w_0)
              (try clear l5_w_0)
              (try clear k6_w_0_0 k6_w_0_1 f6_w_0)
              (try clear l6_w_0)
              (try clear k6_w5_0_0 k6_w5_0_1 f6_w5_0)
              (try clear l6_w5_0)
              (try clear k7_w_0_0 k7_w_0_1 f7_w_0)
              (try clear l7_w_0)
              (try clear k7_w5_0_0 k7_w5_0_1 f7_w5_0)
              (try clear l7_w5_0)
              have H_C_8 := (hb8.block (w.heap.size) (blk_lt' H_C_6.out)).trans H_C_6.out
              clear k_C_6_0 k_C_6_1 f_C_6 H_C_6
              obtain ⟨k_C_8_0, k_C_8_1, f_C_8, l_C_8⟩ := bk2 H_C_8
              replace H_C_8 := Lib.hid H_C_8
              have H_Z_8 := (hb8.block (w5.heap.size) (blk_lt' H_Z_6.out)).trans H_Z_6.out
              clear k_Z_6_0 k_Z_6_1 f_Z_6 H_Z_6
              obtain ⟨k_Z_8_0, k_Z_8_1, f_Z_8, l_Z_8⟩ := bk2 H_Z_8
              replace H_Z_8 := Lib.hid H_Z_8
              have hB8 : Below w.heap.size w w8 := below_via hb8 (by assumption) (by go_size)
              have q1 := H_C_8.out
              go_wp2_with fail
              go_roundw
              case rel => exact ⟨k + 1, k, hi, k, hi, by go_num, rfl, rfl, by omega, HG.out.symm, fun h => absurd h (by omega), fun _ => ⟨rfl, rfl, by omega, hbb.2.1, hbb.2.2⟩, by (repeat' first | (with_reducible first | assumption | (apply Ne.symm; assumption) | apply Nat.le_refl | apply Nat.le_add_right | apply zL | apply zRf | apply Wx.box | apply Wx.box4 | apply zWa | apply Wx.drew | apply zWn | apply bx_drew | apply bx_drewN | apply bx_set2 | apply bx_set4 | apply bx_set1) | ((with_reducible apply bx_new); (focus (go_size; done))) | (with_reducible first | apply zOl | apply zFa | apply zDn | apply zDr | apply zAl | apply zSt | refine zVi (by assumption) ?_ ?_) | go_size | omega), by (repeat' first | (with_reducible first | assumption | (apply Ne.symm; assumption) | apply Nat.le_refl | apply Nat.le_add_right | apply zL | apply zRf | apply Wx.box | apply Wx.box4 | apply zWa | apply Wx.drew | apply zWn | apply bx_drew | apply bx_drewN | apply bx_set2 | apply bx_set4 | apply bx_set1) | ((with_reducible apply bx_new); (focus (go_size; done))) | (with_reducible first | apply zOl | apply zFa | apply zDn | apply zDr | apply zAl | apply zSt | refine zVi (by assumption) ?_ ?_) | go_size | omega)⟩
              case measure => simp [intOf]; omega
            · have HG := Lib.hid g5
              obtain ⟨rfl, rfl, h0, h8, h9⟩ := HB2'.out (by omega)
              have hk0 : decide (b' < 0) = false := by simp; omega
              clear g5 g3 HB1' HB2'
              have q1 := H_C_6.out
              go_wp2_with fail
              go_roundw
              case rel => exact ⟨k + 1, b', h', b', h', by go_num, rfl, rfl, by omega, HG.out.symm, fun h => absurd h (by omega), fun _ => ⟨rfl, rfl, h0, h8, h9⟩, by (repeat' first | (with_reducible first | assumption | (apply Ne.symm; assumption) | apply Nat.le_refl | apply Nat.le_add_right | apply zL | apply zRf | apply Wx.box | apply Wx.box4 | apply zWa | apply Wx.drew | apply zWn | apply bx_drew | apply bx_drewN | apply bx_set2 | apply bx_set4 | apply bx_set1) | ((with_reducible apply bx_new); (focus (go_size; done))) | (with_reducible first | apply zOl | apply zFa | apply zDn | apply zDr | apply zAl | apply zSt | refine zVi (by assumption) ?_ ?_) | go_size | omega), by (repeat' first | (with_reducible first | assumption | (apply Ne.symm; assumption) | apply Nat.le_refl | apply Nat.le_add_right | apply zL | apply zRf | apply Wx.box | apply Wx.box4 | apply zWa | apply Wx.drew | apply zWn | apply bx_drew | apply bx_drewN | apply bx_set2 | apply bx_set4 | apply bx_set1) | ((with_reducible apply bx_new); (focus (go_size; done))) | (with_reducible first | apply zOl | apply zFa | apply zDn | apply zDr | apply zAl | apply zSt | refine zVi (by assumption) ?_ ?_) | go_size | omega)⟩
              case measure => simp [intOf]; omega
      · obtain rfl : k = n := by omega
        have hbe := (hb2' (by omega)).1
        have HG := Lib.hid (show (b', true) = (r1, r2) by rw [← hlp, Nat.sub_self, hbe]; rfl)
        clear hlp hC hb1' hb2'
        go_wp2_with fail
        go_ret2
        refine ⟨by have := HG.out; simp only [Prod.mk.injEq] at this; rw [this.1, this.2]; rfl, ?_⟩
        repeat' first | (with_reducible first | apply zRf | assumption | apply zDn | apply zDr | apply zAl | apply zSt | refine zVi (by assumption) ?_ ?_) | go_size
theorem FnExactLowestPoint_any (A B : Int) (a : Option Addr) (n c : Nat) (zs : List Int) (w : World) (h : Px w a n c zs) : Calls Try.prog 13 #[.agg #[.int .i64 A, .int .i64 B], .slice a n c] w fun e w' => e = .returned (.bool true) ∧ Below w.heap.size w w' := by
  have hlm : n ≤ maxLen := Nat.le_trans h.cap h.max
  have T1 := fun W : World => Lib.hid (szPointS_any a n c 1048576 W hlm (by omega) (by omega))
  by_cases hl : (1048576 : Int) - n < 0
  · rw [if_pos hl] at T1
    clear hl hlm
    have tok1 : True := trivial
    have tok2 : True := trivial
    have tok3 : True := trivial
    have tok4 : True := trivial
    have tok5 : True := trivial
    go_enter Try.func13, Try.ntmps13
    go_wp2_with (first | (go_at_call 48; (with_reducible refine ((T1 _).out).mono ?_); rintro e w' ⟨rfl, rfl⟩) | (have _t := tok2; go_at_call 15; refine (toCurve_any _ _ _).mono ?_; rintro e w2 ⟨rfl, hb2⟩; clear tok2 _t; have hz2 := hb2.size; (try simp only [World.size_alloc, World.size_setCell, World.size_drew, World.size_drewN'] at hz2); (try (have kq := cellAt hb2 (w.heap.size) (by go_size); have k2_w_0_0 := kq 0; have k2_w_0_1 := kq 1; clear kq; have f2_w_0 := frozAt hb2 (w.heap.size) (by go_size); simp [go_sem, *] at k2_w_0_0 k2_w_0_1 f2_w_0)); (try have l2_w_0 : w.heap.size < w2.heap.size := by omega); (try clear k1_w_0_0 k1_w_0_1 f1_w_0); (try clear l1_w_0)) | (have _t := tok3; go_at_call 50; refine (toPointS_any a n c zs _ (h.below (by repeat' first | (with_reducible first | apply zRf | assumption | apply zDn | apply zDr | apply zAl | apply zSt | refine zVi (by assumption) ?_ ?_) | go_size)) hn).mono ?_; rintro e w3 ⟨rfl, hp3, hg3, hb3⟩; clear tok3 _t; have hz3 := hb3.size; (try simp only [World.size_alloc, World.size_setCell, World.size_drew, World.size_drewN'] at hz3); (try (have kq := cellAt hb3 (w.heap.size) (by go_size); have k3_w_0_0 := kq 0; have k3_w_0_1 := kq 1; clear kq; have f3_w_0 := frozAt hb3 (w.heap.size) (by go_size); simp [go_sem, *] at k3_w_0_0 k3_w_0_1 f3_w_0)); (try have l3_w_0 : w.heap.size < w3.heap.size := by omega); (try clear k1_w_0_0 k1_w_0_1 f1_w_0); (try clear l1_w_0); (try clear k2_w_0_0 k2_w_0_1 f2_w_0); (try clear l2_w_0)) | (have _t := tok4; go_at_call 49; (with_reducible refine ((T3 _ _ _ _ hp3)).mono ?_); rintro e w4 ⟨rfl, hb4⟩; clear tok4 _t; have hz4 := hb4.size; (try simp only [World.size_alloc, World.size_setCell, World.size_drew, World.size_drewN'] at hz4); (try (have kq := cellAt hb4 (w.heap.size) (by go_size); have k4_w_0_0 := kq 0; have k4_w_0_1 := kq 1; clear kq; have f4_w_0 := frozAt hb4 (w.heap.size) (by go_size); simp [go_sem, *] at k4_w_0_0 k4_w_0_1 f4_w_0)); (try have l4_w_0 : w.heap.size < w4.heap.size := by omega); (try clear k1_w_0_0 k1_w_0_1 f1_w_0); (try clear l1_w_0); (try clear k2_w_0_0 k2_w_0_1 f2_w_0); (try clear l2_w_0); (try clear k3_w_0_0 k3_w_0_1 f3_w_0); (try clear l3_w_0)) | (have _t := tok5; go_at_call 50; refine (toPointS_any a n c zs _ (h.below (by repeat' first | (with_reducible first | apply zRf | assumption | apply zDn | apply zDr | apply zAl | apply zSt | refine zVi (by assumption) ?_ ?_) | go_size)) hn).mono ?_; rintro e w5 ⟨rfl, hp5, hg5, hb5⟩; clear tok5 _t; have hz5 := hb5.size; (try simp only [World.size_alloc, World.size_setCell, World.size_drew, World.size_drewN'] at hz5); (try (have kq := cellAt hb5 (w.heap.size) (by go_size); have k5_w_0_0 := kq 0; have k5_w_0_1 := kq 1; clear kq; have f5_w_0 := frozAt hb5 (w.heap.size) (by go_size); simp [go_sem, *] at k5_w_0_0 k5_w_0_1 f5_w_0)); (try have l5_w_0 : w.heap.size < w5.heap.size := by omega); (try clear k1_w_0_0 k1_w_0_1 f1_w_0); (try clear l1_w_0); (try clear k2_w_0_0 k2_w_0_1 f2_w_0); (try clear l2_w_0); (try clear k3_w_0_0 k3_w_0_1 f3_w_0); (try clear l3_w_0); (try clear k4_w_0_0 k4_w_0_1 f4_w_0); (try clear l4_w_0)) | (have _t := tok6; go_at_call 15; refine (toCurve_any _ _ _).mono ?_; rintro e w6 ⟨rfl, hb6⟩; clear tok6 _t; have hz6 := hb6.size; (try simp only [World.size_alloc, World.size_setCell, World.size_drew, World.size_drewN'] at hz6); (try (have kq := cellAt hb6 (w.heap.size) (by go_size); have k6_w_0_0 := kq 0; have k6_w_0_1 := kq 1; clear kq; have f6_w_0 := frozAt hb6 (w.heap.size) (by go_size); simp [go_sem, *] at k6_w_0_0 k6_w_0_1 f6_w_0)); (try have l6_w_0 : w.heap.size < w6.heap.size := by omega); (try clear k2_w_0_0 k2_w_0_1 f2_w_0); (try clear l2_w_0); (try clear k3_w_0_0 k3_w_0_1 f3_w_0); (try clear l3_w_0); (try clear k4_w_0_0 k4_w_0_1 f4_w_0); (try clear l4_w_0); (try clear k5_w_0_0 k5_w_0_1 f5_w_0); (try clear l5_w_0)) | (have _t := tok7; go_at_call 51; (with_reducible refine ((T5 _ _ _ _ (hp5.below (by repeat' first | (with_reducible first | apply zRf | assumption | apply zDn | apply zDr | apply zAl | apply zSt | refine zVi (by assumption) ?_ ?_) | go_size)))).mono ?_); rintro e w7 ⟨rfl, hb7⟩; clear tok7 _t; have hz7 := hb7.size; (try simp only [World.size_alloc, World.size_setCell, World.size_drew, World.size_drewN'] at hz7); (try (have kq := cellAt hb7 (w.heap.size) (by go_size); have k7_w_0_0 := kq 0; have k7_w_0_1 := kq 1; clear kq; have f7_w_0 := frozAt hb7 (w.heap.size) (by go_size); simp [go_sem, *] at k7_w_0_0 k7_w_0_1 f7_w_0)); (try have l7_w_0 : w.heap.size < w7.heap.size := by omega); (try clear k3_w_0_0 k3_w_0_1 f3_w_0); (try clear l3_w_0); (try clear k4_w_0_0 k4_w_0_1 f4_w_0); (try clear l4_w_0); (try clear k5_w_0_0 k5_w_0_1 f5_w_0); (try clear l5_w_0); (try clear k6_w_0_0 k6_w_0_1 f6_w_0); (try clear l6_w_0)) | (have _t := tok8; go_at_call 50; refine (toPointS_any a n c zs _ (h.below (by repeat' first | (with_reducible first | apply zRf | assumption | apply zDn | apply zDr | apply zAl | apply zSt | refine zVi (by assumption) ?_ ?_) | go_size)) hn).mono ?_; rintro e w8 ⟨rfl, hp8, hg8, hb8⟩; clear tok8 _t; have hz8 := hb8.size; (try simp only [World.size_alloc, World.size_setCell, World.size_drew, World.size_drewN'] at hz8); (try (have kq := cellAt hb8 (w.heap.size) (by go_size); have k8_w_0_0 := kq 0; have k8_w_0_1 := kq 1; clear kq; have f8_w_0 := frozAt hb8 (w.heap.size) (by go_size); simp [go_sem, *] at k8_w_0_0 k8_w_0_1 f8_w_0)); (try have l8_w_0 : w.heap.size < w8.heap.size := by omega); (try clear k4_w_0_0 k4_w_0_1 f4_w_0); (try clear l4_w_0); (try clear k5_w_0_0 k5_w_0_1 f5_w_0); (try clear l5_w_0); (try clear k6_w_0_0 k6_w_0_1 f6_w_0); (try clear l6_w_0); (try clear k7_w_0_0 k7_w_0_1 f7_w_0); (try clear l7_w_0)) | (have _t := tok9; go_at_call 52; refine (eqPointS_same _ _ _ _ _ _ _ _ (hp5.below (by repeat' first | (with_reducible first | apply zRf | assumption | apply zDn | apply zDr | apply zAl | apply zSt | refine zVi (by assumption) ?_ ?_) | go_size)) hp8).mono ?_; rintro e w9 ⟨rfl, hb9⟩; clear tok9 _t; have hz9 := hb9.size; (try simp only [World.size_alloc, World.size_setCell, World.size_drew, World.size_drewN'] at hz9); (try (have kq := cellAt hb9 (w.heap.size) (by go_size); have k9_w_0_0 := kq 0; have k9_w_0_1 := kq 1; clear kq; have f9_w_0 := frozAt hb9 (w.heap.size) (by go_size); simp [go_sem, *] at k9_w_0_0 k9_w_0_1 f9_w_0)); (try have l9_w_0 : w.heap.size < w9.heap.size := by omega); (try clear k5_w_0_0 k5_w_0_1 f5_w_0); (try clear l5_w_0); (try clear k6_w_0_0 k6_w_0_1 f6_w_0); (try clear l6_w_0); (try clear k7_w_0_0 k7_w_0_1 f7_w_0); (try clear l7_w_0); (try clear k8_w_0_0 k8_w_0_1 f8_w_0); (try clear l8_w_0)))
    go_ret
    refine ⟨rfl, ?_⟩
    repeat' first | (with_reducible first | apply zRf | assumption | apply zDn | apply zDr | apply zAl | apply zSt | refine zVi (by assumption) ?_ ?_) | go_size
  · rw [if_neg hl] at T1
    have hn : n ≤ 1048576 := by omega
    have T3 := fun (W : World) (a : Option Addr) (n c : Nat) (h : Px W a n c zs) => sLowestPoint_any A B a n c zs W h
    have T5 := fun (W : World) (a : Option Addr) (n c : Nat) (h : Px W a n c zs) => LowestPoint_any A B a n c zs W h
    generalize lpV A B zs n = r at *
    obtain ⟨r1, r2⟩ := r
    generalize hv : (1048576 : Int) - n = v at *
    clear hv hlm
    have tok1 : True := trivial
    have tok2 : True := trivial
    have tok3 : True := trivial
    have tok4 : True := trivial
    have tok5 : True := trivial
    have tok6 : True := trivial
    have tok7 : True := trivial
    have tok8 : True := trivial
    have tok9 : True := trivial
    go_enter Try.func13, Try.ntmps13
    go_wp2_with (first | (go_at_call 48; (with_reducible refine ((T1 _).out).mono ?_); rintro e w' ⟨rfl, rfl⟩) | (have _t := tok2; go_at_call 15; refine (toCurve_any _ _ _).mono ?_; rintro e w2 ⟨rfl, hb2⟩; clear tok2 _t; have hz2 := hb2.size; (try simp only [World.size_alloc, World.size_setCell, World.size_drew, World.size_drewN'] at hz2); (try (have kq := cellAt hb2 (w.heap.size) (by go_size); have k2_w_0_0 := kq 0; have k2_w_0_1 := kq 1; clear kq; have f2_w_0 := frozAt hb2 (w.heap.size) (by go_size); simp [go_sem, *] at k2_w_0_0 k2_w_0_1 f2_w_0)); (try have l2_w_0 : w.heap.size < w2.heap.size := by omega); (try clear k1_w_0_0 k1_w_0_1 f1_w_0); (try clear l1_w_0)) | (have _t := tok3; go_at_call 50; refine (toPointS_any a n c zs _ (h.below (by repeat' first | (with_reducible first | apply zRf | assumption | apply zDn | apply zDr | apply zAl | apply zSt | refine zVi (by assumption) ?_ ?_) | go_size)) hn).mono ?_; rintro e w3 ⟨rfl, hp3, hg3, hb3⟩; clear tok3 _t; have hz3 := hb3.size; (try simp only [World.size_alloc, World.size_setCell, World.size_drew, World.size_drewN'] at hz3); (try (have kq := cellAt hb3 (w.heap.size) (by go_size); have k3_w_0_0 := kq 0; have k3_w_0_1 := kq 1; clear kq; have f3_w_0 := frozAt hb3 (w.heap.size) (by go_size); simp [go_sem, *] at k3_w_0_0 k3_w_0_1 f3_w_0)); (try have l3_w_0 : w.heap.size < w3.heap.size := by omega); (try clear k1_w_0_0 k1_w_0_1 f1_w_0); (try clear l1_w_0); (try clear k2_w_0_0 k2_w_0_1 f2_w_0); (try clear l2_w_0)) | (have _t := tok4; go_at_call 49; (with_reducible refine ((T3 _ _ _ _ hp3)).mono ?_); rintro e w4 ⟨rfl, hb4⟩; clear tok4 _t; have hz4 := hb4.size; (try simp only [World.size_alloc, World.size_setCell, World.size_drew, World.size_drewN'] at hz4); (try (have kq := cellAt hb4 (w.heap.size) (by go_size); have k4_w_0_0 := kq 0; have k4_w_0_1 := kq 1; clear kq; have f4_w_0 := frozAt hb4 (w.heap.size) (by go_size); simp [go_sem, *] at k4_w_0_0 k4_w_0_1 f4_w_0)); (try have l4_w_0 : w.heap.size < w4.heap.size := by omega); (try clear k1_w_0_0 k1_w_0_1 f1_w_0); (try clear l1_w_0); (try clear k2_w_0_0 k2_w_0_1 f2_w_0); (try clear l2_w_0); (try clear k3_w_0_0 k3_w_0_1 f3_w_0); (try clear l3_w_0)) | (have _t := tok5; go_at_call 50; refine (toPointS_any a n c zs _ (h.below (by repeat' first | (with_reducible first | apply zRf | assumption | apply zDn | apply zDr | apply zAl | apply zSt | refine zVi (by assumption) ?_ ?_) | go_size)) hn).mono ?_; rintro e w5 ⟨rfl, hp5, hg5, hb5⟩; clear tok5 _t; have hz5 := hb5.size; (try simp only [World.size_alloc, World.size_setCell, World.size_drew, World.size_drewN'] at hz5); (try (have kq := cellAt hb5 (w.heap.size) (by go_size); have k5_w_0_0 := kq 0; have k5_w_0_1 := kq 1; clear kq; have f5_w_0 := frozAt hb5 (w.heap.size) (by go_size); simp [go_sem, *] at k5_w_0_0 k5_w_0_1 f5_w_0)); (try have l5_w_0 : w.heap.size < w5.heap.size := by omega); (try clear k1_w_0_0 k1_w_0_1 f1_w_0); (try clear l1_w_0); (try clear k2_w_0_0 k2_w_0_1 f2_w_0); (try clear l2_w_0); (try clear k3_w_0_0 k3_w_0_1 f3_w_0); (try clear l3_w_0); (try clear k4_w_0_0 k4_w_0_1 f4_w_0); (try clear l4_w_0)) | (have _t := tok6; go_at_call 15; refine (toCurve_any _ _ _).mono ?_; rintro e w6 ⟨rfl, hb6⟩; clear tok6 _t; have hz6 := hb6.size; (try simp only [World.size_alloc, World.size_setCell, World.size_drew, World.size_drewN'] at hz6); (try (have kq := cellAt hb6 (w.heap.size) (by go_size); have k6_w_0_0 := kq 0; have k6_w_0_1 := kq 1; clear kq; have f6_w_0 := frozAt hb6 (w.heap.size) (by go_size); simp [go_sem, *] at k6_w_0_0 k6_w_0_1 f6_w_0)); (try have l6_w_0 : w.heap.size < w6.heap.size := by omega); (try clear k2_w_0_0 k2_w_0_1 f2_w_0); (try clear l2_w_0); (try clear k3_w_0_0 k3_w_0_1 f3_w_0); (try clear l3_w_0); (try clear k4_w_0_0 k4_w_0_1 f4_w_0); (try clear l4_w_0); (try clear k5_w_0_0 k5_w_0_1 f5_w_0); (try clear l5_w_0)) | (have _t := tok7; go_at_call 51; (with_reducible refine ((T5 _ _ _ _ (hp5.below (by repeat' first | (with_reducible first | apply zRf | assumption | apply zDn | apply zDr | apply zAl | apply zSt | refine zVi (by assumption) ?_ ?_) | go_size)))).mono ?_); rintro e w7 ⟨rfl, hb7⟩; clear tok7 _t; have hz7 := hb7.size; (try simp only [World.size_alloc, World.size_setCell, World.size_drew, World.size_drewN'] at hz7); (try (have kq := cellAt hb7 (w.heap.size) (by go_size); have k7_w_0_0 := kq 0; have k7_w_0_1 := kq 1; clear kq; have f7_w_0 := frozAt hb7 (w.heap.size) (by go_size); simp [go_sem, *] at k7_w_0_0 k7_w_0_1 f7_w_0)); (try have l7_w_0 : w.heap.size < w7.heap.size := by omega); (try clear k3_w_0_0 k3_w_0_1 f3_w_0); (try clear l3_w_0); (try clear k4_w_0_0 k4_w_0_1 f4_w_0); (try clear l4_w_0); (try clear k5_w_0_0 k5_w_0_1 f5_w_0); (try clear l5_w_0); (try clear k6_w_0_0 k6_w_0_1 f6_w_0); (try clear l6_w_0)) | (have _t := tok8; go_at_call 50; refine (toPointS_any a n c zs _ (h.below (by repeat' first | (with_reducible first | apply zRf | assumption | apply zDn | apply zDr | apply zAl | apply zSt | refine zVi (by assumption) ?_ ?_) | go_size)) hn).mono ?_; rintro e w8 ⟨rfl, hp8, hg8, hb8⟩; clear tok8 _t; have hz8 := hb8.size; (try simp only [World.size_alloc, World.size_setCell, World.size_drew, World.size_drewN'] at hz8); (try (have kq := cellAt hb8 (w.heap.size) (by go_size); have k8_w_0_0 := kq 0; have k8_w_0_1 := kq 1; clear kq; have f8_w_0 := frozAt hb8 (w.heap.size) (by go_size); simp [go_sem, *] at k8_w_0_0 k8_w_0_1 f8_w_0)); (try have l8_w_0 : w.heap.size < w8.heap.size := by omega); (try clear k4_w_0_0 k4_w_0_1 f4_w_0); (try clear l4_w_0); (try clear k5_w_0_0 k5_w_0_1 f5_w_0); (try clear l5_w_0); (try clear k6_w_0_0 k6_w_0_1 f6_w_0); (try clear l6_w_0); (try clear k7_w_0_0 k7_w_0_1 f7_w_0); (try clear l7_w_0)) | (have _t := tok9; go_at_call 52; refine (eqPointS_same _ _ _ _ _ _ _ _ (hp5.below (by repeat' first | (with_reducible first | apply zRf | assumption | apply zDn | apply zDr | apply zAl | apply zSt | refine zVi (by assumption) ?_ ?_) | go_size)) hp8).mono ?_; rintro e w9 ⟨rfl, hb9⟩; clear tok9 _t; have hz9 := hb9.size; (try simp only [World.size_alloc, World.size_setCell, World.size_drew, World.size_drewN'] at hz9); (try (have kq := cellAt hb9 (w.heap.size) (by go_size); have k9_w_0_0 := kq 0; have k9_w_0_1 := kq 1; clear kq; have f9_w_0 := frozAt hb9 (w.heap.size) (by go_size); simp [go_sem, *] at k9_w_0_0 k9_w_0_1 f9_w_0)); (try have l9_w_0 : w.heap.size < w9.heap.size := by omega); (try clear k5_w_0_0 k5_w_0_1 f5_w_0); (try clear l5_w_0); (try clear k6_w_0_0 k6_w_0_1 f6_w_0); (try clear l6_w_0); (try clear k7_w_0_0 k7_w_0_1 f7_w_0); (try clear l7_w_0); (try clear k8_w_0_0 k8_w_0_1 f8_w_0); (try clear l8_w_0)))
    go_ret
    refine ⟨rfl, ?_⟩
    repeat' first | (with_reducible first | apply zRf | assumption | apply zDn | apply zDr | apply zAl | apply zSt | refine zVi (by assumption) ?_ ?_) | go_size
end Go.Proofs.Ytfbegjiebahdcaa
