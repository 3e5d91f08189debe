/- Lemmas and contracts of functions. No condition. -/
import Derived.Test.YtgjppinjapdbeaaGreatPk26
import Derived.Test.YtgjppinjapdbeaaGreatPk30
namespace Go.Proofs.YtgjppinjapdbeaaGreat
open Go.RowKit
set_option linter.unusedVariables false
set_option maxHeartbeats 1000000
set_option maxRecDepth 20000
set_option linter.unusedSimpArgs false
attribute [local go_sem] openAt openUpon
def BiRel (w : World) (A B x y e C : Int) (st : Nat → RSt) (gB N : Nat) (nv : Value) (wr : World) : Prop := ∃ k : Nat, nv = .int .i64 k ∧ k ≤ 5 ∧ bN st (5 - k) k = N ∧ wr.heap[w.heap.size]? = some (.cells #[.int .i64 A, .int .i64 B] 32 (0, 0)) ∧ wr.heap[w.heap.size + 1]? = some (.cells #[.int .i64 x, .int .i64 y, .int .i64 e] 34 (0, 0)) ∧
  wr.heap[w.heap.size + 1 + 1]? = some (.cells #[.int .i64 0, .int .i64 0] 45 (0, 0)) ∧ wr.heap[gB]? = some (.cells #[.int .i64 (bLo C st k), .int .i64 (bHi C st k)] 45 (0, 0)) ∧ Below w.heap.size w wr
theorem bestHeight_any (A B x y e : Int) (w : World) (hA : -1000 ≤ A ∧ A ≤ 1000) (hBB : -10000 ≤ B ∧ B ≤ 10000) (hcv : coV A B ≠ 0) (hx : -10000 ≤ x ∧ x ≤ 10000) (he : 0 ≤ e ∧ e ≤ 20) :
    Calls Tryz.prog 66 #[.agg #[.int .i64 A, .int .i64 B], .agg #[.int .i64 x, .int .i64 y, .int .i64 e]] w fun r w' => r = .returned (.tuple #[.agg #[.int .i64 (bLo (dcV A B) (ptSt A B x e) (bestN (ptSt A B x e))), .int .i64 (bHi (dcV A B) (ptSt A B x e) (bestN (ptSt A B x e)))], .int .i64 (bestN (ptSt A B x e)), .bool (beOk (dcV A B) (ptSt A B x e))]) ∧ Below w.heap.size w w' := by
  have hC := dc_bd hA hBB
  have hok := fun k => ptSt_ok (A := A) (B := B) hx he k
  have TK := fun (W : World) (k : Nat) (hk : k ≤ 5) => heightAt_any A B x y e k W hA hBB hcv hx he hk
  have h00 := ptSt_ok0 (A := A) (B := B) (x := x) (e := e)
  generalize hst : ptSt A B x e = st at *
  generalize dcV A B = C at *
  clear hst
  have T0 : ∀ W, Calls Tryz.prog 85 #[.agg #[.int .i64 A, .int .i64 B], .agg #[.int .i64 x, .int .i64 y, .int .i64 e], .int .i64 0] W fun r w' => r = .returned (.tuple #[.agg #[.int .i64 (bLo C st 0), .int .i64 (bHi C st 0)], .bool true]) ∧ Below W.heap.size W w' := fun W => by
    have := TK W 0 (by omega)
    rw [h00] at this
    exact this
  obtain ⟨N, hN⟩ : ∃ N, bestN st = N := ⟨_, rfl⟩
  have hbo : beOk C st = validB (bLo C st N) (bHi C st N) := by rw [beOk, hN]
  rw [hN, hbo]
  have HBD := Lib.hid (fun k => b_bd hC hok k)
  have HTB := Lib.hid (fun k => ht_bd (n := k) hC (hok k))
  have TKH := Lib.hid TK
  have HN := Lib.hid hN
  clear hok TK h00 hN hbo
  have tok1 : True := trivial
  have tok2 : True := trivial
  have tok3 : True := trivial
  have tok4 : True := trivial
  have tok5 : True := trivial
  have tok6 : True := trivial
  have tok7 : True := trivial
  have tok8 : True := trivial
  go_enter Tryz.func66, Tryz.ntmps66
  go_wp2_with (first | (have _t := tok1; go_at_call 85; (with_reducible refine ((T0 _)).mono ?_); rintro e w1 ⟨rfl, hb1⟩; clear tok1 _t; have hz1 := hb1.size; (try simp only [World.size_alloc, World.size_setCell, World.size_drew, World.size_drewN'] at hz1); (try (have kq := cellAt hb1 (w.heap.size) (by go_size); have k1_w_0_0 := kq 0; have k1_w_0_1 := kq 1; clear kq; have f1_w_0 := frozAt hb1 (w.heap.size) (by go_size); simp [go_sem, *] at k1_w_0_0 k1_w_0_1 f1_w_0)); (try have l1_w_0 : w.heap.size < w1.heap.size := by omega); (try (have kq := cellAt hb1 (w.heap.size + 1) (by go_size); have k1_w_1_0 := kq 0; have k1_w_1_1 := kq 1; have k1_w_1_2 := kq 2; clear kq; have f1_w_1 := frozAt hb1 (w.heap.size + 1) (by go_size); simp [go_sem, *] at k1_w_1_0 k1_w_1_1 k1_w_1_2 f1_w_1)); (try have l1_w_1 : w.heap.size + 1 < w1.heap.size := by omega); (try (have kq := cellAt hb1 (w.heap.size + 1 + 1) (by go_size); have k1_w_2_0 := kq 0; have k1_w_2_1 := kq 1; clear kq; have f1_w_2 := frozAt hb1 (w.heap.size + 1 + 1) (by go_size); simp [go_sem, *] at k1_w_2_0 k1_w_2_1 f1_w_2)); (try have l1_w_2 : w.heap.size + 1 + 1 < w1.heap.size := by omega)))
  have hz1' := hb1.size
  simp only [World.size_alloc] at hz1'
  have HC1 : w1.heap[w.heap.size]? = some (.cells #[.int .i64 A, .int .i64 B] 32 (0, 0)) := (hb1.block _ (by go_size)).trans (by (repeat' first | (with_reducible first | assumption | (apply Ne.symm; assumption) | apply Nat.le_refl | apply Nat.le_add_right | apply zL | apply zRf | apply Wx.box | apply Wx.box4 | apply zWa | apply Wx.drew | apply zWn | apply bx_drew | apply bx_drewN | apply bx_set3 | apply bx_set2 | apply bx_set4 | apply bx_set1) | ((with_reducible apply bx_new); (focus (go_size; done))) | (with_reducible first | apply zOl | apply zFa | apply zDn | apply zDr | apply zAl | apply zSt | refine zVi (by assumption) ?_ ?_) | go_size | omega))
  have HP1 : w1.heap[w.heap.size + 1]? = some (.cells #[.int .i64 x, .int .i64 y, .int .i64 e] 34 (0, 0)) := (hb1.block _ (by go_size)).trans (by (repeat' first | (with_reducible first | assumption | (apply Ne.symm; assumption) | apply Nat.le_refl | apply Nat.le_add_right | apply zL | apply zRf | apply Wx.box | apply Wx.box4 | apply zWa | apply Wx.drew | apply zWn | apply bx_drew | apply bx_drewN | apply bx_set3 | apply bx_set2 | apply bx_set4 | apply bx_set1) | ((with_reducible apply bx_new); (focus (go_size; done))) | (with_reducible first | apply zOl | apply zFa | apply zDn | apply zDr | apply zAl | apply zSt | refine zVi (by assumption) ?_ ?_) | go_size | omega))
  have HO1 : w1.heap[w.heap.size + 1 + 1]? = some (.cells #[.int .i64 0, .int .i64 0] 45 (0, 0)) := (hb1.block _ (by go_size)).trans (by (repeat' first | (with_reducible first | assumption | (apply Ne.symm; assumption) | apply Nat.le_refl | apply Nat.le_add_right | apply zL | apply zRf | apply Wx.box | apply Wx.box4 | apply zWa | apply Wx.drew | apply zWn | apply bx_drew | apply bx_drewN | apply bx_set3 | apply bx_set2 | apply bx_set4 | apply bx_set1) | ((with_reducible apply bx_new); (focus (go_size; done))) | (with_reducible first | apply zOl | apply zFa | apply zDn | apply zDr | apply zAl | apply zSt | refine zVi (by assumption) ?_ ?_) | go_size | omega))
  have HB1 : Below w.heap.size w w1 := by repeat' first | (with_reducible first | apply zRf | assumption | apply zDn | apply zDr | apply zAl | apply zSt | refine zVi (by assumption) ?_ ?_) | go_size
  generalize hgB : w1.heap.size = gB at *
  have HGB := Lib.hid hgB
  go_loopw [9] (fun nv wr => BiRel w A B x y e C st gB N nv wr) (fun nv _ => (5 - intOf nv).toNat)
  case atStart => exact ⟨0, rfl, by omega, HN.out, by (repeat' first | (with_reducible first | assumption | (apply Ne.symm; assumption) | apply Nat.le_refl | apply Nat.le_add_right | apply zL | apply zRf | apply Wx.box | apply Wx.box4 | apply zWa | apply Wx.drew | apply zWn | apply bx_drew | apply bx_drewN | apply bx_set3 | apply bx_set2 | apply bx_set4 | apply bx_set1) | ((with_reducible apply bx_new); (focus (go_size; done))) | (with_reducible first | apply zOl | apply zFa | apply zDn | apply zDr | apply zAl | apply zSt | refine zVi (by assumption) ?_ ?_) | go_size | omega), by (repeat' first | (with_reducible first | assumption | (apply Ne.symm; assumption) | apply Nat.le_refl | apply Nat.le_add_right | apply zL | apply zRf | apply Wx.box | apply Wx.box4 | apply zWa | apply Wx.drew | apply zWn | apply bx_drew | apply bx_drewN | apply bx_set3 | apply bx_set2 | apply bx_set4 | apply bx_set1) | ((with_reducible apply bx_new); (focus (go_size; done))) | (with_reducible first | apply zOl | apply zFa | apply zDn | apply zDr | apply zAl | apply zSt | refine zVi (by assumption) ?_ ?_) | go_size | omega), by (repeat' first | (with_reducible first | assumption | (apply Ne.symm; assumption) | apply Nat.le_refl | apply Nat.le_add_right | apply zL | apply zRf | apply Wx.box | apply Wx.box4 | apply zWa | apply Wx.drew | apply zWn | apply bx_drew | apply bx_drewN | apply bx_set3 | apply bx_set2 | apply bx_set4 | apply bx_set1) | ((with_reducible apply bx_new); (focus (go_size; done))) | (with_reducible first | apply zOl | apply zFa | apply zDn | apply zDr | apply zAl | apply zSt | refine zVi (by assumption) ?_ ?_) | go_size | omega), bx_new HGB.out, HB1.alloc (by rw [HGB.out]; omega) _⟩
  case round =>
    clear HC1 HP1 HO1 HB1 hb1
    obtain ⟨k, rfl, hk, hN, hC2, hP, hO, hX, hbw⟩ := hrel
    have hkc : (k : Int) ≤ 5 := by omega
    have HNk := Lib.hid hN
    have hbd := HBD.out k
    clear hN
    by_cases hlt : k < 5
    · have hlc : (k : Int) < 5 := by omega
      have TH0 := TKH.out
      cases hs : htOk (st (k + 1)) with
      | false =>
        have hbN := Lib.hid ((bN_stop hs).symm.trans HNk.out)
        obtain ⟨lo1, hlo⟩ : ∃ v, htLo C (k + 1) (st (k + 1)) = v := ⟨_, rfl⟩
        obtain ⟨hi1, hhi⟩ : ∃ v, htHi C (k + 1) (st (k + 1)) = v := ⟨_, rfl⟩
        have TH : ∀ W, Calls Tryz.prog 85 #[.agg #[.int .i64 A, .int .i64 B], .agg #[.int .i64 x, .int .i64 y, .int .i64 e], .int .i64 ((k : Int) + 1)] W fun r w' => r = .returned (.tuple #[.agg #[.int .i64 lo1, .int .i64 hi1], .bool false]) ∧ Below W.heap.size W w' := fun W => by
          have := TH0 W (k + 1) (by omega)
          rw [hs, hlo, hhi] at this
          exact this
        clear TH0 hs hlo hhi
        obtain rfl : k = N := hbN.out
        have TV := fun W => valid_any (bLo C st k) (bHi C st k) W
        generalize hlo : bLo C st k = lo at *
        generalize hhi : bHi C st k = hi at *
        have HLO := Lib.hid hlo
        have HHI := Lib.hid hhi
        clear hlo hhi
        go_upto_region 4 with (fail)
        refine chk (fun W => Below w.heap.size w W ∧ W.heap[w.heap.size]? = some (.cells #[.int .i64 A, .int .i64 B] 32 (0, 0)) ∧ W.heap[w.heap.size + 1]? = some (.cells #[.int .i64 x, .int .i64 y, .int .i64 e] 34 (0, 0)) ∧ W.heap[w.heap.size + 1 + 1]? = some (.cells #[.int .i64 0, .int .i64 0] 45 (0, 0)) ∧ W.heap[gB]? = some (.cells #[.int .i64 lo, .int .i64 hi] 45 (0, 0))) (by refine ⟨?_, ?_, ?_, ?_, ?_⟩ <;> (repeat' first | (with_reducible first | assumption | (apply Ne.symm; assumption) | apply Nat.le_refl | apply Nat.le_add_right | apply zL | apply zRf | apply Wx.box | apply Wx.box4 | apply zWa | apply Wx.drew | apply zWn | apply bx_drew | apply bx_drewN | apply bx_set3 | apply bx_set2 | apply bx_set4 | apply bx_set1) | ((with_reducible apply bx_new); (focus (go_size; done))) | (with_reducible first | apply zOl | apply zFa | apply zDn | apply zDr | apply zAl | apply zSt | refine zVi (by assumption) ?_ ?_) | go_size | omega)) ?_
        rintro w2 ⟨hB2, H_C_2, H_P_2, H_O_2, H_X_2⟩
        obtain ⟨k_C_2_0, k_C_2_1, f_C_2, l_C_2⟩ := bk2 H_C_2
        replace H_C_2 := Lib.hid H_C_2
        obtain ⟨k_P_2_0, k_P_2_1, k_P_2_2, f_P_2, l_P_2⟩ := bk3 H_P_2
        replace H_P_2 := Lib.hid H_P_2
        obtain ⟨k_O_2_0, k_O_2_1, f_O_2, l_O_2⟩ := bk2 H_O_2
        replace H_O_2 := Lib.hid H_O_2
        obtain ⟨k_X_2_0, k_X_2_1, f_X_2, l_X_2⟩ := bk2 H_X_2
        replace H_X_2 := Lib.hid H_X_2
        clear hC2 hP hO hX
        go_upto_region 8 with (first | (have _t := tok3; go_at_call 85; (with_reducible refine ((TH _)).mono ?_); rintro e w3 ⟨rfl, hb3⟩; clear tok3 _t; have hz3 := hb3.size; (try simp only [World.size_alloc, World.size_setCell, World.size_drew, World.size_drewN'] at hz3); (try (have kq := cellAt hb3 (w.heap.size) (by go_size); have k3_w_0_0 := kq 0; have k3_w_0_1 := kq 1; clear kq; have f3_w_0 := frozAt hb3 (w.heap.size) (by go_size); simp [go_sem, *] at k3_w_0_0 k3_w_0_1 f3_w_0)); (try have l3_w_0 : w.heap.size < w3.heap.size := by omega); (try (have kq := cellAt hb3 (w.heap.size + 1) (by go_size); have k3_w_1_0 := kq 0; have k3_w_1_1 := kq 1; have k3_w_1_2 := kq 2; clear kq; have f3_w_1 := frozAt hb3 (w.heap.size + 1) (by go_size); simp [go_sem, *] at k3_w_1_0 k3_w_1_1 k3_w_1_2 f3_w_1)); (try have l3_w_1 : w.heap.size + 1 < w3.heap.size := by omega); (try (have kq := cellAt hb3 (w.heap.size + 1 + 1) (by go_size); have k3_w_2_0 := kq 0; have k3_w_2_1 := kq 1; clear kq; have f3_w_2 := frozAt hb3 (w.heap.size + 1 + 1) (by go_size); simp [go_sem, *] at k3_w_2_0 k3_w_2_1 f3_w_2)); (try have l3_w_2 : w.heap.size + 1 + 1 < w3.heap.size := by omega); (try (have kq := cellAt hb3 (gB) (by go_size); have k3_gB_0 := kq 0; have k3_gB_1 := kq 1; clear kq; have f3_gB := frozAt hb3 (gB) (by go_size); simp [go_sem, *] at k3_gB_0 k3_gB_1 f3_gB)); (try have l3_gB : gB < w3.heap.size := by omega); (try clear k1_w_0_0 k1_w_0_1 f1_w_0); (try clear l1_w_0); (try clear k1_w_1_0 k1_w_1_1 k1_w_1_2 f1_w_1); (try clear l1_w_1); (try clear k1_w_2_0 k1_w_2_1 f1_w_2); (try clear l1_w_2); (try clear k1_gB_0 k1_gB_1 f1_gB); (try clear l1_gB); (try clear k2_w_0_0 k2_w_0_1 f2_w_0); (try clear l2_w_0); (try clear k2_w_1_0 k2_w_1_1 k2_w_1_2 f2_w_1); (try clear l2_w_1); (try clear k2_w_2_0 k2_w_2_1 f2_w_2); (try clear l2_w_2); (try clear k2_gB_0 k2_gB_1 f2_gB); (try clear l2_gB)))
        have H_C_3 := (hb3.block (w.heap.size) (blk_lt' H_C_2.out)).trans H_C_2.out
        clear k_C_2_0 k_C_2_1 f_C_2 H_C_2
        obtain ⟨k_C_3_0, k_C_3_1, f_C_3, l_C_3⟩ := bk2 H_C_3
        replace H_C_3 := Lib.hid H_C_3
        have H_P_3 := (hb3.block (w.heap.size + 1) (blk_lt' H_P_2.out)).trans H_P_2.out
        clear k_P_2_0 k_P_2_1 k_P_2_2 f_P_2 H_P_2
        obtain ⟨k_P_3_0, k_P_3_1, k_P_3_2, f_P_3, l_P_3⟩ := bk3 H_P_3
        replace H_P_3 := Lib.hid H_P_3
        have H_O_3 := (hb3.block (w.heap.size + 1 + 1) (blk_lt' H_O_2.out)).trans H_O_2.out
        clear k_O_2_0 k_O_2_1 f_O_2 H_O_2
        obtain ⟨k_O_3_0, k_O_3_1, f_O_3, l_O_3⟩ := bk2 H_O_3
        replace H_O_3 := Lib.hid H_O_3
        have H_X_3 := (hb3.block (gB) (blk_lt' H_X_2.out)).trans H_X_2.out
        clear k_X_2_0 k_X_2_1 f_X_2 H_X_2
        obtain ⟨k_X_3_0, k_X_3_1, f_X_3, l_X_3⟩ := bk2 H_X_3
        replace H_X_3 := Lib.hid H_X_3
        have hB3 : Below w.heap.size w w3 := below_via hb3 (by assumption) (by go_size)
        replace H_C_3 := H_C_3.out
        replace H_P_3 := H_P_3.out
        replace H_O_3 := H_O_3.out
        replace H_X_3 := H_X_3.out
        refine chk (fun W => Below w.heap.size w W ∧ W.heap[w.heap.size + 1 + 1]? = some (.cells #[.int .i64 0, .int .i64 0] 45 (0, 0)) ∧ W.heap[gB]? = some (.cells #[.int .i64 lo, .int .i64 hi] 45 (0, 0))) (by refine ⟨?_, ?_, ?_⟩ <;> (repeat' first | (with_reducible first | assumption | (apply Ne.symm; assumption) | apply Nat.le_refl | apply Nat.le_add_right | apply zL | apply zRf | apply Wx.box | apply Wx.box4 | apply zWa | apply Wx.drew | apply zWn | apply bx_drew | apply bx_drewN | apply bx_set3 | apply bx_set2 | apply bx_set4 | apply bx_set1) | ((with_reducible apply bx_new); (focus (go_size; done))) | (with_reducible first | apply zOl | apply zFa | apply zDn | apply zDr | apply zAl | apply zSt | refine zVi (by assumption) ?_ ?_) | go_size | omega)) ?_
        clear k_C_3_0 k_C_3_1 f_C_3 H_C_3
        clear k_P_3_0 k_P_3_1 k_P_3_2 f_P_3 H_P_3
        clear k_O_3_0 k_O_3_1 f_O_3 H_O_3
        clear k_X_3_0 k_X_3_1 f_X_3 H_X_3
        clear hB3
        rintro w4 ⟨hB4, H_O_4, H_X_4⟩
        obtain ⟨k_O_4_0, k_O_4_1, f_O_4, l_O_4⟩ := bk2 H_O_4
        replace H_O_4 := Lib.hid H_O_4
        obtain ⟨k_X_4_0, k_X_4_1, f_X_4, l_X_4⟩ := bk2 H_X_4
        replace H_X_4 := Lib.hid H_X_4
        have hgo : gB ≠ w.heap.size + 1 + 1 := by omega
        clear TH
        go_region_held3 (fun w' => w'.cell? ⟨gB, 0, none⟩ = some (.int .i64 lo) ∧ w'.cell? ⟨gB, 1, none⟩ = some (.int .i64 hi)) (first | go_keep | exact ⟨afar2 (by assumption) (by omega), afar2 (by assumption) (by omega)⟩) (first | (have _t := tok7; go_at_call 45; (with_reducible refine ((TV _)).mono ?_); rintro e w7 ⟨rfl, hb7⟩; clear tok7 _t; have hz7 := hb7.size; (try simp only [World.size_alloc, World.size_setCell, World.size_drew, World.size_drewN'] at hz7); (try (have kq := cellAt hb7 (w.heap.size) (by go_size); have k7_w_0_0 := kq 0; have k7_w_0_1 := kq 1; clear kq; have f7_w_0 := frozAt hb7 (w.heap.size) (by go_size); simp [go_sem, *] at k7_w_0_0 k7_w_0_1 f7_w_0)); (try have l7_w_0 : w.heap.size < w7.heap.size := by omega); (try (have kq := cellAt hb7 (w.heap.size + 1) (by go_size); have k7_w_1_0 := kq 0; have k7_w_1_1 := kq 1; have k7_w_1_2 := kq 2; clear kq; have f7_w_1 := frozAt hb7 (w.heap.size + 1) (by go_size); simp [go_sem, *] at k7_w_1_0 k7_w_1_1 k7_w_1_2 f7_w_1)); (try have l7_w_1 : w.heap.size + 1 < w7.heap.size := by omega); (try (have kq := cellAt hb7 (w.heap.size + 1 + 1) (by go_size); have k7_w_2_0 := kq 0; have k7_w_2_1 := kq 1; clear kq; have f7_w_2 := frozAt hb7 (w.heap.size + 1 + 1) (by go_size); simp [go_sem, *] at k7_w_2_0 k7_w_2_1 f7_w_2)); (try have l7_w_2 : w.heap.size + 1 + 1 < w7.heap.size := by omega); (try (have kq := cellAt hb7 (gB) (by go_size); have k7_gB_0 := kq 0; have k7_gB_1 := kq 1; clear kq; have f7_gB := frozAt hb7 (gB) (by go_size); simp [go_sem, *] at k7_gB_0 k7_gB_1 f7_gB)); (try have l7_gB : gB < w7.heap.size := by omega); (try clear k3_w_0_0 k3_w_0_1 f3_w_0); (try clear l3_w_0); (try clear k3_w_1_0 k3_w_1_1 k3_w_1_2 f3_w_1); (try clear l3_w_1); (try clear k3_w_2_0 k3_w_2_1 f3_w_2); (try clear l3_w_2); (try clear k3_gB_0 k3_gB_1 f3_gB); (try clear l3_gB); (try clear k4_w_0_0 k4_w_0_1 f4_w_0); (try clear l4_w_0); (try clear k4_w_1_0 k4_w_1_1 k4_w_1_2 f4_w_1); (try clear l4_w_1); (try clear k4_w_2_0 k4_w_2_1 f4_w_2); (try clear l4_w_2); (try clear k4_gB_0 k4_gB_1 f4_gB); (try clear l4_gB); (try clear k5_w_0_0 k5_w_0_1 f5_w_0); (try clear l5_w_0); (try clear k5_w_1_0 k5_w_1_1 k5_w_1_2 f5_w_1); (try clear l5_w_1); (try clear k5_w_2_0 k5_w_2_1 f5_w_2); (try clear l5_w_2); (try clear k5_gB_0 k5_gB_1 f5_gB); (try clear l5_gB); (try clear k6_w_0_0 k6_w_0_1 f6_w_0); (try clear l6_w_0); (try clear k6_w_1_0 k6_w_1_1 k6_w_1_2 f6_w_1); (try clear l6_w_1); (try clear k6_w_2_0 k6_w_2_1 f6_w_2); (try clear l6_w_2); (try clear k6_gB_0 k6_gB_1 f6_gB); (try clear l6_gB)))
        iterate 24 (first | (with_reducible show bodyPost _ _ _ _ _ _) | (with_reducible refine wp_ret ?_) | go_values | go_skip | go_guarded | go_step | go_upon | go_back | skip)
        refine bodyPost_ret (v := .tuple #[.agg #[.int .i64 lo, .int .i64 hi], .int .i64 k, .bool (validB lo hi)]) (by simp [results, Tryz.results66, go_sem, k7_w_2_0, k7_w_2_1, k_O_4_0, k_O_4_1]) rfl ⟨by rw [HLO.out, HHI.out], by (repeat' first | (with_reducible first | assumption | (apply Ne.symm; assumption) | apply Nat.le_refl | apply Nat.le_add_right | apply zL | apply zRf | apply Wx.box | apply Wx.box4 | apply zWa | apply Wx.drew | apply zWn | apply bx_drew | apply bx_drewN | apply bx_set3 | apply bx_set2 | apply bx_set4 | apply bx_set1) | ((with_reducible apply bx_new); (focus (go_size; done))) | (with_reducible first | apply zOl | apply zFa | apply zDn | apply zDr | apply zAl | apply zSt | refine zVi (by assumption) ?_ ?_) | go_size | omega)⟩
      | true =>
        have hbN := Lib.hid ((bN_go hlt hs).symm.trans HNk.out)
        have htb := HTB.out (k + 1)
        have TC0 := fun W => common_span_any (bLo C st k) (bHi C st k) (htLo C (k + 1) (st (k + 1))) (htHi C (k + 1) (st (k + 1))) W (by omega) (by omega) (by omega) (by omega)
        have eL : max (bLo C st k) (htLo C (k + 1) (st (k + 1))) = bLo C st (k + 1) := rfl
        have eH : min (bHi C st k) (htHi C (k + 1) (st (k + 1))) = bHi C st (k + 1) := rfl
        have TC := TC0
        rw [eL, eH] at TC
        have TH : ∀ W, Calls Tryz.prog 85 #[.agg #[.int .i64 A, .int .i64 B], .agg #[.int .i64 x, .int .i64 y, .int .i64 e], .int .i64 ((k : Int) + 1)] W fun r w' => r = .returned (.tuple #[.agg #[.int .i64 (htLo C (k + 1) (st (k + 1))), .int .i64 (htHi C (k + 1) (st (k + 1)))], .bool true]) ∧ Below W.heap.size W w' := fun W => by
          have := TH0 W (k + 1) (by omega)
          rw [hs] at this
          exact this
        clear TH0 hs TC0 eL eH htb hbd
        generalize htLo C (k + 1) (st (k + 1)) = lo1 at *
        generalize htHi C (k + 1) (st (k + 1)) = hi1 at *
        generalize hlo : bLo C st k = lo at *
        generalize hhi : bHi C st k = hi at *
        generalize hlo2 : bLo C st (k + 1) = lo2 at *
        generalize hhi2 : bHi C st (k + 1) = hi2 at *
        have HLO := Lib.hid hlo2
        have HHI := Lib.hid hhi2
        clear hlo hhi hlo2 hhi2
        go_upto_region 4 with (fail)
        refine chk (fun W => Below w.heap.size w W ∧ W.heap[w.heap.size]? = some (.cells #[.int .i64 A, .int .i64 B] 32 (0, 0)) ∧ W.heap[w.heap.size + 1]? = some (.cells #[.int .i64 x, .int .i64 y, .int .i64 e] 34 (0, 0)) ∧ W.heap[w.heap.size + 1 + 1]? = some (.cells #[.int .i64 0, .int .i64 0] 45 (0, 0)) ∧ W.heap[gB]? = some (.cells #[.int .i64 lo, .int .i64 hi] 45 (0, 0))) (by refine ⟨?_, ?_, ?_, ?_, ?_⟩ <;> (repeat' first | (with_reducible first | assumption | (apply Ne.symm; assumption) | apply Nat.le_refl | apply Nat.le_add_right | apply zL | apply zRf | apply Wx.box | apply Wx.box4 | apply zWa | apply Wx.drew | apply zWn | apply bx_drew | apply bx_drewN | apply bx_set3 | apply bx_set2 | apply bx_set4 | apply bx_set1) | ((with_reducible apply bx_new); (focus (go_size; done))) | (with_reducible first | apply zOl | apply zFa | apply zDn | apply zDr | apply zAl | apply zSt | refine zVi (by assumption) ?_ ?_) | go_size | omega)) ?_
        rintro w2 ⟨hB2, H_C_2, H_P_2, H_O_2, H_X_2⟩
        obtain ⟨k_C_2_0, k_C_2_1, f_C_2, l_C_2⟩ := bk2 H_C_2
        replace H_C_2 := Lib.hid H_C_2
        obtain ⟨k_P_2_0, k_P_2_1, k_P_2_2, f_P_2, l_P_2⟩ := bk3 H_P_2
        replace H_P_2 := Lib.hid H_P_2
        obtain ⟨k_O_2_0, k_O_2_1, f_O_2, l_O_2⟩ := bk2 H_O_2
        replace H_O_2 := Lib.hid H_O_2
        obtain ⟨k_X_2_0, k_X_2_1, f_X_2, l_X_2⟩ := bk2 H_X_2
        replace H_X_2 := Lib.hid H_X_2
        clear hC2 hP hO hX
        go_upto_region 6 with (first | (have _t := tok3; go_at_call 85; (with_reducible refine ((TH _)).mono ?_); rintro e w3 ⟨rfl, hb3⟩; clear tok3 _t; have hz3 := hb3.size; (try simp only [World.size_alloc, World.size_setCell, World.size_drew, World.size_drewN'] at hz3); (try (have kq := cellAt hb3 (w.heap.size) (by go_size); have k3_w_0_0 := kq 0; have k3_w_0_1 := kq 1; clear kq; have f3_w_0 := frozAt hb3 (w.heap.size) (by go_size); simp [go_sem, *] at k3_w_0_0 k3_w_0_1 f3_w_0)); (try have l3_w_0 : w.heap.size < w3.heap.size := by omega); (try (have kq := cellAt hb3 (w.heap.size + 1) (by go_size); have k3_w_1_0 := kq 0; have k3_w_1_1 := kq 1; have k3_w_1_2 := kq 2; clear kq; have f3_w_1 := frozAt hb3 (w.heap.size + 1) (by go_size); simp [go_sem, *] at k3_w_1_0 k3_w_1_1 k3_w_1_2 f3_w_1)); (try have l3_w_1 : w.heap.size + 1 < w3.heap.size := by omega); (try (have kq := cellAt hb3 (w.heap.size + 1 + 1) (by go_size); have k3_w_2_0 := kq 0; have k3_w_2_1 := kq 1; clear kq; have f3_w_2 := frozAt hb3 (w.heap.size + 1 + 1) (by go_size); simp [go_sem, *] at k3_w_2_0 k3_w_2_1 f3_w_2)); (try have l3_w_2 : w.heap.size + 1 + 1 < w3.heap.size := by omega); (try (have kq := cellAt hb3 (gB) (by go_size); have k3_gB_0 := kq 0; have k3_gB_1 := kq 1; clear kq; have f3_gB := frozAt hb3 (gB) (by go_size); simp [go_sem, *] at k3_gB_0 k3_gB_1 f3_gB)); (try have l3_gB : gB < w3.heap.size := by omega); (try clear k1_w_0_0 k1_w_0_1 f1_w_0); (try clear l1_w_0); (try clear k1_w_1_0 k1_w_1_1 k1_w_1_2 f1_w_1); (try clear l1_w_1); (try clear k1_w_2_0 k1_w_2_1 f1_w_2); (try clear l1_w_2); (try clear k1_gB_0 k1_gB_1 f1_gB); (try clear l1_gB); (try clear k2_w_0_0 k2_w_0_1 f2_w_0); (try clear l2_w_0); (try clear k2_w_1_0 k2_w_1_1 k2_w_1_2 f2_w_1); (try clear l2_w_1); (try clear k2_w_2_0 k2_w_2_1 f2_w_2); (try clear l2_w_2); (try clear k2_gB_0 k2_gB_1 f2_gB); (try clear l2_gB)))
        have H_C_3 := (hb3.block (w.heap.size) (blk_lt' H_C_2.out)).trans H_C_2.out
        clear k_C_2_0 k_C_2_1 f_C_2 H_C_2
        obtain ⟨k_C_3_0, k_C_3_1, f_C_3, l_C_3⟩ := bk2 H_C_3
        replace H_C_3 := Lib.hid H_C_3
        have H_P_3 := (hb3.block (w.heap.size + 1) (blk_lt' H_P_2.out)).trans H_P_2.out
        clear k_P_2_0 k_P_2_1 k_P_2_2 f_P_2 H_P_2
        obtain ⟨k_P_3_0, k_P_3_1, k_P_3_2, f_P_3, l_P_3⟩ := bk3 H_P_3
        replace H_P_3 := Lib.hid H_P_3
        have H_O_3 := (hb3.block (w.heap.size + 1 + 1) (blk_lt' H_O_2.out)).trans H_O_2.out
        clear k_O_2_0 k_O_2_1 f_O_2 H_O_2
        obtain ⟨k_O_3_0, k_O_3_1, f_O_3, l_O_3⟩ := bk2 H_O_3
        replace H_O_3 := Lib.hid H_O_3
        have H_X_3 := (hb3.block (gB) (blk_lt' H_X_2.out)).trans H_X_2.out
        clear k_X_2_0 k_X_2_1 f_X_2 H_X_2
        obtain ⟨k_X_3_0, k_X_3_1, f_X_3, l_X_3⟩ := bk2 H_X_3
        replace H_X_3 := Lib.hid H_X_3
        have hB3 : Below w.heap.size w w3 := below_via hb3 (by assumption) (by go_size)
        replace H_C_3 := H_C_3.out
        replace H_P_3 := H_P_3.out
        replace H_O_3 := H_O_3.out
        replace H_X_3 := H_X_3.out
        refine chk (fun W => Below w.heap.size w W ∧ W.heap[w.heap.size]? = some (.cells #[.int .i64 A, .int .i64 B] 32 (0, 0)) ∧ W.heap[w.heap.size + 1]? = some (.cells #[.int .i64 x, .int .i64 y, .int .i64 e] 34 (0, 0)) ∧ W.heap[w.heap.size + 1 + 1]? = some (.cells #[.int .i64 0, .int .i64 0] 45 (0, 0)) ∧ W.heap[gB]? = some (.cells #[.int .i64 lo, .int .i64 hi] 45 (0, 0)) ∧ W.heap[w3.heap.size]? = some (.cells #[.int .i64 lo1, .int .i64 hi1] 45 (0, 0))) (by refine ⟨?_, ?_, ?_, ?_, ?_, ?_⟩ <;> (repeat' first | (with_reducible first | assumption | (apply Ne.symm; assumption) | apply Nat.le_refl | apply Nat.le_add_right | apply zL | apply zRf | apply Wx.box | apply Wx.box4 | apply zWa | apply Wx.drew | apply zWn | apply bx_drew | apply bx_drewN | apply bx_set3 | apply bx_set2 | apply bx_set4 | apply bx_set1) | ((with_reducible apply bx_new); (focus (go_size; done))) | (with_reducible first | apply zOl | apply zFa | apply zDn | apply zDr | apply zAl | apply zSt | refine zVi (by assumption) ?_ ?_) | go_size | omega)) ?_
        clear k_C_3_0 k_C_3_1 f_C_3 H_C_3
        clear k_P_3_0 k_P_3_1 k_P_3_2 f_P_3 H_P_3
        clear k_O_3_0 k_O_3_1 f_O_3 H_O_3
        clear k_X_3_0 k_X_3_1 f_X_3 H_X_3
        clear hB3
        rintro w4 ⟨hB4, H_C_4, H_P_4, H_O_4, H_X_4, H_Y_4⟩
        obtain ⟨k_C_4_0, k_C_4_1, f_C_4, l_C_4⟩ := bk2 H_C_4
        replace H_C_4 := Lib.hid H_C_4
        obtain ⟨k_P_4_0, k_P_4_1, k_P_4_2, f_P_4, l_P_4⟩ := bk3 H_P_4
        replace H_P_4 := Lib.hid H_P_4
        obtain ⟨k_O_4_0, k_O_4_1, f_O_4, l_O_4⟩ := bk2 H_O_4
        replace H_O_4 := Lib.hid H_O_4
        obtain ⟨k_X_4_0, k_X_4_1, f_X_4, l_X_4⟩ := bk2 H_X_4
        replace H_X_4 := Lib.hid H_X_4
        obtain ⟨k_Y_4_0, k_Y_4_1, f_Y_4, l_Y_4⟩ := bk2 H_Y_4
        replace H_Y_4 := Lib.hid H_Y_4
        go_upto_region 7 with (first | (have _t := tok5; go_at_call 86; (with_reducible refine ((TC _)).mono ?_); rintro e w5 ⟨rfl, hb5⟩; clear tok5 _t; have hz5 := hb5.size; (try simp only [World.size_alloc, World.size_setCell, World.size_drew, World.size_drewN'] at hz5); (try (have kq := cellAt hb5 (w.heap.size) (by go_size); have k5_w_0_0 := kq 0; have k5_w_0_1 := kq 1; clear kq; have f5_w_0 := frozAt hb5 (w.heap.size) (by go_size); simp [go_sem, *] at k5_w_0_0 k5_w_0_1 f5_w_0)); (try have l5_w_0 : w.heap.size < w5.heap.size := by omega); (try (have kq := cellAt hb5 (w.heap.size + 1) (by go_size); have k5_w_1_0 := kq 0; have k5_w_1_1 := kq 1; have k5_w_1_2 := kq 2; clear kq; have f5_w_1 := frozAt hb5 (w.heap.size + 1) (by go_size); simp [go_sem, *] at k5_w_1_0 k5_w_1_1 k5_w_1_2 f5_w_1)); (try have l5_w_1 : w.heap.size + 1 < w5.heap.size := by omega); (try (have kq := cellAt hb5 (w.heap.size + 1 + 1) (by go_size); have k5_w_2_0 := kq 0; have k5_w_2_1 := kq 1; clear kq; have f5_w_2 := frozAt hb5 (w.heap.size + 1 + 1) (by go_size); simp [go_sem, *] at k5_w_2_0 k5_w_2_1 f5_w_2)); (try have l5_w_2 : w.heap.size + 1 + 1 < w5.heap.size := by omega); (try (have kq := cellAt hb5 (gB) (by go_size); have k5_gB_0 := kq 0; have k5_gB_1 := kq 1; clear kq; have f5_gB := frozAt hb5 (gB) (by go_size); simp [go_sem, *] at k5_gB_0 k5_gB_1 f5_gB)); (try have l5_gB : gB < w5.heap.size := by omega); (try (have kq := cellAt hb5 (w3.heap.size) (by go_size); have k5_w3_0_0 := kq 0; have k5_w3_0_1 := kq 1; clear kq; have f5_w3_0 := frozAt hb5 (w3.heap.size) (by go_size); simp [go_sem, *] at k5_w3_0_0 k5_w3_0_1 f5_w3_0)); (try have l5_w3_0 : w3.heap.size < w5.heap.size := by omega); (try clear k1_w_0_0 k1_w_0_1 f1_w_0); (try clear l1_w_0); (try clear k1_w_1_0 k1_w_1_1 k1_w_1_2 f1_w_1); (try clear l1_w_1); (try clear k1_w_2_0 k1_w_2_1 f1_w_2); (try clear l1_w_2); (try clear k1_gB_0 k1_gB_1 f1_gB); (try clear l1_gB); (try clear k2_w_0_0 k2_w_0_1 f2_w_0); (try clear l2_w_0); (try clear k2_w_1_0 k2_w_1_1 k2_w_1_2 f2_w_1); (try clear l2_w_1); (try clear k2_w_2_0 k2_w_2_1 f2_w_2); (try clear l2_w_2); (try clear k2_gB_0 k2_gB_1 f2_gB); (try clear l2_gB); (try clear k3_w_0_0 k3_w_0_1 f3_w_0); (try clear l3_w_0); (try clear k3_w_1_0 k3_w_1_1 k3_w_1_2 f3_w_1); (try clear l3_w_1); (try clear k3_w_2_0 k3_w_2_1 f3_w_2); (try clear l3_w_2); (try clear k3_gB_0 k3_gB_1 f3_gB); (try clear l3_gB); (try clear k4_w_0_0 k4_w_0_1 f4_w_0); (try clear l4_w_0); (try clear k4_w_1_0 k4_w_1_1 k4_w_1_2 f4_w_1); (try clear l4_w_1); (try clear k4_w_2_0 k4_w_2_1 f4_w_2); (try clear l4_w_2); (try clear k4_gB_0 k4_gB_1 f4_gB); (try clear l4_gB); (try clear k4_w3_0_0 k4_w3_0_1 f4_w3_0); (try clear l4_w3_0)))
        have H_C_5 := (hb5.block (w.heap.size) (blk_lt' H_C_4.out)).trans H_C_4.out
        clear k_C_4_0 k_C_4_1 f_C_4 H_C_4
        obtain ⟨k_C_5_0, k_C_5_1, f_C_5, l_C_5⟩ := bk2 H_C_5
        replace H_C_5 := Lib.hid H_C_5
        have H_P_5 := (hb5.block (w.heap.size + 1) (blk_lt' H_P_4.out)).trans H_P_4.out
        clear k_P_4_0 k_P_4_1 k_P_4_2 f_P_4 H_P_4
        obtain ⟨k_P_5_0, k_P_5_1, k_P_5_2, f_P_5, l_P_5⟩ := bk3 H_P_5
        replace H_P_5 := Lib.hid H_P_5
        have H_O_5 := (hb5.block (w.heap.size + 1 + 1) (blk_lt' H_O_4.out)).trans H_O_4.out
        clear k_O_4_0 k_O_4_1 f_O_4 H_O_4
        obtain ⟨k_O_5_0, k_O_5_1, f_O_5, l_O_5⟩ := bk2 H_O_5
        replace H_O_5 := Lib.hid H_O_5
        have H_X_5 := (hb5.block (gB) (blk_lt' H_X_4.out)).trans H_X_4.out
        clear k_X_4_0 k_X_4_1 f_X_4 H_X_4
        obtain ⟨k_X_5_0, k_X_5_1, f_X_5, l_X_5⟩ := bk2 H_X_5
        replace H_X_5 := Lib.hid H_X_5
        have H_Y_5 := (hb5.block (w3.heap.size) (blk_lt' H_Y_4.out)).trans H_Y_4.out
        clear k_Y_4_0 k_Y_4_1 f_Y_4 H_Y_4
        obtain ⟨k_Y_5_0, k_Y_5_1, f_Y_5, l_Y_5⟩ := bk2 H_Y_5
        replace H_Y_5 := Lib.hid H_Y_5
        have hB5 : Below w.heap.size w w5 := below_via hb5 (by assumption) (by go_size)
        have hgo : gB ≠ w.heap.size ∧ gB ≠ w.heap.size + 1 ∧ gB ≠ w.heap.size + 1 + 1 := by omega
        clear TH TC
        go_wp2_with fail
        go_roundw
        case rel =>
          have q1 := H_C_5.out
          have q2 := H_P_5.out
          have q3 := H_O_5.out
          have q4 := H_X_5.out
          obtain ⟨g1, g2, g3⟩ := hgo
          exact ⟨k + 1, by go_num, by omega, hbN.out, by (repeat' first | (with_reducible first | assumption | (apply Ne.symm; assumption) | apply Nat.le_refl | apply Nat.le_add_right | apply zL | apply zRf | apply Wx.box | apply Wx.box4 | apply zWa | apply Wx.drew | apply zWn | apply bx_drew | apply bx_drewN | apply bx_set3 | apply bx_set2 | apply bx_set4 | apply bx_set1) | ((with_reducible apply bx_new); (focus (go_size; done))) | (with_reducible first | apply zOl | apply zFa | apply zDn | apply zDr | apply zAl | apply zSt | refine zVi (by assumption) ?_ ?_) | go_size | omega), by (repeat' first | (with_reducible first | assumption | (apply Ne.symm; assumption) | apply Nat.le_refl | apply Nat.le_add_right | apply zL | apply zRf | apply Wx.box | apply Wx.box4 | apply zWa | apply Wx.drew | apply zWn | apply bx_drew | apply bx_drewN | apply bx_set3 | apply bx_set2 | apply bx_set4 | apply bx_set1) | ((with_reducible apply bx_new); (focus (go_size; done))) | (with_reducible first | apply zOl | apply zFa | apply zDn | apply zDr | apply zAl | apply zSt | refine zVi (by assumption) ?_ ?_) | go_size | omega), by (repeat' first | (with_reducible first | assumption | (apply Ne.symm; assumption) | apply Nat.le_refl | apply Nat.le_add_right | apply zL | apply zRf | apply Wx.box | apply Wx.box4 | apply zWa | apply Wx.drew | apply zWn | apply bx_drew | apply bx_drewN | apply bx_set3 | apply bx_set2 | apply bx_set4 | apply bx_set1) | ((with_reducible apply bx_new); (focus (go_size; done))) | (with_reducible first | apply zOl | apply zFa | apply zDn | apply zDr | apply zAl | apply zSt | refine zVi (by assumption) ?_ ?_) | go_size | omega), by rw [HLO.out, HHI.out]; (repeat' first | (with_reducible first | assumption | (apply Ne.symm; assumption) | apply Nat.le_refl | apply Nat.le_add_right | apply zL | apply zRf | apply Wx.box | apply Wx.box4 | apply zWa | apply Wx.drew | apply zWn | apply bx_drew | apply bx_drewN | apply bx_set3 | apply bx_set2 | apply bx_set4 | apply bx_set1) | ((with_reducible apply bx_new); (focus (go_size; done))) | (with_reducible first | apply zOl | apply zFa | apply zDn | apply zDr | apply zAl | apply zSt | refine zVi (by assumption) ?_ ?_) | go_size | omega), by (repeat' first | (with_reducible first | assumption | (apply Ne.symm; assumption) | apply Nat.le_refl | apply Nat.le_add_right | apply zL | apply zRf | apply Wx.box | apply Wx.box4 | apply zWa | apply Wx.drew | apply zWn | apply bx_drew | apply bx_drewN | apply bx_set3 | apply bx_set2 | apply bx_set4 | apply bx_set1) | ((with_reducible apply bx_new); (focus (go_size; done))) | (with_reducible first | apply zOl | apply zFa | apply zDn | apply zDr | apply zAl | apply zSt | refine zVi (by assumption) ?_ ?_) | go_size | omega)⟩
        case measure => simp [intOf]; omega
    · obtain rfl : k = 5 := by omega
      obtain rfl : 5 = N := (bN_end (st := st) (n := 5) (by omega)).symm.trans HNk.out
      have TV := fun W => valid_any (bLo C st 5) (bHi C st 5) W
      generalize hlo : bLo C st 5 = lo at *
      generalize hhi : bHi C st 5 = hi at *
      have HLO := Lib.hid hlo
      have HHI := Lib.hid hhi
      clear hlo hhi
      go_upto_region 8 with (fail)
      refine chk (fun W => Below w.heap.size w W ∧ W.heap[w.heap.size + 1 + 1]? = some (.cells #[.int .i64 0, .int .i64 0] 45 (0, 0)) ∧ W.heap[gB]? = some (.cells #[.int .i64 lo, .int .i64 hi] 45 (0, 0))) (by refine ⟨?_, ?_, ?_⟩ <;> (repeat' first | (with_reducible first | assumption | (apply Ne.symm; assumption) | apply Nat.le_refl | apply Nat.le_add_right | apply zL | apply zRf | apply Wx.box | apply Wx.box4 | apply zWa | apply Wx.drew | apply zWn | apply bx_drew | apply bx_drewN | apply bx_set3 | apply bx_set2 | apply bx_set4 | apply bx_set1) | ((with_reducible apply bx_new); (focus (go_size; done))) | (with_reducible first | apply zOl | apply zFa | apply zDn | apply zDr | apply zAl | apply zSt | refine zVi (by assumption) ?_ ?_) | go_size | omega)) ?_
      rintro w4 ⟨hB4, H_O_4, H_X_4⟩
      obtain ⟨k_O_4_0, k_O_4_1, f_O_4, l_O_4⟩ := bk2 H_O_4
      replace H_O_4 := Lib.hid H_O_4
      obtain ⟨k_X_4_0, k_X_4_1, f_X_4, l_X_4⟩ := bk2 H_X_4
      replace H_X_4 := Lib.hid H_X_4
      have hgo : gB ≠ w.heap.size + 1 + 1 := by omega
      clear hC2 hP hO hX
      go_region_held3 (fun w' => w'.cell? ⟨gB, 0, none⟩ = some (.int .i64 lo) ∧ w'.cell? ⟨gB, 1, none⟩ = some (.int .i64 hi)) (first | go_keep | exact ⟨afar2 (by assumption) (by omega), afar2 (by assumption) (by omega)⟩) (first | (have _t := tok7; go_at_call 45; (with_reducible refine ((TV _)).mono ?_); rintro e w7 ⟨rfl, hb7⟩; clear tok7 _t; have hz7 := hb7.size; (try simp only [World.size_alloc, World.size_setCell, World.size_drew, World.size_drewN'] at hz7); (try (have kq := cellAt hb7 (w.heap.size) (by go_size); have k7_w_0_0 := kq 0; have k7_w_0_1 := kq 1; clear kq; have f7_w_0 := frozAt hb7 (w.heap.size) (by go_size); simp [go_sem, *] at k7_w_0_0 k7_w_0_1 f7_w_0)); (try have l7_w_0 : w.heap.size < w7.heap.size := by omega); (try (have kq := cellAt hb7 (w.heap.size + 1) (by go_size); have k7_w_1_0 := kq 0; have k7_w_1_1 := kq 1; have k7_w_1_2 := kq 2; clear kq; have f7_w_1 := frozAt hb7 (w.heap.size + 1) (by go_size); simp [go_sem, *] at k7_w_1_0 k7_w_1_1 k7_w_1_2 f7_w_1)); (try have l7_w_1 : w.heap.size + 1 < w7.heap.size := by omega); (try (have kq := cellAt hb7 (w.heap.size + 1 + 1) (by go_size); have k7_w_2_0 := kq 0; have k7_w_2_1 := kq 1; clear kq; have f7_w_2 := frozAt hb7 (w.heap.size + 1 + 1) (by go_size); simp [go_sem, *] at k7_w_2_0 k7_w_2_1 f7_w_2)); (try have l7_w_2 : w.heap.size + 1 + 1 < w7.heap.size := by omega); (try (have kq := cellAt hb7 (gB) (by go_size); have k7_gB_0 := kq 0; have k7_gB_1 := kq 1; clear kq; have f7_gB := frozAt hb7 (gB) (by go_size); simp [go_sem, *] at k7_gB_0 k7_gB_1 f7_gB)); (try have l7_gB : gB < w7.heap.size := by omega); (try clear k3_w_0_0 k3_w_0_1 f3_w_0); (try clear l3_w_0); (try clear k3_w_1_0 k3_w_1_1 k3_w_1_2 f3_w_1); (try clear l3_w_1); (try clear k3_w_2_0 k3_w_2_1 f3_w_2); (try clear l3_w_2); (try clear k3_gB_0 k3_gB_1 f3_gB); (try clear l3_gB); (try clear k4_w_0_0 k4_w_0_1 f4_w_0); (try clear l4_w_0); (try clear k4_w_1_0 k4_w_1_1 k4_w_1_2 f4_w_1); (try clear l4_w_1); (try clear k4_w_2_0 k4_w_2_1 f4_w_2); (try clear l4_w_2); (try clear k4_gB_0 k4_gB_1 f4_gB); (try clear l4_gB); (try clear k5_w_0_0 k5_w_0_1 f5_w_0); (try clear l5_w_0); (try clear k5_w_1_0 k5_w_1_1 k5_w_1_2 f5_w_1); (try clear l5_w_1); (try clear k5_w_2_0 k5_w_2_1 f5_w_2); (try clear l5_w_2); (try clear k5_gB_0 k5_gB_1 f5_gB); (try clear l5_gB); (try clear k6_w_0_0 k6_w_0_1 f6_w_0); (try clear l6_w_0); (try clear k6_w_1_0 k6_w_1_1 k6_w_1_2 f6_w_1); (try clear l6_w_1); (try clear k6_w_2_0 k6_w_2_1 f6_w_2); (try clear l6_w_2); (try clear k6_gB_0 k6_gB_1 f6_gB); (try clear l6_gB)))
      iterate 24 (first | (with_reducible show bodyPost _ _ _ _ _ _) | (with_reducible refine wp_ret ?_) | go_values | go_skip | go_guarded | go_step | go_upon | go_back | skip)
      refine bodyPost_ret (v := .tuple #[.agg #[.int .i64 lo, .int .i64 hi], .int .i64 5, .bool (validB lo hi)]) (by simp [results, Tryz.results66, go_sem, k7_w_2_0, k7_w_2_1, k_O_4_0, k_O_4_1]) rfl ⟨by rw [HLO.out, HHI.out]; rfl, by (repeat' first | (with_reducible first | assumption | (apply Ne.symm; assumption) | apply Nat.le_refl | apply Nat.le_add_right | apply zL | apply zRf | apply Wx.box | apply Wx.box4 | apply zWa | apply Wx.drew | apply zWn | apply bx_drew | apply bx_drewN | apply bx_set3 | apply bx_set2 | apply bx_set4 | apply bx_set1) | ((with_reducible apply bx_new); (focus (go_size; done))) | (with_reducible first | apply zOl | apply zFa | apply zDn | apply zDr | apply zAl | apply zSt | refine zVi (by assumption) ?_ ?_) | go_size | omega)⟩
end Go.Proofs.YtgjppinjapdbeaaGreat
