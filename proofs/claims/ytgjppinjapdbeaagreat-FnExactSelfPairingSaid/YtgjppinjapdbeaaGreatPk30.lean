/- Lemmas and contracts of functions. No condition. -/
import Derived.Test.YtgjppinjapdbeaaGreatPk29
namespace Go.Proofs.YtgjppinjapdbeaaGreat
open Go.RowKit
set_option linter.unusedVariables false
set_option maxHeartbeats 1000000
set_option maxRecDepth 20000
set_option linter.unusedSimpArgs false
attribute [local go_sem] openAt openUpon
/-- the best interval, how many doublings it took, and whether there is one -/
def beN1 (C : Int) (st : Nat → RSt) : Int := ivN1 true (bLo C st (bestN st)) (bHi C st (bestN st))
def beD1 (C : Int) (st : Nat → RSt) : Int := ivD1 true (bLo C st (bestN st)) (bHi C st (bestN st))
def beN2 (C : Int) (st : Nat → RSt) : Int := ivN2 true (bLo C st (bestN st)) (bHi C st (bestN st))
def beD2 (C : Int) (st : Nat → RSt) : Int := ivD2 true (bLo C st (bestN st)) (bHi C st (bestN st))
def beOk (C : Int) (st : Nat → RSt) : Bool := validB (bLo C st (bestN st)) (bHi C st (bestN st))
def beK (C : Int) (st : Nat → RSt) : Int := if beOk C st = true then (bestN st : Int) else 0
theorem be_yes {C : Int} {st : Nat → RSt} (hC : 0 ≤ C ∧ C ≤ 64) (hs : ∀ k, okS (st k) = true) {k : Nat} (hk : bestN st = k) (h : bLo C st k ≤ bHi C st k) :
    beN1 C st = mkN (bLo C st k) 4096 ∧ beD1 C st = mkD (bLo C st k) 4096 ∧ beN2 C st = mkN (bHi C st k) 4096 ∧ beD2 C st = mkD (bHi C st k) 4096 ∧ beOk C st = true ∧ beK C st = k := by
  have hv : validB (bLo C st k) (bHi C st k) = true := by rw [valid_b hC hs]; simpa using h
  refine ⟨?_, ?_, ?_, ?_, ?_, ?_⟩
  · simp [beN1, hk, ivN1, hv]
  · simp [beD1, hk, ivD1, hv]
  · simp [beN2, hk, ivN2, hv]
  · simp [beD2, hk, ivD2, hv]
  · simp [beOk, hk, hv]
  · simp [beK, beOk, hk, hv]
theorem be_no {C : Int} {st : Nat → RSt} (hC : 0 ≤ C ∧ C ≤ 64) (hs : ∀ k, okS (st k) = true) {k : Nat} (hk : k ≤ bestN st) (h : ¬ bLo C st k ≤ bHi C st k) :
    beN1 C st = 0 ∧ beD1 C st = 0 ∧ beN2 C st = 0 ∧ beD2 C st = 0 ∧ beOk C st = false ∧ beK C st = 0 := by
  have h2 : ¬ bLo C st (bestN st) ≤ bHi C st (bestN st) := fun e => h (b_anti _ hk e)
  have hv : validB (bLo C st (bestN st)) (bHi C st (bestN st)) = false := by rw [valid_b hC hs]; simpa using h2
  refine ⟨?_, ?_, ?_, ?_, ?_, ?_⟩
  · simp [beN1, ivN1, hv]
  · simp [beD1, ivD1, hv]
  · simp [beN2, ivN2, hv]
  · simp [beD2, ivD2, hv]
  · simp [beOk, hv]
  · simp [beK, beOk, hv]
theorem ptSt_ok0 {A B x e : Int} : htOk (ptSt A B x e 0) = true := by
  by_cases h : e = 0
  · simp [ptSt, h, htOk]
  · rw [ptSt_zero h]; rfl
def BsRel (w : World) (A B x y e C : Int) (st : Nat → RSt) (gB N : Nat) (nv : Value) (wr : World) : Prop := ∃ k : Nat, nv = .int .i64 k ∧ k ≤ 5 ∧ bN st (5 - k) k = N ∧ bLo C st k ≤ bHi C st k ∧ wr.heap[w.heap.size]? = some (.cells #[.int .i64 A, .int .i64 B] 32 (0, 0)) ∧ wr.heap[w.heap.size + 1]? = some (.cells #[.int .i64 x, .int .i64 y, .int .i64 e] 34 (0, 0)) ∧
  wr.heap[w.heap.size + 1 + 1]? = some (.cells #[.int .i64 0, .int .i64 0, .int .i64 0, .int .i64 0] 29 (0, 0)) ∧ wr.heap[gB]? = some (.cells #[.int .i64 (mkN (bLo C st k) 4096), .int .i64 (mkD (bLo C st k) 4096), .int .i64 (mkN (bHi C st k) 4096), .int .i64 (mkD (bHi C st k) 4096)] 29 (0, 0)) ∧ Below w.heap.size w wr
theorem chBest_any (A B x y e : Int) (w : World) (hA : -1000 ≤ A ∧ A ≤ 1000) (hBB : -10000 ≤ B ∧ B ≤ 10000) (hcv : coV A B ≠ 0) (hx : -10000 ≤ x ∧ x ≤ 10000) (he : 0 ≤ e ∧ e ≤ 20) :
    Calls Tryz.prog 55 #[.agg #[.int .i64 A, .int .i64 B], .agg #[.int .i64 x, .int .i64 y, .int .i64 e]] w fun r w' => r = .returned (.tuple #[.agg #[.int .i64 (beN1 (dcV A B) (ptSt A B x e)), .int .i64 (beD1 (dcV A B) (ptSt A B x e)), .int .i64 (beN2 (dcV A B) (ptSt A B x e)), .int .i64 (beD2 (dcV A B) (ptSt A B x e))], .int .i64 (beK (dcV A B) (ptSt A B x e)), .bool (beOk (dcV A B) (ptSt A B x e))]) ∧ Below w.heap.size w w' := by
  have hC := dc_bd hA hBB
  have hok := fun k => ptSt_ok (A := A) (B := B) hx he k
  have TK := fun (W : World) (k : Nat) (hk : k ≤ 5) => chHeight_any A B x y e k W hA hBB hcv hx he hk
  have h00 := ptSt_ok0 (A := A) (B := B) (x := x) (e := e)
  generalize hst : ptSt A B x e = st at *
  generalize dcV A B = C at *
  clear hst
  have BY := Lib.hid (fun (k : Nat) (h1 : bestN st = k) (h2 : bLo C st k ≤ bHi C st k) => be_yes hC hok h1 h2)
  have BN := Lib.hid (fun (k : Nat) (h1 : k ≤ bestN st) (h2 : bHi C st k < bLo C st k) => be_no hC hok h1 (by omega))
  have T0 : ∀ W, Calls Tryz.prog 77 #[.agg #[.int .i64 A, .int .i64 B], .agg #[.int .i64 x, .int .i64 y, .int .i64 e], .int .i64 0] W fun r w' => r = .returned (.tuple #[.agg #[.int .i64 (mkN (bLo C st 0) 4096), .int .i64 (mkD (bLo C st 0) 4096), .int .i64 (mkN (bHi C st 0) 4096), .int .i64 (mkD (bHi C st 0) 4096)], .bool true]) ∧ Below W.heap.size W w' := fun W => by
    have := TK W 0 (by omega)
    rw [h00, ivV_yes (valid_ht hC (hok 0))] at this
    exact this
  have l0 := (ht_bd (n := 0) hC (hok 0)).2.1
  obtain ⟨N, hN⟩ : ∃ N, bestN st = N := ⟨_, rfl⟩
  have HK := Lib.hid hok
  have TKH := Lib.hid TK
  have HN := Lib.hid hN
  clear hok TK h00 hN
  have tok1 : True := trivial
  have tok2 : True := trivial
  have tok3 : True := trivial
  have tok4 : True := trivial
  have tok5 : True := trivial
  have tok6 : True := trivial
  have tok7 : True := trivial
  go_enter Tryz.func55, Tryz.ntmps55
  go_wp2_with (first | (have _t := tok1; go_at_call 77; (with_reducible refine ((T0 _)).mono ?_); rintro e w1 ⟨rfl, hb1⟩; clear tok1 _t; have hz1 := hb1.size; (try simp only [World.size_alloc, World.size_setCell, World.size_drew, World.size_drewN'] at hz1); (try (have kq := cellAt hb1 (w.heap.size) (by go_size); have k1_w_0_0 := kq 0; have k1_w_0_1 := kq 1; clear kq; have f1_w_0 := frozAt hb1 (w.heap.size) (by go_size); simp [go_sem, *] at k1_w_0_0 k1_w_0_1 f1_w_0)); (try have l1_w_0 : w.heap.size < w1.heap.size := by omega); (try (have kq := cellAt hb1 (w.heap.size + 1) (by go_size); have k1_w_1_0 := kq 0; have k1_w_1_1 := kq 1; have k1_w_1_2 := kq 2; clear kq; have f1_w_1 := frozAt hb1 (w.heap.size + 1) (by go_size); simp [go_sem, *] at k1_w_1_0 k1_w_1_1 k1_w_1_2 f1_w_1)); (try have l1_w_1 : w.heap.size + 1 < w1.heap.size := by omega); (try (have kq := cellAt hb1 (w.heap.size + 1 + 1) (by go_size); have k1_w_2_0 := kq 0; have k1_w_2_1 := kq 1; have k1_w_2_2 := kq 2; have k1_w_2_3 := kq 3; clear kq; have f1_w_2 := frozAt hb1 (w.heap.size + 1 + 1) (by go_size); simp [go_sem, *] at k1_w_2_0 k1_w_2_1 k1_w_2_2 k1_w_2_3 f1_w_2)); (try have l1_w_2 : w.heap.size + 1 + 1 < w1.heap.size := by omega)))
  have hz1' := hb1.size
  simp only [World.size_alloc] at hz1'
  have HC1 : w1.heap[w.heap.size]? = some (.cells #[.int .i64 A, .int .i64 B] 32 (0, 0)) := (hb1.block _ (by go_size)).trans (by (repeat' first | (with_reducible first | assumption | (apply Ne.symm; assumption) | apply Nat.le_refl | apply Nat.le_add_right | apply zL | apply zRf | apply Wx.box | apply Wx.box4 | apply zWa | apply Wx.drew | apply zWn | apply bx_drew | apply bx_drewN | apply bx_set3 | apply bx_set2 | apply bx_set4 | apply bx_set1) | ((with_reducible apply bx_new); (focus (go_size; done))) | (with_reducible first | apply zOl | apply zFa | apply zDn | apply zDr | apply zAl | apply zSt | refine zVi (by assumption) ?_ ?_) | go_size | omega))
  have HP1 : w1.heap[w.heap.size + 1]? = some (.cells #[.int .i64 x, .int .i64 y, .int .i64 e] 34 (0, 0)) := (hb1.block _ (by go_size)).trans (by (repeat' first | (with_reducible first | assumption | (apply Ne.symm; assumption) | apply Nat.le_refl | apply Nat.le_add_right | apply zL | apply zRf | apply Wx.box | apply Wx.box4 | apply zWa | apply Wx.drew | apply zWn | apply bx_drew | apply bx_drewN | apply bx_set3 | apply bx_set2 | apply bx_set4 | apply bx_set1) | ((with_reducible apply bx_new); (focus (go_size; done))) | (with_reducible first | apply zOl | apply zFa | apply zDn | apply zDr | apply zAl | apply zSt | refine zVi (by assumption) ?_ ?_) | go_size | omega))
  have HO1 : w1.heap[w.heap.size + 1 + 1]? = some (.cells #[.int .i64 0, .int .i64 0, .int .i64 0, .int .i64 0] 29 (0, 0)) := (hb1.block _ (by go_size)).trans (by (repeat' first | (with_reducible first | assumption | (apply Ne.symm; assumption) | apply Nat.le_refl | apply Nat.le_add_right | apply zL | apply zRf | apply Wx.box | apply Wx.box4 | apply zWa | apply Wx.drew | apply zWn | apply bx_drew | apply bx_drewN | apply bx_set3 | apply bx_set2 | apply bx_set4 | apply bx_set1) | ((with_reducible apply bx_new); (focus (go_size; done))) | (with_reducible first | apply zOl | apply zFa | apply zDn | apply zDr | apply zAl | apply zSt | refine zVi (by assumption) ?_ ?_) | go_size | omega))
  have HB1 : Below w.heap.size w w1 := by repeat' first | (with_reducible first | apply zRf | assumption | apply zDn | apply zDr | apply zAl | apply zSt | refine zVi (by assumption) ?_ ?_) | go_size
  generalize hgB : w1.heap.size = gB at *
  have HGB := Lib.hid hgB
  go_loopw [9] (fun nv wr => BsRel w A B x y e C st gB N nv wr) (fun nv _ => (5 - intOf nv).toNat)
  case atStart => exact ⟨0, rfl, by omega, HN.out, l0, by (repeat' first | (with_reducible first | assumption | (apply Ne.symm; assumption) | apply Nat.le_refl | apply Nat.le_add_right | apply zL | apply zRf | apply Wx.box | apply Wx.box4 | apply zWa | apply Wx.drew | apply zWn | apply bx_drew | apply bx_drewN | apply bx_set3 | apply bx_set2 | apply bx_set4 | apply bx_set1) | ((with_reducible apply bx_new); (focus (go_size; done))) | (with_reducible first | apply zOl | apply zFa | apply zDn | apply zDr | apply zAl | apply zSt | refine zVi (by assumption) ?_ ?_) | go_size | omega), by (repeat' first | (with_reducible first | assumption | (apply Ne.symm; assumption) | apply Nat.le_refl | apply Nat.le_add_right | apply zL | apply zRf | apply Wx.box | apply Wx.box4 | apply zWa | apply Wx.drew | apply zWn | apply bx_drew | apply bx_drewN | apply bx_set3 | apply bx_set2 | apply bx_set4 | apply bx_set1) | ((with_reducible apply bx_new); (focus (go_size; done))) | (with_reducible first | apply zOl | apply zFa | apply zDn | apply zDr | apply zAl | apply zSt | refine zVi (by assumption) ?_ ?_) | go_size | omega), by (repeat' first | (with_reducible first | assumption | (apply Ne.symm; assumption) | apply Nat.le_refl | apply Nat.le_add_right | apply zL | apply zRf | apply Wx.box | apply Wx.box4 | apply zWa | apply Wx.drew | apply zWn | apply bx_drew | apply bx_drewN | apply bx_set3 | apply bx_set2 | apply bx_set4 | apply bx_set1) | ((with_reducible apply bx_new); (focus (go_size; done))) | (with_reducible first | apply zOl | apply zFa | apply zDn | apply zDr | apply zAl | apply zSt | refine zVi (by assumption) ?_ ?_) | go_size | omega), bx_new HGB.out, HB1.alloc (by rw [HGB.out]; omega) _⟩
  case round =>
    clear HC1 HP1 HO1 HB1 hb1
    obtain ⟨k, rfl, hk, hN, hle, hC2, hP, hO, hX, hbw⟩ := hrel
    have hkc : (k : Int) ≤ 5 := by omega
    have HNk := Lib.hid hN
    have kC0 : wr.cell? ⟨w.heap.size, 0, none⟩ = some (.int .i64 A) := blk_cell hC2 0
    clear kC0 hN
    by_cases hlt : k < 5
    · have hlc : (k : Int) < 5 := by omega
      have TH0 := TKH.out
      cases hs : htOk (st (k + 1)) with
      | false =>
        have hbN := Lib.hid ((bN_stop hs).symm.trans HNk.out)
        have TH : ∀ W, Calls Tryz.prog 77 #[.agg #[.int .i64 A, .int .i64 B], .agg #[.int .i64 x, .int .i64 y, .int .i64 e], .int .i64 ((k : Int) + 1)] W fun r w' => r = .returned (.tuple #[.agg #[.int .i64 0, .int .i64 0, .int .i64 0, .int .i64 0], .bool false]) ∧ Below W.heap.size W w' := fun W => by
          have := TH0 W (k + 1) (by omega)
          rw [hs, ivV_no (by simp)] at this
          exact this
        have HBY := Lib.hid (BY.out k (HN.out.trans hbN.out.symm) hle)
        clear TH0 hs
        go_upto_region 6 with (fail)
        refine chk (fun W => Below w.heap.size w W ∧ W.heap[w.heap.size]? = some (.cells #[.int .i64 A, .int .i64 B] 32 (0, 0)) ∧ W.heap[w.heap.size + 1]? = some (.cells #[.int .i64 x, .int .i64 y, .int .i64 e] 34 (0, 0)) ∧ W.heap[w.heap.size + 1 + 1]? = some (.cells #[.int .i64 0, .int .i64 0, .int .i64 0, .int .i64 0] 29 (0, 0)) ∧ W.heap[gB]? = some (.cells #[.int .i64 (mkN (bLo C st k) 4096), .int .i64 (mkD (bLo C st k) 4096), .int .i64 (mkN (bHi C st k) 4096), .int .i64 (mkD (bHi C st k) 4096)] 29 (0, 0))) (by refine ⟨?_, ?_, ?_, ?_, ?_⟩ <;> (repeat' first | (with_reducible first | assumption | (apply Ne.symm; assumption) | apply Nat.le_refl | apply Nat.le_add_right | apply zL | apply zRf | apply Wx.box | apply Wx.box4 | apply zWa | apply Wx.drew | apply zWn | apply bx_drew | apply bx_drewN | apply bx_set3 | apply bx_set2 | apply bx_set4 | apply bx_set1) | ((with_reducible apply bx_new); (focus (go_size; done))) | (with_reducible first | apply zOl | apply zFa | apply zDn | apply zDr | apply zAl | apply zSt | refine zVi (by assumption) ?_ ?_) | go_size | omega)) ?_
        rintro w2 ⟨hB2, H_C_2, H_P_2, H_O_2, H_X_2⟩
        obtain ⟨k_C_2_0, k_C_2_1, f_C_2, l_C_2⟩ := bk2 H_C_2
        replace H_C_2 := Lib.hid H_C_2
        obtain ⟨k_P_2_0, k_P_2_1, k_P_2_2, f_P_2, l_P_2⟩ := bk3 H_P_2
        replace H_P_2 := Lib.hid H_P_2
        obtain ⟨k_O_2_0, k_O_2_1, k_O_2_2, k_O_2_3, f_O_2, l_O_2⟩ := bk4 H_O_2
        replace H_O_2 := Lib.hid H_O_2
        obtain ⟨k_X_2_0, k_X_2_1, k_X_2_2, k_X_2_3, f_X_2, l_X_2⟩ := bk4 H_X_2
        replace H_X_2 := Lib.hid H_X_2
        clear hC2 hP hO hX
        go_upto_region 13 with (first | (have _t := tok3; go_at_call 77; (with_reducible refine ((TH _)).mono ?_); rintro e w3 ⟨rfl, hb3⟩; clear tok3 _t; have hz3 := hb3.size; (try simp only [World.size_alloc, World.size_setCell, World.size_drew, World.size_drewN'] at hz3); (try (have kq := cellAt hb3 (w.heap.size) (by go_size); have k3_w_0_0 := kq 0; have k3_w_0_1 := kq 1; clear kq; have f3_w_0 := frozAt hb3 (w.heap.size) (by go_size); simp [go_sem, *] at k3_w_0_0 k3_w_0_1 f3_w_0)); (try have l3_w_0 : w.heap.size < w3.heap.size := by omega); (try (have kq := cellAt hb3 (w.heap.size + 1) (by go_size); have k3_w_1_0 := kq 0; have k3_w_1_1 := kq 1; have k3_w_1_2 := kq 2; clear kq; have f3_w_1 := frozAt hb3 (w.heap.size + 1) (by go_size); simp [go_sem, *] at k3_w_1_0 k3_w_1_1 k3_w_1_2 f3_w_1)); (try have l3_w_1 : w.heap.size + 1 < w3.heap.size := by omega); (try (have kq := cellAt hb3 (w.heap.size + 1 + 1) (by go_size); have k3_w_2_0 := kq 0; have k3_w_2_1 := kq 1; have k3_w_2_2 := kq 2; have k3_w_2_3 := kq 3; clear kq; have f3_w_2 := frozAt hb3 (w.heap.size + 1 + 1) (by go_size); simp [go_sem, *] at k3_w_2_0 k3_w_2_1 k3_w_2_2 k3_w_2_3 f3_w_2)); (try have l3_w_2 : w.heap.size + 1 + 1 < w3.heap.size := by omega); (try (have kq := cellAt hb3 (gB) (by go_size); have k3_gB_0 := kq 0; have k3_gB_1 := kq 1; have k3_gB_2 := kq 2; have k3_gB_3 := kq 3; clear kq; have f3_gB := frozAt hb3 (gB) (by go_size); simp [go_sem, *] at k3_gB_0 k3_gB_1 k3_gB_2 k3_gB_3 f3_gB)); (try have l3_gB : gB < w3.heap.size := by omega); (try clear k1_w_0_0 k1_w_0_1 f1_w_0); (try clear l1_w_0); (try clear k1_w_1_0 k1_w_1_1 k1_w_1_2 f1_w_1); (try clear l1_w_1); (try clear k1_w_2_0 k1_w_2_1 k1_w_2_2 k1_w_2_3 f1_w_2); (try clear l1_w_2); (try clear k1_gB_0 k1_gB_1 k1_gB_2 k1_gB_3 f1_gB); (try clear l1_gB); (try clear k2_w_0_0 k2_w_0_1 f2_w_0); (try clear l2_w_0); (try clear k2_w_1_0 k2_w_1_1 k2_w_1_2 f2_w_1); (try clear l2_w_1); (try clear k2_w_2_0 k2_w_2_1 k2_w_2_2 k2_w_2_3 f2_w_2); (try clear l2_w_2); (try clear k2_gB_0 k2_gB_1 k2_gB_2 k2_gB_3 f2_gB); (try clear l2_gB)))
        have H_C_3 := (hb3.block (w.heap.size) (blk_lt' H_C_2.out)).trans H_C_2.out
        clear k_C_2_0 k_C_2_1 f_C_2 H_C_2
        obtain ⟨k_C_3_0, k_C_3_1, f_C_3, l_C_3⟩ := bk2 H_C_3
        replace H_C_3 := Lib.hid H_C_3
        have H_P_3 := (hb3.block (w.heap.size + 1) (blk_lt' H_P_2.out)).trans H_P_2.out
        clear k_P_2_0 k_P_2_1 k_P_2_2 f_P_2 H_P_2
        obtain ⟨k_P_3_0, k_P_3_1, k_P_3_2, f_P_3, l_P_3⟩ := bk3 H_P_3
        replace H_P_3 := Lib.hid H_P_3
        have H_O_3 := (hb3.block (w.heap.size + 1 + 1) (blk_lt' H_O_2.out)).trans H_O_2.out
        clear k_O_2_0 k_O_2_1 k_O_2_2 k_O_2_3 f_O_2 H_O_2
        obtain ⟨k_O_3_0, k_O_3_1, k_O_3_2, k_O_3_3, f_O_3, l_O_3⟩ := bk4 H_O_3
        replace H_O_3 := Lib.hid H_O_3
        have H_X_3 := (hb3.block (gB) (blk_lt' H_X_2.out)).trans H_X_2.out
        clear k_X_2_0 k_X_2_1 k_X_2_2 k_X_2_3 f_X_2 H_X_2
        obtain ⟨k_X_3_0, k_X_3_1, k_X_3_2, k_X_3_3, f_X_3, l_X_3⟩ := bk4 H_X_3
        replace H_X_3 := Lib.hid H_X_3
        have hB3 : Below w.heap.size w w3 := below_via hb3 (by assumption) (by go_size)
        replace H_C_3 := H_C_3.out
        replace H_P_3 := H_P_3.out
        replace H_O_3 := H_O_3.out
        replace H_X_3 := H_X_3.out
        refine chk (fun W => Below w.heap.size w W ∧ W.heap[w.heap.size + 1 + 1]? = some (.cells #[.int .i64 0, .int .i64 0, .int .i64 0, .int .i64 0] 29 (0, 0)) ∧ W.heap[gB]? = some (.cells #[.int .i64 (mkN (bLo C st k) 4096), .int .i64 (mkD (bLo C st k) 4096), .int .i64 (mkN (bHi C st k) 4096), .int .i64 (mkD (bHi C st k) 4096)] 29 (0, 0))) (by refine ⟨?_, ?_, ?_⟩ <;> (repeat' first | (with_reducible first | assumption | (apply Ne.symm; assumption) | apply Nat.le_refl | apply Nat.le_add_right | apply zL | apply zRf | apply Wx.box | apply Wx.box4 | apply zWa | apply Wx.drew | apply zWn | apply bx_drew | apply bx_drewN | apply bx_set3 | apply bx_set2 | apply bx_set4 | apply bx_set1) | ((with_reducible apply bx_new); (focus (go_size; done))) | (with_reducible first | apply zOl | apply zFa | apply zDn | apply zDr | apply zAl | apply zSt | refine zVi (by assumption) ?_ ?_) | go_size | omega)) ?_
        clear k_C_3_0 k_C_3_1 f_C_3 H_C_3
        clear k_P_3_0 k_P_3_1 k_P_3_2 f_P_3 H_P_3
        clear k_O_3_0 k_O_3_1 k_O_3_2 k_O_3_3 f_O_3 H_O_3
        clear k_X_3_0 k_X_3_1 k_X_3_2 k_X_3_3 f_X_3 H_X_3
        clear hB3
        rintro w4 ⟨hB4, H_O_4, H_X_4⟩
        obtain ⟨k_O_4_0, k_O_4_1, k_O_4_2, k_O_4_3, f_O_4, l_O_4⟩ := bk4 H_O_4
        replace H_O_4 := Lib.hid H_O_4
        obtain ⟨k_X_4_0, k_X_4_1, k_X_4_2, k_X_4_3, f_X_4, l_X_4⟩ := bk4 H_X_4
        replace H_X_4 := Lib.hid H_X_4
        clear TH
        iterate 24 (first | (with_reducible show bodyPost _ _ _ _ _ _) | (with_reducible refine wp_ret ?_) | go_values | go_skip | go_guarded | go_step | go_upon | go_back | skip)
        refine bodyPost_ret (v := .tuple #[.agg #[.int .i64 (mkN (bLo C st k) 4096), .int .i64 (mkD (bLo C st k) 4096), .int .i64 (mkN (bHi C st k) 4096), .int .i64 (mkD (bHi C st k) 4096)], .int .i64 k, .bool true]) (by simp [results, Tryz.results55, go_sem, k_O_4_0, k_O_4_1, k_O_4_2, k_O_4_3, k_X_4_0, k_X_4_1, k_X_4_2, k_X_4_3]) rfl ⟨?_, ?_⟩
        · rw [HBY.out.1, HBY.out.2.1, HBY.out.2.2.1, HBY.out.2.2.2.1, HBY.out.2.2.2.2.1, HBY.out.2.2.2.2.2]
        · (repeat' first | (with_reducible first | assumption | (apply Ne.symm; assumption) | apply Nat.le_refl | apply Nat.le_add_right | apply zL | apply zRf | apply Wx.box | apply Wx.box4 | apply zWa | apply Wx.drew | apply zWn | apply bx_drew | apply bx_drewN | apply bx_set3 | apply bx_set2 | apply bx_set4 | apply bx_set1) | ((with_reducible apply bx_new); (focus (go_size; done))) | (with_reducible first | apply zOl | apply zFa | apply zDn | apply zDr | apply zAl | apply zSt | refine zVi (by assumption) ?_ ?_) | go_size | omega)
      | true =>
        have hv1 : validB (bLo C st k) (bHi C st k) = true := by rw [valid_b hC HK.out]; simpa using hle
        have hv2 := valid_ht (n := k + 1) hC (HK.out (k + 1))
        have TH : ∀ W, Calls Tryz.prog 77 #[.agg #[.int .i64 A, .int .i64 B], .agg #[.int .i64 x, .int .i64 y, .int .i64 e], .int .i64 ((k : Int) + 1)] W fun r w' => r = .returned (.tuple #[.agg #[.int .i64 (mkN (htLo C (k + 1) (st (k + 1))) 4096), .int .i64 (mkD (htLo C (k + 1) (st (k + 1))) 4096), .int .i64 (mkN (htHi C (k + 1) (st (k + 1))) 4096), .int .i64 (mkD (htHi C (k + 1) (st (k + 1))) 4096)], .bool true]) ∧ Below W.heap.size W w' := fun W => by
          have := TH0 W (k + 1) (by omega)
          rw [hs, ivV_yes hv2] at this
          exact this
        have r1 := iv_read hv1
        have r2 := iv_read hv2
        have TC0 := fun W => sCommonPart_any (mkN (bLo C st k) 4096) (mkD (bLo C st k) 4096) (mkN (bHi C st k) 4096) (mkD (bHi C st k) 4096) (mkN (htLo C (k + 1) (st (k + 1))) 4096) (mkD (htLo C (k + 1) (st (k + 1))) 4096) (mkN (htHi C (k + 1) (st (k + 1))) 4096) (mkD (htHi C (k + 1) (st (k + 1))) 4096) W
        rw [r1.1, r2.1, r1.2.1, r1.2.2, r2.2.1, r2.2.2] at TC0
        have eL : max (bLo C st k) (htLo C (k + 1) (st (k + 1))) = bLo C st (k + 1) := rfl
        have eH : min (bHi C st k) (htHi C (k + 1) (st (k + 1))) = bHi C st (k + 1) := rfl
        rw [eL, eH] at TC0
        have hbN := Lib.hid ((bN_go hlt hs).symm.trans HNk.out)
        clear r1 r2 eL eH hv2 hs TH0
        by_cases hle2 : bLo C st (k + 1) ≤ bHi C st (k + 1)
        · skip
          have hv3 : validB (bLo C st (k + 1)) (bHi C st (k + 1)) = true := by rw [valid_b hC HK.out]; simpa using hle2
          have TC : ∀ W, Calls Tryz.prog 78 #[.agg #[.int .i64 (mkN (bLo C st k) 4096), .int .i64 (mkD (bLo C st k) 4096), .int .i64 (mkN (bHi C st k) 4096), .int .i64 (mkD (bHi C st k) 4096)], .agg #[.int .i64 (mkN (htLo C (k + 1) (st (k + 1))) 4096), .int .i64 (mkD (htLo C (k + 1) (st (k + 1))) 4096), .int .i64 (mkN (htHi C (k + 1) (st (k + 1))) 4096), .int .i64 (mkD (htHi C (k + 1) (st (k + 1))) 4096)]] W fun e w' => e = .returned (.tuple #[.agg #[.int .i64 (mkN (bLo C st (k + 1)) 4096), .int .i64 (mkD (bLo C st (k + 1)) 4096), .int .i64 (mkN (bHi C st (k + 1)) 4096), .int .i64 (mkD (bHi C st (k + 1)) 4096)], .bool true]) ∧ Below W.heap.size W w' := fun W => by
            have := TC0 W
            rw [opV_eq, Bool.and_self, ivV_yes hv3] at this
            exact this
          clear TC0 hv1 hv3
          go_upto_region 6 with (fail)
          refine chk (fun W => Below w.heap.size w W ∧ W.heap[w.heap.size]? = some (.cells #[.int .i64 A, .int .i64 B] 32 (0, 0)) ∧ W.heap[w.heap.size + 1]? = some (.cells #[.int .i64 x, .int .i64 y, .int .i64 e] 34 (0, 0)) ∧ W.heap[w.heap.size + 1 + 1]? = some (.cells #[.int .i64 0, .int .i64 0, .int .i64 0, .int .i64 0] 29 (0, 0)) ∧ W.heap[gB]? = some (.cells #[.int .i64 (mkN (bLo C st k) 4096), .int .i64 (mkD (bLo C st k) 4096), .int .i64 (mkN (bHi C st k) 4096), .int .i64 (mkD (bHi C st k) 4096)] 29 (0, 0))) (by refine ⟨?_, ?_, ?_, ?_, ?_⟩ <;> (repeat' first | (with_reducible first | assumption | (apply Ne.symm; assumption) | apply Nat.le_refl | apply Nat.le_add_right | apply zL | apply zRf | apply Wx.box | apply Wx.box4 | apply zWa | apply Wx.drew | apply zWn | apply bx_drew | apply bx_drewN | apply bx_set3 | apply bx_set2 | apply bx_set4 | apply bx_set1) | ((with_reducible apply bx_new); (focus (go_size; done))) | (with_reducible first | apply zOl | apply zFa | apply zDn | apply zDr | apply zAl | apply zSt | refine zVi (by assumption) ?_ ?_) | go_size | omega)) ?_
          rintro w2 ⟨hB2, H_C_2, H_P_2, H_O_2, H_X_2⟩
          obtain ⟨k_C_2_0, k_C_2_1, f_C_2, l_C_2⟩ := bk2 H_C_2
          replace H_C_2 := Lib.hid H_C_2
          obtain ⟨k_P_2_0, k_P_2_1, k_P_2_2, f_P_2, l_P_2⟩ := bk3 H_P_2
          replace H_P_2 := Lib.hid H_P_2
          obtain ⟨k_O_2_0, k_O_2_1, k_O_2_2, k_O_2_3, f_O_2, l_O_2⟩ := bk4 H_O_2
          replace H_O_2 := Lib.hid H_O_2
          obtain ⟨k_X_2_0, k_X_2_1, k_X_2_2, k_X_2_3, f_X_2, l_X_2⟩ := bk4 H_X_2
          replace H_X_2 := Lib.hid H_X_2
          clear hC2 hP hO hX
          go_upto_region 8 with (first | (have _t := tok3; go_at_call 77; (with_reducible refine ((TH _)).mono ?_); rintro e w3 ⟨rfl, hb3⟩; clear tok3 _t; have hz3 := hb3.size; (try simp only [World.size_alloc, World.size_setCell, World.size_drew, World.size_drewN'] at hz3); (try (have kq := cellAt hb3 (w.heap.size) (by go_size); have k3_w_0_0 := kq 0; have k3_w_0_1 := kq 1; clear kq; have f3_w_0 := frozAt hb3 (w.heap.size) (by go_size); simp [go_sem, *] at k3_w_0_0 k3_w_0_1 f3_w_0)); (try have l3_w_0 : w.heap.size < w3.heap.size := by omega); (try (have kq := cellAt hb3 (w.heap.size + 1) (by go_size); have k3_w_1_0 := kq 0; have k3_w_1_1 := kq 1; have k3_w_1_2 := kq 2; clear kq; have f3_w_1 := frozAt hb3 (w.heap.size + 1) (by go_size); simp [go_sem, *] at k3_w_1_0 k3_w_1_1 k3_w_1_2 f3_w_1)); (try have l3_w_1 : w.heap.size + 1 < w3.heap.size := by omega); (try (have kq := cellAt hb3 (w.heap.size + 1 + 1) (by go_size); have k3_w_2_0 := kq 0; have k3_w_2_1 := kq 1; have k3_w_2_2 := kq 2; have k3_w_2_3 := kq 3; clear kq; have f3_w_2 := frozAt hb3 (w.heap.size + 1 + 1) (by go_size); simp [go_sem, *] at k3_w_2_0 k3_w_2_1 k3_w_2_2 k3_w_2_3 f3_w_2)); (try have l3_w_2 : w.heap.size + 1 + 1 < w3.heap.size := by omega); (try (have kq := cellAt hb3 (gB) (by go_size); have k3_gB_0 := kq 0; have k3_gB_1 := kq 1; have k3_gB_2 := kq 2; have k3_gB_3 := kq 3; clear kq; have f3_gB := frozAt hb3 (gB) (by go_size); simp [go_sem, *] at k3_gB_0 k3_gB_1 k3_gB_2 k3_gB_3 f3_gB)); (try have l3_gB : gB < w3.heap.size := by omega); (try clear k1_w_0_0 k1_w_0_1 f1_w_0); (try clear l1_w_0); (try clear k1_w_1_0 k1_w_1_1 k1_w_1_2 f1_w_1); (try clear l1_w_1); (try clear k1_w_2_0 k1_w_2_1 k1_w_2_2 k1_w_2_3 f1_w_2); (try clear l1_w_2); (try clear k1_gB_0 k1_gB_1 k1_gB_2 k1_gB_3 f1_gB); (try clear l1_gB); (try clear k2_w_0_0 k2_w_0_1 f2_w_0); (try clear l2_w_0); (try clear k2_w_1_0 k2_w_1_1 k2_w_1_2 f2_w_1); (try clear l2_w_1); (try clear k2_w_2_0 k2_w_2_1 k2_w_2_2 k2_w_2_3 f2_w_2); (try clear l2_w_2); (try clear k2_gB_0 k2_gB_1 k2_gB_2 k2_gB_3 f2_gB); (try clear l2_gB)))
          have H_C_3 := (hb3.block (w.heap.size) (blk_lt' H_C_2.out)).trans H_C_2.out
          clear k_C_2_0 k_C_2_1 f_C_2 H_C_2
          obtain ⟨k_C_3_0, k_C_3_1, f_C_3, l_C_3⟩ := bk2 H_C_3
          replace H_C_3 := Lib.hid H_C_3
          have H_P_3 := (hb3.block (w.heap.size + 1) (blk_lt' H_P_2.out)).trans H_P_2.out
          clear k_P_2_0 k_P_2_1 k_P_2_2 f_P_2 H_P_2
          obtain ⟨k_P_3_0, k_P_3_1, k_P_3_2, f_P_3, l_P_3⟩ := bk3 H_P_3
          replace H_P_3 := Lib.hid H_P_3
          have H_O_3 := (hb3.block (w.heap.size + 1 + 1) (blk_lt' H_O_2.out)).trans H_O_2.out
          clear k_O_2_0 k_O_2_1 k_O_2_2 k_O_2_3 f_O_2 H_O_2
          obtain ⟨k_O_3_0, k_O_3_1, k_O_3_2, k_O_3_3, f_O_3, l_O_3⟩ := bk4 H_O_3
          replace H_O_3 := Lib.hid H_O_3
          have H_X_3 := (hb3.block (gB) (blk_lt' H_X_2.out)).trans H_X_2.out
          clear k_X_2_0 k_X_2_1 k_X_2_2 k_X_2_3 f_X_2 H_X_2
          obtain ⟨k_X_3_0, k_X_3_1, k_X_3_2, k_X_3_3, f_X_3, l_X_3⟩ := bk4 H_X_3
          replace H_X_3 := Lib.hid H_X_3
          have hB3 : Below w.heap.size w w3 := below_via hb3 (by assumption) (by go_size)
          replace H_C_3 := H_C_3.out
          replace H_P_3 := H_P_3.out
          replace H_O_3 := H_O_3.out
          replace H_X_3 := H_X_3.out
          refine chk (fun W => Below w.heap.size w W ∧ W.heap[w.heap.size]? = some (.cells #[.int .i64 A, .int .i64 B] 32 (0, 0)) ∧ W.heap[w.heap.size + 1]? = some (.cells #[.int .i64 x, .int .i64 y, .int .i64 e] 34 (0, 0)) ∧ W.heap[w.heap.size + 1 + 1]? = some (.cells #[.int .i64 0, .int .i64 0, .int .i64 0, .int .i64 0] 29 (0, 0)) ∧ W.heap[gB]? = some (.cells #[.int .i64 (mkN (bLo C st k) 4096), .int .i64 (mkD (bLo C st k) 4096), .int .i64 (mkN (bHi C st k) 4096), .int .i64 (mkD (bHi C st k) 4096)] 29 (0, 0)) ∧ W.heap[w3.heap.size]? = some (.cells #[.int .i64 (mkN (htLo C (k + 1) (st (k + 1))) 4096), .int .i64 (mkD (htLo C (k + 1) (st (k + 1))) 4096), .int .i64 (mkN (htHi C (k + 1) (st (k + 1))) 4096), .int .i64 (mkD (htHi C (k + 1) (st (k + 1))) 4096)] 29 (0, 0))) (by refine ⟨?_, ?_, ?_, ?_, ?_, ?_⟩ <;> (repeat' first | (with_reducible first | assumption | (apply Ne.symm; assumption) | apply Nat.le_refl | apply Nat.le_add_right | apply zL | apply zRf | apply Wx.box | apply Wx.box4 | apply zWa | apply Wx.drew | apply zWn | apply bx_drew | apply bx_drewN | apply bx_set3 | apply bx_set2 | apply bx_set4 | apply bx_set1) | ((with_reducible apply bx_new); (focus (go_size; done))) | (with_reducible first | apply zOl | apply zFa | apply zDn | apply zDr | apply zAl | apply zSt | refine zVi (by assumption) ?_ ?_) | go_size | omega)) ?_
          clear k_C_3_0 k_C_3_1 f_C_3 H_C_3
          clear k_P_3_0 k_P_3_1 k_P_3_2 f_P_3 H_P_3
          clear k_O_3_0 k_O_3_1 k_O_3_2 k_O_3_3 f_O_3 H_O_3
          clear k_X_3_0 k_X_3_1 k_X_3_2 k_X_3_3 f_X_3 H_X_3
          clear hB3
          rintro w4 ⟨hB4, H_C_4, H_P_4, H_O_4, H_X_4, H_Y_4⟩
          obtain ⟨k_C_4_0, k_C_4_1, f_C_4, l_C_4⟩ := bk2 H_C_4
          replace H_C_4 := Lib.hid H_C_4
          obtain ⟨k_P_4_0, k_P_4_1, k_P_4_2, f_P_4, l_P_4⟩ := bk3 H_P_4
          replace H_P_4 := Lib.hid H_P_4
          obtain ⟨k_O_4_0, k_O_4_1, k_O_4_2, k_O_4_3, f_O_4, l_O_4⟩ := bk4 H_O_4
          replace H_O_4 := Lib.hid H_O_4
          obtain ⟨k_X_4_0, k_X_4_1, k_X_4_2, k_X_4_3, f_X_4, l_X_4⟩ := bk4 H_X_4
          replace H_X_4 := Lib.hid H_X_4
          obtain ⟨k_Y_4_0, k_Y_4_1, k_Y_4_2, k_Y_4_3, f_Y_4, l_Y_4⟩ := bk4 H_Y_4
          replace H_Y_4 := Lib.hid H_Y_4
          go_upto_region 11 with (first | (have _t := tok5; go_at_call 78; (with_reducible refine ((TC _)).mono ?_); rintro e w5 ⟨rfl, hb5⟩; clear tok5 _t; have hz5 := hb5.size; (try simp only [World.size_alloc, World.size_setCell, World.size_drew, World.size_drewN'] at hz5); (try (have kq := cellAt hb5 (w.heap.size) (by go_size); have k5_w_0_0 := kq 0; have k5_w_0_1 := kq 1; clear kq; have f5_w_0 := frozAt hb5 (w.heap.size) (by go_size); simp [go_sem, *] at k5_w_0_0 k5_w_0_1 f5_w_0)); (try have l5_w_0 : w.heap.size < w5.heap.size := by omega); (try (have kq := cellAt hb5 (w.heap.size + 1) (by go_size); have k5_w_1_0 := kq 0; have k5_w_1_1 := kq 1; have k5_w_1_2 := kq 2; clear kq; have f5_w_1 := frozAt hb5 (w.heap.size + 1) (by go_size); simp [go_sem, *] at k5_w_1_0 k5_w_1_1 k5_w_1_2 f5_w_1)); (try have l5_w_1 : w.heap.size + 1 < w5.heap.size := by omega); (try (have kq := cellAt hb5 (w.heap.size + 1 + 1) (by go_size); have k5_w_2_0 := kq 0; have k5_w_2_1 := kq 1; have k5_w_2_2 := kq 2; have k5_w_2_3 := kq 3; clear kq; have f5_w_2 := frozAt hb5 (w.heap.size + 1 + 1) (by go_size); simp [go_sem, *] at k5_w_2_0 k5_w_2_1 k5_w_2_2 k5_w_2_3 f5_w_2)); (try have l5_w_2 : w.heap.size + 1 + 1 < w5.heap.size := by omega); (try (have kq := cellAt hb5 (gB) (by go_size); have k5_gB_0 := kq 0; have k5_gB_1 := kq 1; have k5_gB_2 := kq 2; have k5_gB_3 := kq 3; clear kq; have f5_gB := frozAt hb5 (gB) (by go_size); simp [go_sem, *] at k5_gB_0 k5_gB_1 k5_gB_2 k5_gB_3 f5_gB)); (try have l5_gB : gB < w5.heap.size := by omega); (try (have kq := cellAt hb5 (w3.heap.size) (by go_size); have k5_w3_0_0 := kq 0; have k5_w3_0_1 := kq 1; have k5_w3_0_2 := kq 2; have k5_w3_0_3 := kq 3; clear kq; have f5_w3_0 := frozAt hb5 (w3.heap.size) (by go_size); simp [go_sem, *] at k5_w3_0_0 k5_w3_0_1 k5_w3_0_2 k5_w3_0_3 f5_w3_0)); (try have l5_w3_0 : w3.heap.size < w5.heap.size := by omega); (try clear k1_w_0_0 k1_w_0_1 f1_w_0); (try clear l1_w_0); (try clear k1_w_1_0 k1_w_1_1 k1_w_1_2 f1_w_1); (try clear l1_w_1); (try clear k1_w_2_0 k1_w_2_1 k1_w_2_2 k1_w_2_3 f1_w_2); (try clear l1_w_2); (try clear k1_gB_0 k1_gB_1 k1_gB_2 k1_gB_3 f1_gB); (try clear l1_gB); (try clear k2_w_0_0 k2_w_0_1 f2_w_0); (try clear l2_w_0); (try clear k2_w_1_0 k2_w_1_1 k2_w_1_2 f2_w_1); (try clear l2_w_1); (try clear k2_w_2_0 k2_w_2_1 k2_w_2_2 k2_w_2_3 f2_w_2); (try clear l2_w_2); (try clear k2_gB_0 k2_gB_1 k2_gB_2 k2_gB_3 f2_gB); (try clear l2_gB); (try clear k3_w_0_0 k3_w_0_1 f3_w_0); (try clear l3_w_0); (try clear k3_w_1_0 k3_w_1_1 k3_w_1_2 f3_w_1); (try clear l3_w_1); (try clear k3_w_2_0 k3_w_2_1 k3_w_2_2 k3_w_2_3 f3_w_2); (try clear l3_w_2); (try clear k3_gB_0 k3_gB_1 k3_gB_2 k3_gB_3 f3_gB); (try clear l3_gB); (try clear k4_w_0_0 k4_w_0_1 f4_w_0); (try clear l4_w_0); (try clear k4_w_1_0 k4_w_1_1 k4_w_1_2 f4_w_1); (try clear l4_w_1); (try clear k4_w_2_0 k4_w_2_1 k4_w_2_2 k4_w_2_3 f4_w_2); (try clear l4_w_2); (try clear k4_gB_0 k4_gB_1 k4_gB_2 k4_gB_3 f4_gB); (try clear l4_gB); (try clear k4_w3_0_0 k4_w3_0_1 k4_w3_0_2 k4_w3_0_3 f4_w3_0); (try clear l4_w3_0)))
          have H_C_5 := (hb5.block (w.heap.size) (blk_lt' H_C_4.out)).trans H_C_4.out
          clear k_C_4_0 k_C_4_1 f_C_4 H_C_4
          obtain ⟨k_C_5_0, k_C_5_1, f_C_5, l_C_5⟩ := bk2 H_C_5
          replace H_C_5 := Lib.hid H_C_5
          have H_P_5 := (hb5.block (w.heap.size + 1) (blk_lt' H_P_4.out)).trans H_P_4.out
          clear k_P_4_0 k_P_4_1 k_P_4_2 f_P_4 H_P_4
          obtain ⟨k_P_5_0, k_P_5_1, k_P_5_2, f_P_5, l_P_5⟩ := bk3 H_P_5
          replace H_P_5 := Lib.hid H_P_5
          have H_O_5 := (hb5.block (w.heap.size + 1 + 1) (blk_lt' H_O_4.out)).trans H_O_4.out
          clear k_O_4_0 k_O_4_1 k_O_4_2 k_O_4_3 f_O_4 H_O_4
          obtain ⟨k_O_5_0, k_O_5_1, k_O_5_2, k_O_5_3, f_O_5, l_O_5⟩ := bk4 H_O_5
          replace H_O_5 := Lib.hid H_O_5
          have H_X_5 := (hb5.block (gB) (blk_lt' H_X_4.out)).trans H_X_4.out
          clear k_X_4_0 k_X_4_1 k_X_4_2 k_X_4_3 f_X_4 H_X_4
          obtain ⟨k_X_5_0, k_X_5_1, k_X_5_2, k_X_5_3, f_X_5, l_X_5⟩ := bk4 H_X_5
          replace H_X_5 := Lib.hid H_X_5
          have H_Y_5 := (hb5.block (w3.heap.size) (blk_lt' H_Y_4.out)).trans H_Y_4.out
          clear k_Y_4_0 k_Y_4_1 k_Y_4_2 k_Y_4_3 f_Y_4 H_Y_4
          obtain ⟨k_Y_5_0, k_Y_5_1, k_Y_5_2, k_Y_5_3, f_Y_5, l_Y_5⟩ := bk4 H_Y_5
          replace H_Y_5 := Lib.hid H_Y_5
          have hB5 : Below w.heap.size w w5 := below_via hb5 (by assumption) (by go_size)
          replace H_C_5 := H_C_5.out
          replace H_P_5 := H_P_5.out
          replace H_O_5 := H_O_5.out
          replace H_X_5 := H_X_5.out
          replace H_Y_5 := H_Y_5.out
          refine chk (fun W => Below w.heap.size w W ∧ W.heap[w.heap.size]? = some (.cells #[.int .i64 A, .int .i64 B] 32 (0, 0)) ∧ W.heap[w.heap.size + 1]? = some (.cells #[.int .i64 x, .int .i64 y, .int .i64 e] 34 (0, 0)) ∧ W.heap[w.heap.size + 1 + 1]? = some (.cells #[.int .i64 0, .int .i64 0, .int .i64 0, .int .i64 0] 29 (0, 0)) ∧ W.heap[gB]? = some (.cells #[.int .i64 (mkN (bLo C st k) 4096), .int .i64 (mkD (bLo C st k) 4096), .int .i64 (mkN (bHi C st k) 4096), .int .i64 (mkD (bHi C st k) 4096)] 29 (0, 0)) ∧ W.heap[w5.heap.size]? = some (.cells #[.int .i64 (mkN (bLo C st (k + 1)) 4096), .int .i64 (mkD (bLo C st (k + 1)) 4096), .int .i64 (mkN (bHi C st (k + 1)) 4096), .int .i64 (mkD (bHi C st (k + 1)) 4096)] 29 (0, 0))) (by refine ⟨?_, ?_, ?_, ?_, ?_, ?_⟩ <;> (repeat' first | (with_reducible first | assumption | (apply Ne.symm; assumption) | apply Nat.le_refl | apply Nat.le_add_right | apply zL | apply zRf | apply Wx.box | apply Wx.box4 | apply zWa | apply Wx.drew | apply zWn | apply bx_drew | apply bx_drewN | apply bx_set3 | apply bx_set2 | apply bx_set4 | apply bx_set1) | ((with_reducible apply bx_new); (focus (go_size; done))) | (with_reducible first | apply zOl | apply zFa | apply zDn | apply zDr | apply zAl | apply zSt | refine zVi (by assumption) ?_ ?_) | go_size | omega)) ?_
          clear k_C_5_0 k_C_5_1 f_C_5 H_C_5
          clear k_P_5_0 k_P_5_1 k_P_5_2 f_P_5 H_P_5
          clear k_O_5_0 k_O_5_1 k_O_5_2 k_O_5_3 f_O_5 H_O_5
          clear k_X_5_0 k_X_5_1 k_X_5_2 k_X_5_3 f_X_5 H_X_5
          clear k_Y_5_0 k_Y_5_1 k_Y_5_2 k_Y_5_3 f_Y_5 H_Y_5
          clear hB5
          rintro w6 ⟨hB6, H_C_6, H_P_6, H_O_6, H_X_6, H_Z_6⟩
          obtain ⟨k_C_6_0, k_C_6_1, f_C_6, l_C_6⟩ := bk2 H_C_6
          replace H_C_6 := Lib.hid H_C_6
          obtain ⟨k_P_6_0, k_P_6_1, k_P_6_2, f_P_6, l_P_6⟩ := bk3 H_P_6
          replace H_P_6 := Lib.hid H_P_6
          obtain ⟨k_O_6_0, k_O_6_1, k_O_6_2, k_O_6_3, f_O_6, l_O_6⟩ := bk4 H_O_6
          replace H_O_6 := Lib.hid H_O_6
          obtain ⟨k_X_6_0, k_X_6_1, k_X_6_2, k_X_6_3, f_X_6, l_X_6⟩ := bk4 H_X_6
          replace H_X_6 := Lib.hid H_X_6
          obtain ⟨k_Z_6_0, k_Z_6_1, k_Z_6_2, k_Z_6_3, f_Z_6, l_Z_6⟩ := bk4 H_Z_6
          replace H_Z_6 := Lib.hid H_Z_6
          have hgo : gB ≠ w.heap.size ∧ gB ≠ w.heap.size + 1 ∧ gB ≠ w.heap.size + 1 + 1 := by omega
          clear TH TC
          go_wp2_with fail
          go_roundw
          case rel =>
            have q1 := H_C_6.out
            have q2 := H_P_6.out
            have q3 := H_O_6.out
            have q4 := H_X_6.out
            obtain ⟨g1, g2, g3⟩ := hgo
            exact ⟨k + 1, by go_num, by omega, hbN.out, hle2, by (repeat' first | (with_reducible first | assumption | (apply Ne.symm; assumption) | apply Nat.le_refl | apply Nat.le_add_right | apply zL | apply zRf | apply Wx.box | apply Wx.box4 | apply zWa | apply Wx.drew | apply zWn | apply bx_drew | apply bx_drewN | apply bx_set3 | apply bx_set2 | apply bx_set4 | apply bx_set1) | ((with_reducible apply bx_new); (focus (go_size; done))) | (with_reducible first | apply zOl | apply zFa | apply zDn | apply zDr | apply zAl | apply zSt | refine zVi (by assumption) ?_ ?_) | go_size | omega), by (repeat' first | (with_reducible first | assumption | (apply Ne.symm; assumption) | apply Nat.le_refl | apply Nat.le_add_right | apply zL | apply zRf | apply Wx.box | apply Wx.box4 | apply zWa | apply Wx.drew | apply zWn | apply bx_drew | apply bx_drewN | apply bx_set3 | apply bx_set2 | apply bx_set4 | apply bx_set1) | ((with_reducible apply bx_new); (focus (go_size; done))) | (with_reducible first | apply zOl | apply zFa | apply zDn | apply zDr | apply zAl | apply zSt | refine zVi (by assumption) ?_ ?_) | go_size | omega), by (repeat' first | (with_reducible first | assumption | (apply Ne.symm; assumption) | apply Nat.le_refl | apply Nat.le_add_right | apply zL | apply zRf | apply Wx.box | apply Wx.box4 | apply zWa | apply Wx.drew | apply zWn | apply bx_drew | apply bx_drewN | apply bx_set3 | apply bx_set2 | apply bx_set4 | apply bx_set1) | ((with_reducible apply bx_new); (focus (go_size; done))) | (with_reducible first | apply zOl | apply zFa | apply zDn | apply zDr | apply zAl | apply zSt | refine zVi (by assumption) ?_ ?_) | go_size | omega), by (repeat' first | (with_reducible first | assumption | (apply Ne.symm; assumption) | apply Nat.le_refl | apply Nat.le_add_right | apply zL | apply zRf | apply Wx.box | apply Wx.box4 | apply zWa | apply Wx.drew | apply zWn | apply bx_drew | apply bx_drewN | apply bx_set3 | apply bx_set2 | apply bx_set4 | apply bx_set1) | ((with_reducible apply bx_new); (focus (go_size; done))) | (with_reducible first | apply zOl | apply zFa | apply zDn | apply zDr | apply zAl | apply zSt | refine zVi (by assumption) ?_ ?_) | go_size | omega), by (repeat' first | (with_reducible first | assumption | (apply Ne.symm; assumption) | apply Nat.le_refl | apply Nat.le_add_right | apply zL | apply zRf | apply Wx.box | apply Wx.box4 | apply zWa | apply Wx.drew | apply zWn | apply bx_drew | apply bx_drewN | apply bx_set3 | apply bx_set2 | apply bx_set4 | apply bx_set1) | ((with_reducible apply bx_new); (focus (go_size; done))) | (with_reducible first | apply zOl | apply zFa | apply zDn | apply zDr | apply zAl | apply zSt | refine zVi (by assumption) ?_ ?_) | go_size | omega)⟩
          case measure => simp [intOf]; omega
        · skip
          have hv3 : validB (bLo C st (k + 1)) (bHi C st (k + 1)) = false := by rw [valid_b hC HK.out]; simpa using hle2
          have TC : ∀ W, Calls Tryz.prog 78 #[.agg #[.int .i64 (mkN (bLo C st k) 4096), .int .i64 (mkD (bLo C st k) 4096), .int .i64 (mkN (bHi C st k) 4096), .int .i64 (mkD (bHi C st k) 4096)], .agg #[.int .i64 (mkN (htLo C (k + 1) (st (k + 1))) 4096), .int .i64 (mkD (htLo C (k + 1) (st (k + 1))) 4096), .int .i64 (mkN (htHi C (k + 1) (st (k + 1))) 4096), .int .i64 (mkD (htHi C (k + 1) (st (k + 1))) 4096)]] W fun e w' => e = .returned (.tuple #[.agg #[.int .i64 0, .int .i64 0, .int .i64 0, .int .i64 0], .bool false]) ∧ Below W.heap.size W w' := fun W => by
            have := TC0 W
            rw [opV_eq, Bool.and_self, ivV_no (by simp [hv3])] at this
            exact this
          have HBN := Lib.hid (BN.out (k + 1) (by rw [HN.out, ← hbN.out]; exact bN_ge _ _ _) (by omega))
          clear TC0 hv1 hv3
          go_upto_region 6 with (fail)
          refine chk (fun W => Below w.heap.size w W ∧ W.heap[w.heap.size]? = some (.cells #[.int .i64 A, .int .i64 B] 32 (0, 0)) ∧ W.heap[w.heap.size + 1]? = some (.cells #[.int .i64 x, .int .i64 y, .int .i64 e] 34 (0, 0)) ∧ W.heap[w.heap.size + 1 + 1]? = some (.cells #[.int .i64 0, .int .i64 0, .int .i64 0, .int .i64 0] 29 (0, 0)) ∧ W.heap[gB]? = some (.cells #[.int .i64 (mkN (bLo C st k) 4096), .int .i64 (mkD (bLo C st k) 4096), .int .i64 (mkN (bHi C st k) 4096), .int .i64 (mkD (bHi C st k) 4096)] 29 (0, 0))) (by refine ⟨?_, ?_, ?_, ?_, ?_⟩ <;> (repeat' first | (with_reducible first | assumption | (apply Ne.symm; assumption) | apply Nat.le_refl | apply Nat.le_add_right | apply zL | apply zRf | apply Wx.box | apply Wx.box4 | apply zWa | apply Wx.drew | apply zWn | apply bx_drew | apply bx_drewN | apply bx_set3 | apply bx_set2 | apply bx_set4 | apply bx_set1) | ((with_reducible apply bx_new); (focus (go_size; done))) | (with_reducible first | apply zOl | apply zFa | apply zDn | apply zDr | apply zAl | apply zSt | refine zVi (by assumption) ?_ ?_) | go_size | omega)) ?_
          rintro w2 ⟨hB2, H_C_2, H_P_2, H_O_2, H_X_2⟩
          obtain ⟨k_C_2_0, k_C_2_1, f_C_2, l_C_2⟩ := bk2 H_C_2
          replace H_C_2 := Lib.hid H_C_2
          obtain ⟨k_P_2_0, k_P_2_1, k_P_2_2, f_P_2, l_P_2⟩ := bk3 H_P_2
          replace H_P_2 := Lib.hid H_P_2
          obtain ⟨k_O_2_0, k_O_2_1, k_O_2_2, k_O_2_3, f_O_2, l_O_2⟩ := bk4 H_O_2
          replace H_O_2 := Lib.hid H_O_2
          obtain ⟨k_X_2_0, k_X_2_1, k_X_2_2, k_X_2_3, f_X_2, l_X_2⟩ := bk4 H_X_2
          replace H_X_2 := Lib.hid H_X_2
          clear hC2 hP hO hX
          go_upto_region 8 with (first | (have _t := tok3; go_at_call 77; (with_reducible refine ((TH _)).mono ?_); rintro e w3 ⟨rfl, hb3⟩; clear tok3 _t; have hz3 := hb3.size; (try simp only [World.size_alloc, World.size_setCell, World.size_drew, World.size_drewN'] at hz3); (try (have kq := cellAt hb3 (w.heap.size) (by go_size); have k3_w_0_0 := kq 0; have k3_w_0_1 := kq 1; clear kq; have f3_w_0 := frozAt hb3 (w.heap.size) (by go_size); simp [go_sem, *] at k3_w_0_0 k3_w_0_1 f3_w_0)); (try have l3_w_0 : w.heap.size < w3.heap.size := by omega); (try (have kq := cellAt hb3 (w.heap.size + 1) (by go_size); have k3_w_1_0 := kq 0; have k3_w_1_1 := kq 1; have k3_w_1_2 := kq 2; clear kq; have f3_w_1 := frozAt hb3 (w.heap.size + 1) (by go_size); simp [go_sem, *] at k3_w_1_0 k3_w_1_1 k3_w_1_2 f3_w_1)); (try have l3_w_1 : w.heap.size + 1 < w3.heap.size := by omega); (try (have kq := cellAt hb3 (w.heap.size + 1 + 1) (by go_size); have k3_w_2_0 := kq 0; have k3_w_2_1 := kq 1; have k3_w_2_2 := kq 2; have k3_w_2_3 := kq 3; clear kq; have f3_w_2 := frozAt hb3 (w.heap.size + 1 + 1) (by go_size); simp [go_sem, *] at k3_w_2_0 k3_w_2_1 k3_w_2_2 k3_w_2_3 f3_w_2)); (try have l3_w_2 : w.heap.size + 1 + 1 < w3.heap.size := by omega); (try (have kq := cellAt hb3 (gB) (by go_size); have k3_gB_0 := kq 0; have k3_gB_1 := kq 1; have k3_gB_2 := kq 2; have k3_gB_3 := kq 3; clear kq; have f3_gB := frozAt hb3 (gB) (by go_size); simp [go_sem, *] at k3_gB_0 k3_gB_1 k3_gB_2 k3_gB_3 f3_gB)); (try have l3_gB : gB < w3.heap.size := by omega); (try clear k1_w_0_0 k1_w_0_1 f1_w_0); (try clear l1_w_0); (try clear k1_w_1_0 k1_w_1_1 k1_w_1_2 f1_w_1); (try clear l1_w_1); (try clear k1_w_2_0 k1_w_2_1 k1_w_2_2 k1_w_2_3 f1_w_2); (try clear l1_w_2); (try clear k1_gB_0 k1_gB_1 k1_gB_2 k1_gB_3 f1_gB); (try clear l1_gB); (try clear k2_w_0_0 k2_w_0_1 f2_w_0); (try clear l2_w_0); (try clear k2_w_1_0 k2_w_1_1 k2_w_1_2 f2_w_1); (try clear l2_w_1); (try clear k2_w_2_0 k2_w_2_1 k2_w_2_2 k2_w_2_3 f2_w_2); (try clear l2_w_2); (try clear k2_gB_0 k2_gB_1 k2_gB_2 k2_gB_3 f2_gB); (try clear l2_gB)))
          have H_C_3 := (hb3.block (w.heap.size) (blk_lt' H_C_2.out)).trans H_C_2.out
          clear k_C_2_0 k_C_2_1 f_C_2 H_C_2
          obtain ⟨k_C_3_0, k_C_3_1, f_C_3, l_C_3⟩ := bk2 H_C_3
          replace H_C_3 := Lib.hid H_C_3
          have H_P_3 := (hb3.block (w.heap.size + 1) (blk_lt' H_P_2.out)).trans H_P_2.out
          clear k_P_2_0 k_P_2_1 k_P_2_2 f_P_2 H_P_2
          obtain ⟨k_P_3_0, k_P_3_1, k_P_3_2, f_P_3, l_P_3⟩ := bk3 H_P_3
          replace H_P_3 := Lib.hid H_P_3
          have H_O_3 := (hb3.block (w.heap.size + 1 + 1) (blk_lt' H_O_2.out)).trans H_O_2.out
          clear k_O_2_0 k_O_2_1 k_O_2_2 k_O_2_3 f_O_2 H_O_2
          obtain ⟨k_O_3_0, k_O_3_1, k_O_3_2, k_O_3_3, f_O_3, l_O_3⟩ := bk4 H_O_3
          replace H_O_3 := Lib.hid H_O_3
          have H_X_3 := (hb3.block (gB) (blk_lt' H_X_2.out)).trans H_X_2.out
          clear k_X_2_0 k_X_2_1 k_X_2_2 k_X_2_3 f_X_2 H_X_2
          obtain ⟨k_X_3_0, k_X_3_1, k_X_3_2, k_X_3_3, f_X_3, l_X_3⟩ := bk4 H_X_3
          replace H_X_3 := Lib.hid H_X_3
          have hB3 : Below w.heap.size w w3 := below_via hb3 (by assumption) (by go_size)
          replace H_C_3 := H_C_3.out
          replace H_P_3 := H_P_3.out
          replace H_O_3 := H_O_3.out
          replace H_X_3 := H_X_3.out
          refine chk (fun W => Below w.heap.size w W ∧ W.heap[w.heap.size]? = some (.cells #[.int .i64 A, .int .i64 B] 32 (0, 0)) ∧ W.heap[w.heap.size + 1]? = some (.cells #[.int .i64 x, .int .i64 y, .int .i64 e] 34 (0, 0)) ∧ W.heap[w.heap.size + 1 + 1]? = some (.cells #[.int .i64 0, .int .i64 0, .int .i64 0, .int .i64 0] 29 (0, 0)) ∧ W.heap[gB]? = some (.cells #[.int .i64 (mkN (bLo C st k) 4096), .int .i64 (mkD (bLo C st k) 4096), .int .i64 (mkN (bHi C st k) 4096), .int .i64 (mkD (bHi C st k) 4096)] 29 (0, 0)) ∧ W.heap[w3.heap.size]? = some (.cells #[.int .i64 (mkN (htLo C (k + 1) (st (k + 1))) 4096), .int .i64 (mkD (htLo C (k + 1) (st (k + 1))) 4096), .int .i64 (mkN (htHi C (k + 1) (st (k + 1))) 4096), .int .i64 (mkD (htHi C (k + 1) (st (k + 1))) 4096)] 29 (0, 0))) (by refine ⟨?_, ?_, ?_, ?_, ?_, ?_⟩ <;> (repeat' first | (with_reducible first | assumption | (apply Ne.symm; assumption) | apply Nat.le_refl | apply Nat.le_add_right | apply zL | apply zRf | apply Wx.box | apply Wx.box4 | apply zWa | apply Wx.drew | apply zWn | apply bx_drew | apply bx_drewN | apply bx_set3 | apply bx_set2 | apply bx_set4 | apply bx_set1) | ((with_reducible apply bx_new); (focus (go_size; done))) | (with_reducible first | apply zOl | apply zFa | apply zDn | apply zDr | apply zAl | apply zSt | refine zVi (by assumption) ?_ ?_) | go_size | omega)) ?_
          clear k_C_3_0 k_C_3_1 f_C_3 H_C_3
          clear k_P_3_0 k_P_3_1 k_P_3_2 f_P_3 H_P_3
          clear k_O_3_0 k_O_3_1 k_O_3_2 k_O_3_3 f_O_3 H_O_3
          clear k_X_3_0 k_X_3_1 k_X_3_2 k_X_3_3 f_X_3 H_X_3
          clear hB3
          rintro w4 ⟨hB4, H_C_4, H_P_4, H_O_4, H_X_4, H_Y_4⟩
          obtain ⟨k_C_4_0, k_C_4_1, f_C_4, l_C_4⟩ := bk2 H_C_4
          replace H_C_4 := Lib.hid H_C_4
          obtain ⟨k_P_4_0, k_P_4_1, k_P_4_2, f_P_4, l_P_4⟩ := bk3 H_P_4
          replace H_P_4 := Lib.hid H_P_4
          obtain ⟨k_O_4_0, k_O_4_1, k_O_4_2, k_O_4_3, f_O_4, l_O_4⟩ := bk4 H_O_4
          replace H_O_4 := Lib.hid H_O_4
          obtain ⟨k_X_4_0, k_X_4_1, k_X_4_2, k_X_4_3, f_X_4, l_X_4⟩ := bk4 H_X_4
          replace H_X_4 := Lib.hid H_X_4
          obtain ⟨k_Y_4_0, k_Y_4_1, k_Y_4_2, k_Y_4_3, f_Y_4, l_Y_4⟩ := bk4 H_Y_4
          replace H_Y_4 := Lib.hid H_Y_4
          go_upto_region 10 with (first | (have _t := tok5; go_at_call 78; (with_reducible refine ((TC _)).mono ?_); rintro e w5 ⟨rfl, hb5⟩; clear tok5 _t; have hz5 := hb5.size; (try simp only [World.size_alloc, World.size_setCell, World.size_drew, World.size_drewN'] at hz5); (try (have kq := cellAt hb5 (w.heap.size) (by go_size); have k5_w_0_0 := kq 0; have k5_w_0_1 := kq 1; clear kq; have f5_w_0 := frozAt hb5 (w.heap.size) (by go_size); simp [go_sem, *] at k5_w_0_0 k5_w_0_1 f5_w_0)); (try have l5_w_0 : w.heap.size < w5.heap.size := by omega); (try (have kq := cellAt hb5 (w.heap.size + 1) (by go_size); have k5_w_1_0 := kq 0; have k5_w_1_1 := kq 1; have k5_w_1_2 := kq 2; clear kq; have f5_w_1 := frozAt hb5 (w.heap.size + 1) (by go_size); simp [go_sem, *] at k5_w_1_0 k5_w_1_1 k5_w_1_2 f5_w_1)); (try have l5_w_1 : w.heap.size + 1 < w5.heap.size := by omega); (try (have kq := cellAt hb5 (w.heap.size + 1 + 1) (by go_size); have k5_w_2_0 := kq 0; have k5_w_2_1 := kq 1; have k5_w_2_2 := kq 2; have k5_w_2_3 := kq 3; clear kq; have f5_w_2 := frozAt hb5 (w.heap.size + 1 + 1) (by go_size); simp [go_sem, *] at k5_w_2_0 k5_w_2_1 k5_w_2_2 k5_w_2_3 f5_w_2)); (try have l5_w_2 : w.heap.size + 1 + 1 < w5.heap.size := by omega); (try (have kq := cellAt hb5 (gB) (by go_size); have k5_gB_0 := kq 0; have k5_gB_1 := kq 1; have k5_gB_2 := kq 2; have k5_gB_3 := kq 3; clear kq; have f5_gB := frozAt hb5 (gB) (by go_size); simp [go_sem, *] at k5_gB_0 k5_gB_1 k5_gB_2 k5_gB_3 f5_gB)); (try have l5_gB : gB < w5.heap.size := by omega); (try (have kq := cellAt hb5 (w3.heap.size) (by go_size); have k5_w3_0_0 := kq 0; have k5_w3_0_1 := kq 1; have k5_w3_0_2 := kq 2; have k5_w3_0_3 := kq 3; clear kq; have f5_w3_0 := frozAt hb5 (w3.heap.size) (by go_size); simp [go_sem, *] at k5_w3_0_0 k5_w3_0_1 k5_w3_0_2 k5_w3_0_3 f5_w3_0)); (try have l5_w3_0 : w3.heap.size < w5.heap.size := by omega); (try clear k1_w_0_0 k1_w_0_1 f1_w_0); (try clear l1_w_0); (try clear k1_w_1_0 k1_w_1_1 k1_w_1_2 f1_w_1); (try clear l1_w_1); (try clear k1_w_2_0 k1_w_2_1 k1_w_2_2 k1_w_2_3 f1_w_2); (try clear l1_w_2); (try clear k1_gB_0 k1_gB_1 k1_gB_2 k1_gB_3 f1_gB); (try clear l1_gB); (try clear k2_w_0_0 k2_w_0_1 f2_w_0); (try clear l2_w_0); (try clear k2_w_1_0 k2_w_1_1 k2_w_1_2 f2_w_1); (try clear l2_w_1); (try clear k2_w_2_0 k2_w_2_1 k2_w_2_2 k2_w_2_3 f2_w_2); (try clear l2_w_2); (try clear k2_gB_0 k2_gB_1 k2_gB_2 k2_gB_3 f2_gB); (try clear l2_gB); (try clear k3_w_0_0 k3_w_0_1 f3_w_0); (try clear l3_w_0); (try clear k3_w_1_0 k3_w_1_1 k3_w_1_2 f3_w_1); (try clear l3_w_1); (try clear k3_w_2_0 k3_w_2_1 k3_w_2_2 k3_w_2_3 f3_w_2); (try clear l3_w_2); (try clear k3_gB_0 k3_gB_1 k3_gB_2 k3_gB_3 f3_gB); (try clear l3_gB); (try clear k4_w_0_0 k4_w_0_1 f4_w_0); (try clear l4_w_0); (try clear k4_w_1_0 k4_w_1_1 k4_w_1_2 f4_w_1); (try clear l4_w_1); (try clear k4_w_2_0 k4_w_2_1 k4_w_2_2 k4_w_2_3 f4_w_2); (try clear l4_w_2); (try clear k4_gB_0 k4_gB_1 k4_gB_2 k4_gB_3 f4_gB); (try clear l4_gB); (try clear k4_w3_0_0 k4_w3_0_1 k4_w3_0_2 k4_w3_0_3 f4_w3_0); (try clear l4_w3_0)))
          have H_C_5 := (hb5.block (w.heap.size) (blk_lt' H_C_4.out)).trans H_C_4.out
          clear k_C_4_0 k_C_4_1 f_C_4 H_C_4
          obtain ⟨k_C_5_0, k_C_5_1, f_C_5, l_C_5⟩ := bk2 H_C_5
          replace H_C_5 := Lib.hid H_C_5
          have H_P_5 := (hb5.block (w.heap.size + 1) (blk_lt' H_P_4.out)).trans H_P_4.out
          clear k_P_4_0 k_P_4_1 k_P_4_2 f_P_4 H_P_4
          obtain ⟨k_P_5_0, k_P_5_1, k_P_5_2, f_P_5, l_P_5⟩ := bk3 H_P_5
          replace H_P_5 := Lib.hid H_P_5
          have H_O_5 := (hb5.block (w.heap.size + 1 + 1) (blk_lt' H_O_4.out)).trans H_O_4.out
          clear k_O_4_0 k_O_4_1 k_O_4_2 k_O_4_3 f_O_4 H_O_4
          obtain ⟨k_O_5_0, k_O_5_1, k_O_5_2, k_O_5_3, f_O_5, l_O_5⟩ := bk4 H_O_5
          replace H_O_5 := Lib.hid H_O_5
          have H_X_5 := (hb5.block (gB) (blk_lt' H_X_4.out)).trans H_X_4.out
          clear k_X_4_0 k_X_4_1 k_X_4_2 k_X_4_3 f_X_4 H_X_4
          obtain ⟨k_X_5_0, k_X_5_1, k_X_5_2, k_X_5_3, f_X_5, l_X_5⟩ := bk4 H_X_5
          replace H_X_5 := Lib.hid H_X_5
          have H_Y_5 := (hb5.block (w3.heap.size) (blk_lt' H_Y_4.out)).trans H_Y_4.out
          clear k_Y_4_0 k_Y_4_1 k_Y_4_2 k_Y_4_3 f_Y_4 H_Y_4
          obtain ⟨k_Y_5_0, k_Y_5_1, k_Y_5_2, k_Y_5_3, f_Y_5, l_Y_5⟩ := bk4 H_Y_5
          replace H_Y_5 := Lib.hid H_Y_5
          have hB5 : Below w.heap.size w w5 := below_via hb5 (by assumption) (by go_size)
          replace H_C_5 := H_C_5.out
          replace H_P_5 := H_P_5.out
          replace H_O_5 := H_O_5.out
          replace H_X_5 := H_X_5.out
          replace H_Y_5 := H_Y_5.out
          refine chk (fun W => Below w.heap.size w W ∧ W.heap[w.heap.size + 1 + 1]? = some (.cells #[.int .i64 0, .int .i64 0, .int .i64 0, .int .i64 0] 29 (0, 0))) (by refine ⟨?_, ?_⟩ <;> (repeat' first | (with_reducible first | assumption | (apply Ne.symm; assumption) | apply Nat.le_refl | apply Nat.le_add_right | apply zL | apply zRf | apply Wx.box | apply Wx.box4 | apply zWa | apply Wx.drew | apply zWn | apply bx_drew | apply bx_drewN | apply bx_set3 | apply bx_set2 | apply bx_set4 | apply bx_set1) | ((with_reducible apply bx_new); (focus (go_size; done))) | (with_reducible first | apply zOl | apply zFa | apply zDn | apply zDr | apply zAl | apply zSt | refine zVi (by assumption) ?_ ?_) | go_size | omega)) ?_
          clear k_C_5_0 k_C_5_1 f_C_5 H_C_5
          clear k_P_5_0 k_P_5_1 k_P_5_2 f_P_5 H_P_5
          clear k_O_5_0 k_O_5_1 k_O_5_2 k_O_5_3 f_O_5 H_O_5
          clear k_X_5_0 k_X_5_1 k_X_5_2 k_X_5_3 f_X_5 H_X_5
          clear k_Y_5_0 k_Y_5_1 k_Y_5_2 k_Y_5_3 f_Y_5 H_Y_5
          clear hB5
          rintro w6 ⟨hB6, H_O_6⟩
          obtain ⟨k_O_6_0, k_O_6_1, k_O_6_2, k_O_6_3, f_O_6, l_O_6⟩ := bk4 H_O_6
          replace H_O_6 := Lib.hid H_O_6
          clear TH TC
          iterate 24 (first | (with_reducible show bodyPost _ _ _ _ _ _) | (with_reducible refine wp_ret ?_) | go_values | go_skip | go_guarded | go_step | go_upon | go_back | skip)
          refine bodyPost_ret (v := .tuple #[.agg #[.int .i64 0, .int .i64 0, .int .i64 0, .int .i64 0], .int .i64 0, .bool false]) (by simp [results, Tryz.results55, go_sem, k_O_6_0, k_O_6_1, k_O_6_2, k_O_6_3]) rfl ⟨?_, ?_⟩
          · rw [HBN.out.1, HBN.out.2.1, HBN.out.2.2.1, HBN.out.2.2.2.1, HBN.out.2.2.2.2.1, HBN.out.2.2.2.2.2]
          · (repeat' first | (with_reducible first | assumption | (apply Ne.symm; assumption) | apply Nat.le_refl | apply Nat.le_add_right | apply zL | apply zRf | apply Wx.box | apply Wx.box4 | apply zWa | apply Wx.drew | apply zWn | apply bx_drew | apply bx_drewN | apply bx_set3 | apply bx_set2 | apply bx_set4 | apply bx_set1) | ((with_reducible apply bx_new); (focus (go_size; done))) | (with_reducible first | apply zOl | apply zFa | apply zDn | apply zDr | apply zAl | apply zSt | refine zVi (by assumption) ?_ ?_) | go_size | omega)
    · obtain rfl : k = 5 := by omega
      have HBY := Lib.hid (BY.out 5 (HN.out.trans (HNk.out.symm.trans (bN_end (by omega)))) hle)
      go_upto_region 13 with (fail)
      refine chk (fun W => Below w.heap.size w W ∧ W.heap[w.heap.size + 1 + 1]? = some (.cells #[.int .i64 0, .int .i64 0, .int .i64 0, .int .i64 0] 29 (0, 0)) ∧ W.heap[gB]? = some (.cells #[.int .i64 (mkN (bLo C st 5) 4096), .int .i64 (mkD (bLo C st 5) 4096), .int .i64 (mkN (bHi C st 5) 4096), .int .i64 (mkD (bHi C st 5) 4096)] 29 (0, 0))) (by refine ⟨?_, ?_, ?_⟩ <;> (repeat' first | (with_reducible first | assumption | (apply Ne.symm; assumption) | apply Nat.le_refl | apply Nat.le_add_right | apply zL | apply zRf | apply Wx.box | apply Wx.box4 | apply zWa | apply Wx.drew | apply zWn | apply bx_drew | apply bx_drewN | apply bx_set3 | apply bx_set2 | apply bx_set4 | apply bx_set1) | ((with_reducible apply bx_new); (focus (go_size; done))) | (with_reducible first | apply zOl | apply zFa | apply zDn | apply zDr | apply zAl | apply zSt | refine zVi (by assumption) ?_ ?_) | go_size | omega)) ?_
      rintro w4 ⟨hB4, H_O_4, H_X_4⟩
      obtain ⟨k_O_4_0, k_O_4_1, k_O_4_2, k_O_4_3, f_O_4, l_O_4⟩ := bk4 H_O_4
      replace H_O_4 := Lib.hid H_O_4
      obtain ⟨k_X_4_0, k_X_4_1, k_X_4_2, k_X_4_3, f_X_4, l_X_4⟩ := bk4 H_X_4
      replace H_X_4 := Lib.hid H_X_4
      clear hC2 hP hO hX
      iterate 24 (first | (with_reducible show bodyPost _ _ _ _ _ _) | (with_reducible refine wp_ret ?_) | go_values | go_skip | go_guarded | go_step | go_upon | go_back | skip)
      refine bodyPost_ret (v := .tuple #[.agg #[.int .i64 (mkN (bLo C st 5) 4096), .int .i64 (mkD (bLo C st 5) 4096), .int .i64 (mkN (bHi C st 5) 4096), .int .i64 (mkD (bHi C st 5) 4096)], .int .i64 5, .bool true]) (by simp [results, Tryz.results55, go_sem, k_O_4_0, k_O_4_1, k_O_4_2, k_O_4_3, k_X_4_0, k_X_4_1, k_X_4_2, k_X_4_3]) rfl ⟨?_, ?_⟩
      · rw [HBY.out.1, HBY.out.2.1, HBY.out.2.2.1, HBY.out.2.2.2.1, HBY.out.2.2.2.2.1, HBY.out.2.2.2.2.2]; rfl
      · (repeat' first | (with_reducible first | assumption | (apply Ne.symm; assumption) | apply Nat.le_refl | apply Nat.le_add_right | apply zL | apply zRf | apply Wx.box | apply Wx.box4 | apply zWa | apply Wx.drew | apply zWn | apply bx_drew | apply bx_drewN | apply bx_set3 | apply bx_set2 | apply bx_set4 | apply bx_set1) | ((with_reducible apply bx_new); (focus (go_size; done))) | (with_reducible first | apply zOl | apply zFa | apply zDn | apply zDr | apply zAl | apply zSt | refine zVi (by assumption) ?_ ?_) | go_size | omega)
end Go.Proofs.YtgjppinjapdbeaaGreat
