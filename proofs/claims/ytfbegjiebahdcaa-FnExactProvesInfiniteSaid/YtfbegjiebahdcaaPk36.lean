/- Lemmas and contracts of functions. No condition. -/
import Derived.Test.YtfbegjiebahdcaaPk35
namespace Go.Proofs.Ytfbegjiebahdcaa
open Go.RowKit
set_option linter.unusedVariables false
set_option maxHeartbeats 1000000
set_option maxRecDepth 20000
set_option linter.unusedSimpArgs false
attribute [local go_sem] openAt openUpon
/-- f rounds from k on -/
def piF (C : Int) (st : Nat → RSt) : Nat → Nat → Int × Bool
  | 0, _ => (0, false)
  | f + 1, k => if htOk (st k) = true then (if 0 < htLo C k (st k) then ((k : Int), true) else piF C st f (k + 1)) else (0, false)
theorem piF_step {C : Int} {st : Nat → RSt} {k : Nat} (hk : k ≤ 5) : (htOk (st k) = false ∧ piF C st (6 - k) k = (0, false)) ∨ (htOk (st k) = true ∧ (0 < htLo C k (st k) ∧ piF C st (6 - k) k = ((k : Int), true) ∨ ¬ 0 < htLo C k (st k) ∧ piF C st (6 - k) k = piF C st (6 - (k + 1)) (k + 1))) := by
  obtain ⟨f, hf⟩ : ∃ f, 6 - k = f + 1 := ⟨5 - k, by omega⟩
  rw [hf, show 6 - (k + 1) = f by omega]
  cases h : htOk (st k)
  · left; exact ⟨rfl, by simp [piF, h]⟩
  · right; refine ⟨rfl, ?_⟩
    by_cases h2 : 0 < htLo C k (st k)
    · left; exact ⟨h2, by simp [piF, h, h2]⟩
    · right; exact ⟨h2, by simp [piF, h, h2]⟩
def piV (A B x y e : Int) : Int × Bool := if pqB A B x y e = true then piF (dcV A B) (ptSt A B x e) 6 0 else (0, false)
def PwRel (w : World) (A B x y e C : Int) (st : Nat → RSt) (r1 : Int) (r2 : Bool) (iv : Value) (wr : World) : Prop := (∃ k : Nat, iv = .int .i64 k ∧ k ≤ 6 ∧ piF C st (6 - k) k = (r1, r2)) ∧ wr.heap[w.heap.size]? = some (.cells #[.int .i64 A, .int .i64 B] 28 (0, 0)) ∧ wr.heap[w.heap.size + 1]? = some (.cells #[.int .i64 x, .int .i64 y, .int .i64 e] 54 (0, 0)) ∧ Below w.heap.size w wr
theorem sProvesInfinite_any (A B x y e : Int) (w : World) : Calls Try.prog 35 #[.agg #[.int .i64 A, .int .i64 B], .agg #[.int .i64 x, .int .i64 y, .int .i64 e]] w fun r w' => r = .returned (.tuple #[.int .i64 (piV A B x y e).1, .bool (piV A B x y e).2]) ∧ Below w.heap.size w w' := by
  have T1 := fun W : World => Lib.hid (sIsP_any A B x y e W)
  cases h : pqB A B x y e
  · rw [h] at T1
    rw [show piV A B x y e = (0, false) by simp [piV, h]]
    clear h
    have tok1 : True := trivial
    go_enter Try.func35, Try.ntmps35
    go_wp2_with (first | (have _t := tok1; go_at_call 78; (with_reducible refine ((T1 _).out).mono ?_); rintro e w1 ⟨rfl, hb1⟩; clear tok1 _t; have hz1 := hb1.size; (try simp only [World.size_alloc, World.size_setCell, World.size_drew, World.size_drewN'] at hz1); (try (have kq := cellAt hb1 (w.heap.size) (by go_size); have k1_w_0_0 := kq 0; have k1_w_0_1 := kq 1; clear kq; have f1_w_0 := frozAt hb1 (w.heap.size) (by go_size); simp [go_sem, *] at k1_w_0_0 k1_w_0_1 f1_w_0)); (try have l1_w_0 : w.heap.size < w1.heap.size := by omega); (try (have kq := cellAt hb1 (w.heap.size + 1) (by go_size); have k1_w_1_0 := kq 0; have k1_w_1_1 := kq 1; have k1_w_1_2 := kq 2; clear kq; have f1_w_1 := frozAt hb1 (w.heap.size + 1) (by go_size); simp [go_sem, *] at k1_w_1_0 k1_w_1_1 k1_w_1_2 f1_w_1)); (try have l1_w_1 : w.heap.size + 1 < w1.heap.size := by omega)))
    go_ret2
    refine ⟨rfl, ?_⟩
    repeat' first | (with_reducible first | apply zRf | assumption | apply zDn | apply zDr | apply zAl | apply zSt | refine zVi (by assumption) ?_ ?_) | go_size
  · have hb := pq_bd h
    have TK := fun (W : World) (k : Nat) (hk : k ≤ 5) => chHeight_any A B x y e k W hb.1 hb.2.1 hb.2.2.1 hb.2.2.2.1 hb.2.2.2.2 hk
    have hC := dc_bd hb.1 hb.2.1
    have hok := fun k => ptSt_ok (A := A) (B := B) hb.2.2.2.1 hb.2.2.2.2 k
    rw [h] at T1
    rw [show piV A B x y e = piF (dcV A B) (ptSt A B x e) 6 0 by simp [piV, h]]
    clear h hb
    generalize ptSt A B x e = st at *
    generalize dcV A B = C at *
    obtain ⟨r1, r2, hr⟩ : ∃ r1 r2, piF C st 6 0 = (r1, r2) := ⟨_, _, rfl⟩
    rw [hr]
    dsimp only
    have HR := Lib.hid hr
    have HK := Lib.hid hok
    have TKH := Lib.hid TK
    clear hr hok TK
    have tok1 : True := trivial
    have tok2 : True := trivial
    have tok3 : True := trivial
    have tok4 : True := trivial
    have tok5 : True := trivial
    have tok6 : True := trivial
    go_enter Try.func35, Try.ntmps35
    go_wp2_with (first | (have _t := tok1; go_at_call 78; (with_reducible refine ((T1 _).out).mono ?_); rintro e w1 ⟨rfl, hb1⟩; clear tok1 _t; have hz1 := hb1.size; (try simp only [World.size_alloc, World.size_setCell, World.size_drew, World.size_drewN'] at hz1); (try (have kq := cellAt hb1 (w.heap.size) (by go_size); have k1_w_0_0 := kq 0; have k1_w_0_1 := kq 1; clear kq; have f1_w_0 := frozAt hb1 (w.heap.size) (by go_size); simp [go_sem, *] at k1_w_0_0 k1_w_0_1 f1_w_0)); (try have l1_w_0 : w.heap.size < w1.heap.size := by omega); (try (have kq := cellAt hb1 (w.heap.size + 1) (by go_size); have k1_w_1_0 := kq 0; have k1_w_1_1 := kq 1; have k1_w_1_2 := kq 2; clear kq; have f1_w_1 := frozAt hb1 (w.heap.size + 1) (by go_size); simp [go_sem, *] at k1_w_1_0 k1_w_1_1 k1_w_1_2 f1_w_1)); (try have l1_w_1 : w.heap.size + 1 < w1.heap.size := by omega)))
    have hz1' := hb1.size
    simp only [World.size_alloc] at hz1'
    have HC1 : w1.heap[w.heap.size]? = some (.cells #[.int .i64 A, .int .i64 B] 28 (0, 0)) := (hb1.block _ (by go_size)).trans (by (repeat' first | (with_reducible first | assumption | (apply Ne.symm; assumption) | apply Nat.le_refl | apply Nat.le_add_right | apply zL | apply zRf | apply Wx.box | apply Wx.box4 | apply zWa | apply Wx.drew | apply zWn | apply bx_drew | apply bx_drewN | apply bx_set2 | apply bx_set4 | apply bx_set1) | ((with_reducible apply bx_new); (focus (go_size; done))) | (with_reducible first | apply zOl | apply zFa | apply zDn | apply zDr | apply zAl | apply zSt | refine zVi (by assumption) ?_ ?_) | go_size | omega))
    have HP1 : w1.heap[w.heap.size + 1]? = some (.cells #[.int .i64 x, .int .i64 y, .int .i64 e] 54 (0, 0)) := (hb1.block _ (by go_size)).trans (by (repeat' first | (with_reducible first | assumption | (apply Ne.symm; assumption) | apply Nat.le_refl | apply Nat.le_add_right | apply zL | apply zRf | apply Wx.box | apply Wx.box4 | apply zWa | apply Wx.drew | apply zWn | apply bx_drew | apply bx_drewN | apply bx_set2 | apply bx_set4 | apply bx_set1) | ((with_reducible apply bx_new); (focus (go_size; done))) | (with_reducible first | apply zOl | apply zFa | apply zDn | apply zDr | apply zAl | apply zSt | refine zVi (by assumption) ?_ ?_) | go_size | omega))
    have HB1 : Below w.heap.size w w1 := by
      repeat' first | (with_reducible first | apply zRf | assumption | apply zDn | apply zDr | apply zAl | apply zSt | refine zVi (by assumption) ?_ ?_) | go_size
    go_loopw [6] (fun nv wr => PwRel w A B x y e C st r1 r2 nv wr) (fun nv _ => (6 - intOf nv).toNat)
    case atStart => exact ⟨⟨0, rfl, by omega, HR.out⟩, HC1, HP1, HB1⟩
    case round =>
      clear HC1 HP1 HB1 hb1
      obtain ⟨⟨k, rfl, hk, hpi⟩, hC2, hP, hbw⟩ := hrel
      by_cases hlt : k ≤ 5
      · have hlc : (k : Int) ≤ 5 := by omega
        have hl := ht_lit (n := k) hC (HK.out k)
        have TH0 := fun W => TKH.out W k hlt
        have hps := piF_step (C := C) (st := st) hlt
        rw [hpi] at hps
        have HPI := Lib.hid hpi
        clear hpi
        go_upto_region 6 with (fail)
        refine chk (fun W => Below w.heap.size w W ∧ W.heap[w.heap.size]? = some (.cells #[.int .i64 A, .int .i64 B] 28 (0, 0)) ∧ W.heap[w.heap.size + 1]? = some (.cells #[.int .i64 x, .int .i64 y, .int .i64 e] 54 (0, 0))) (by refine ⟨?_, ?_, ?_⟩ <;> (repeat' first | (with_reducible first | assumption | (apply Ne.symm; assumption) | apply Nat.le_refl | apply Nat.le_add_right | apply zL | apply zRf | apply Wx.box | apply Wx.box4 | apply zWa | apply Wx.drew | apply zWn | apply bx_drew | apply bx_drewN | apply bx_set2 | apply bx_set4 | apply bx_set1) | ((with_reducible apply bx_new); (focus (go_size; done))) | (with_reducible first | apply zOl | apply zFa | apply zDn | apply zDr | apply zAl | apply zSt | refine zVi (by assumption) ?_ ?_) | go_size | omega)) ?_
        rintro w2 ⟨hB2, H_C_2, H_P_2⟩
        obtain ⟨k_C_2_0, k_C_2_1, f_C_2, l_C_2⟩ := bk2 H_C_2
        replace H_C_2 := Lib.hid H_C_2
        obtain ⟨k_P_2_0, k_P_2_1, k_P_2_2, f_P_2, l_P_2⟩ := bk3 H_P_2
        replace H_P_2 := Lib.hid H_P_2
        clear hC2 hP
        rcases hl with ⟨g1, g2, g3⟩ | ⟨g1, g2⟩
        · rw [g2] at TH0
          rw [g1] at hps
          simp only [Bool.true_eq_false, false_and, false_or, true_and] at hps
          rcases hps with ⟨h2, h3⟩ | ⟨h2, h3⟩
          · have hp : 0 < mkN (htLo C k (st k)) 4096 := by have := g3.symm; simp only [h2, decide_true] at this; simpa using this.symm
            have H3 := Lib.hid h3
            clear g1 g2 g3 h2 h3
            generalize htLo C k (st k) = lo at *
            generalize htHi C k (st k) = hi at *
            generalize mkN lo 4096 = i1 at *
            generalize mkD lo 4096 = i2 at *
            generalize mkN hi 4096 = i3 at *
            generalize mkD hi 4096 = i4 at *
            have TH := TH0
            clear TH0
            go_upto_region 7 with (first | (have _t := tok3; go_at_call 76; (with_reducible refine ((TH _)).mono ?_); rintro e w3 ⟨rfl, hb3⟩; clear tok3 _t; have hz3 := hb3.size; (try simp only [World.size_alloc, World.size_setCell, World.size_drew, World.size_drewN'] at hz3); (try (have kq := cellAt hb3 (w.heap.size) (by go_size); have k3_w_0_0 := kq 0; have k3_w_0_1 := kq 1; clear kq; have f3_w_0 := frozAt hb3 (w.heap.size) (by go_size); simp [go_sem, *] at k3_w_0_0 k3_w_0_1 f3_w_0)); (try have l3_w_0 : w.heap.size < w3.heap.size := by omega); (try (have kq := cellAt hb3 (w.heap.size + 1) (by go_size); have k3_w_1_0 := kq 0; have k3_w_1_1 := kq 1; have k3_w_1_2 := kq 2; clear kq; have f3_w_1 := frozAt hb3 (w.heap.size + 1) (by go_size); simp [go_sem, *] at k3_w_1_0 k3_w_1_1 k3_w_1_2 f3_w_1)); (try have l3_w_1 : w.heap.size + 1 < w3.heap.size := by omega); (try clear k1_w_0_0 k1_w_0_1 f1_w_0); (try clear l1_w_0); (try clear k1_w_1_0 k1_w_1_1 k1_w_1_2 f1_w_1); (try clear l1_w_1); (try clear k2_w_0_0 k2_w_0_1 f2_w_0); (try clear l2_w_0); (try clear k2_w_1_0 k2_w_1_1 k2_w_1_2 f2_w_1); (try clear l2_w_1)))
            have H_C_3 := (hb3.block (w.heap.size) (blk_lt' H_C_2.out)).trans H_C_2.out
            clear k_C_2_0 k_C_2_1 f_C_2 H_C_2
            obtain ⟨k_C_3_0, k_C_3_1, f_C_3, l_C_3⟩ := bk2 H_C_3
            replace H_C_3 := Lib.hid H_C_3
            have H_P_3 := (hb3.block (w.heap.size + 1) (blk_lt' H_P_2.out)).trans H_P_2.out
            clear k_P_2_0 k_P_2_1 k_P_2_2 f_P_2 H_P_2
            obtain ⟨k_P_3_0, k_P_3_1, k_P_3_2, f_P_3, l_P_3⟩ := bk3 H_P_3
            replace H_P_3 := Lib.hid H_P_3
            have hB3 : Below w.heap.size w w3 := below_via hb3 (by assumption) (by go_size)
            go_wp2_with fail
            go_ret2
            refine ⟨by have := H3.out; simp only [Prod.mk.injEq] at this; rw [this.1, this.2]; rfl, ?_⟩
            repeat' first | (with_reducible first | apply zRf | assumption | apply zDn | apply zDr | apply zAl | apply zSt | refine zVi (by assumption) ?_ ?_) | go_size
          · have hp : ¬ 0 < mkN (htLo C k (st k)) 4096 := by have := g3.symm; simp only [h2, decide_false] at this; simpa using this.symm
            have H3 := Lib.hid h3
            clear g1 g2 g3 h2 h3
            generalize htLo C k (st k) = lo at *
            generalize htHi C k (st k) = hi at *
            generalize mkN lo 4096 = i1 at *
            generalize mkD lo 4096 = i2 at *
            generalize mkN hi 4096 = i3 at *
            generalize mkD hi 4096 = i4 at *
            have TH := TH0
            clear TH0
            go_upto_region 7 with (first | (have _t := tok3; go_at_call 76; (with_reducible refine ((TH _)).mono ?_); rintro e w3 ⟨rfl, hb3⟩; clear tok3 _t; have hz3 := hb3.size; (try simp only [World.size_alloc, World.size_setCell, World.size_drew, World.size_drewN'] at hz3); (try (have kq := cellAt hb3 (w.heap.size) (by go_size); have k3_w_0_0 := kq 0; have k3_w_0_1 := kq 1; clear kq; have f3_w_0 := frozAt hb3 (w.heap.size) (by go_size); simp [go_sem, *] at k3_w_0_0 k3_w_0_1 f3_w_0)); (try have l3_w_0 : w.heap.size < w3.heap.size := by omega); (try (have kq := cellAt hb3 (w.heap.size + 1) (by go_size); have k3_w_1_0 := kq 0; have k3_w_1_1 := kq 1; have k3_w_1_2 := kq 2; clear kq; have f3_w_1 := frozAt hb3 (w.heap.size + 1) (by go_size); simp [go_sem, *] at k3_w_1_0 k3_w_1_1 k3_w_1_2 f3_w_1)); (try have l3_w_1 : w.heap.size + 1 < w3.heap.size := by omega); (try clear k1_w_0_0 k1_w_0_1 f1_w_0); (try clear l1_w_0); (try clear k1_w_1_0 k1_w_1_1 k1_w_1_2 f1_w_1); (try clear l1_w_1); (try clear k2_w_0_0 k2_w_0_1 f2_w_0); (try clear l2_w_0); (try clear k2_w_1_0 k2_w_1_1 k2_w_1_2 f2_w_1); (try clear l2_w_1)))
            have H_C_3 := (hb3.block (w.heap.size) (blk_lt' H_C_2.out)).trans H_C_2.out
            clear k_C_2_0 k_C_2_1 f_C_2 H_C_2
            obtain ⟨k_C_3_0, k_C_3_1, f_C_3, l_C_3⟩ := bk2 H_C_3
            replace H_C_3 := Lib.hid H_C_3
            have H_P_3 := (hb3.block (w.heap.size + 1) (blk_lt' H_P_2.out)).trans H_P_2.out
            clear k_P_2_0 k_P_2_1 k_P_2_2 f_P_2 H_P_2
            obtain ⟨k_P_3_0, k_P_3_1, k_P_3_2, f_P_3, l_P_3⟩ := bk3 H_P_3
            replace H_P_3 := Lib.hid H_P_3
            have hB3 : Below w.heap.size w w3 := below_via hb3 (by assumption) (by go_size)
            have q1 := H_C_3.out
            have q2 := H_P_3.out
            go_wp2_with fail
            go_roundw
            case rel => exact ⟨⟨k + 1, by go_num, by omega, H3.out.symm⟩, by (repeat' first | (with_reducible first | assumption | (apply Ne.symm; assumption) | apply Nat.le_refl | apply Nat.le_add_right | apply zL | apply zRf | apply Wx.box | apply Wx.box4 | apply zWa | apply Wx.drew | apply zWn | apply bx_drew | apply bx_drewN | apply bx_set2 | apply bx_set4 | apply bx_set1) | ((with_reducible apply bx_new); (focus (go_size; done))) | (with_reducible first | apply zOl | apply zFa | apply zDn | apply zDr | apply zAl | apply zSt | refine zVi (by assumption) ?_ ?_) | go_size | omega), by (repeat' first | (with_reducible first | assumption | (apply Ne.symm; assumption) | apply Nat.le_refl | apply Nat.le_add_right | apply zL | apply zRf | apply Wx.box | apply Wx.box4 | apply zWa | apply Wx.drew | apply zWn | apply bx_drew | apply bx_drewN | apply bx_set2 | apply bx_set4 | apply bx_set1) | ((with_reducible apply bx_new); (focus (go_size; done))) | (with_reducible first | apply zOl | apply zFa | apply zDn | apply zDr | apply zAl | apply zSt | refine zVi (by assumption) ?_ ?_) | go_size | omega), by (repeat' first | (with_reducible first | assumption | (apply Ne.symm; assumption) | apply Nat.le_refl | apply Nat.le_add_right | apply zL | apply zRf | apply Wx.box | apply Wx.box4 | apply zWa | apply Wx.drew | apply zWn | apply bx_drew | apply bx_drewN | apply bx_set2 | apply bx_set4 | apply bx_set1) | ((with_reducible apply bx_new); (focus (go_size; done))) | (with_reducible first | apply zOl | apply zFa | apply zDn | apply zDr | apply zAl | apply zSt | refine zVi (by assumption) ?_ ?_) | go_size | omega)⟩
            case measure => simp [intOf]; omega
        · rw [g2] at TH0
          rw [g1] at hps
          simp only [Bool.false_eq_true, false_and, or_false, true_and] at hps
          have H3 := Lib.hid hps
          clear g1 g2 hps
          have TH := TH0
          clear TH0
          go_upto_region 7 with (first | (have _t := tok3; go_at_call 76; (with_reducible refine ((TH _)).mono ?_); rintro e w3 ⟨rfl, hb3⟩; clear tok3 _t; have hz3 := hb3.size; (try simp only [World.size_alloc, World.size_setCell, World.size_drew, World.size_drewN'] at hz3); (try (have kq := cellAt hb3 (w.heap.size) (by go_size); have k3_w_0_0 := kq 0; have k3_w_0_1 := kq 1; clear kq; have f3_w_0 := frozAt hb3 (w.heap.size) (by go_size); simp [go_sem, *] at k3_w_0_0 k3_w_0_1 f3_w_0)); (try have l3_w_0 : w.heap.size < w3.heap.size := by omega); (try (have kq := cellAt hb3 (w.heap.size + 1) (by go_size); have k3_w_1_0 := kq 0; have k3_w_1_1 := kq 1; have k3_w_1_2 := kq 2; clear kq; have f3_w_1 := frozAt hb3 (w.heap.size + 1) (by go_size); simp [go_sem, *] at k3_w_1_0 k3_w_1_1 k3_w_1_2 f3_w_1)); (try have l3_w_1 : w.heap.size + 1 < w3.heap.size := by omega); (try clear k1_w_0_0 k1_w_0_1 f1_w_0); (try clear l1_w_0); (try clear k1_w_1_0 k1_w_1_1 k1_w_1_2 f1_w_1); (try clear l1_w_1); (try clear k2_w_0_0 k2_w_0_1 f2_w_0); (try clear l2_w_0); (try clear k2_w_1_0 k2_w_1_1 k2_w_1_2 f2_w_1); (try clear l2_w_1)))
          have H_C_3 := (hb3.block (w.heap.size) (blk_lt' H_C_2.out)).trans H_C_2.out
          clear k_C_2_0 k_C_2_1 f_C_2 H_C_2
          obtain ⟨k_C_3_0, k_C_3_1, f_C_3, l_C_3⟩ := bk2 H_C_3
          replace H_C_3 := Lib.hid H_C_3
          have H_P_3 := (hb3.block (w.heap.size + 1) (blk_lt' H_P_2.out)).trans H_P_2.out
          clear k_P_2_0 k_P_2_1 k_P_2_2 f_P_2 H_P_2
          obtain ⟨k_P_3_0, k_P_3_1, k_P_3_2, f_P_3, l_P_3⟩ := bk3 H_P_3
          replace H_P_3 := Lib.hid H_P_3
          have hB3 : Below w.heap.size w w3 := below_via hb3 (by assumption) (by go_size)
          go_wp2_with fail
          go_ret2
          refine ⟨by have := H3.out; simp only [Prod.mk.injEq] at this; rw [this.1, this.2]; rfl, ?_⟩
          repeat' first | (with_reducible first | apply zRf | assumption | apply zDn | apply zDr | apply zAl | apply zSt | refine zVi (by assumption) ?_ ?_) | go_size
      · obtain rfl : k = 6 := by omega
        have H3 := Lib.hid (show (r1, r2) = ((0 : Int), false) from hpi.symm)
        clear hpi
        go_wp2_with fail
        go_ret2
        refine ⟨by have := H3.out; simp only [Prod.mk.injEq] at this; rw [this.1, this.2]; rfl, ?_⟩
        repeat' first | (with_reducible first | apply zRf | assumption | apply zDn | apply zDr | apply zAl | apply zSt | refine zVi (by assumption) ?_ ?_) | go_size
theorem ProvesInfinite_any (A B x y e : Int) (w : World) : Calls Try.prog 36 #[.agg #[.int .i64 A, .int .i64 B], .agg #[.int .i64 x, .int .i64 y, .int .i64 e]] w fun r w' => r = .returned (.tuple #[.int .i64 (piV A B x y e).1, .bool (piV A B x y e).2]) ∧ Below w.heap.size w w' := by
  have T1 := fun W : World => Lib.hid (isP_any A B x y e W)
  cases h : pqB A B x y e
  · rw [h] at T1
    rw [show piV A B x y e = (0, false) by simp [piV, h]]
    clear h
    have tok1 : True := trivial
    go_enter Try.func36, Try.ntmps36
    go_wp2_with (first | (have _t := tok1; go_at_call 74; (with_reducible refine ((T1 _).out).mono ?_); rintro e w1 ⟨rfl, hb1⟩; clear tok1 _t; have hz1 := hb1.size; (try simp only [World.size_alloc, World.size_setCell, World.size_drew, World.size_drewN'] at hz1); (try (have kq := cellAt hb1 (w.heap.size) (by go_size); have k1_w_0_0 := kq 0; have k1_w_0_1 := kq 1; clear kq; have f1_w_0 := frozAt hb1 (w.heap.size) (by go_size); simp [go_sem, *] at k1_w_0_0 k1_w_0_1 f1_w_0)); (try have l1_w_0 : w.heap.size < w1.heap.size := by omega); (try (have kq := cellAt hb1 (w.heap.size + 1) (by go_size); have k1_w_1_0 := kq 0; have k1_w_1_1 := kq 1; have k1_w_1_2 := kq 2; clear kq; have f1_w_1 := frozAt hb1 (w.heap.size + 1) (by go_size); simp [go_sem, *] at k1_w_1_0 k1_w_1_1 k1_w_1_2 f1_w_1)); (try have l1_w_1 : w.heap.size + 1 < w1.heap.size := by omega)))
    go_ret2
    refine ⟨rfl, ?_⟩
    repeat' first | (with_reducible first | apply zRf | assumption | apply zDn | apply zDr | apply zAl | apply zSt | refine zVi (by assumption) ?_ ?_) | go_size
  · have hb := pq_bd h
    have TK := fun (W : World) (k : Nat) (hk : k ≤ 5) => heightAt_any A B x y e k W hb.1 hb.2.1 hb.2.2.1 hb.2.2.2.1 hb.2.2.2.2 hk
    have hC := dc_bd hb.1 hb.2.1
    have hok := fun k => ptSt_ok (A := A) (B := B) hb.2.2.2.1 hb.2.2.2.2 k
    rw [h] at T1
    rw [show piV A B x y e = piF (dcV A B) (ptSt A B x e) 6 0 by simp [piV, h]]
    clear h hb
    generalize ptSt A B x e = st at *
    generalize dcV A B = C at *
    obtain ⟨r1, r2, hr⟩ : ∃ r1 r2, piF C st 6 0 = (r1, r2) := ⟨_, _, rfl⟩
    rw [hr]
    dsimp only
    have HR := Lib.hid hr
    have HK := Lib.hid hok
    have TKH := Lib.hid TK
    clear hr hok TK
    have tok1 : True := trivial
    have tok2 : True := trivial
    have tok3 : True := trivial
    have tok4 : True := trivial
    have tok5 : True := trivial
    have tok6 : True := trivial
    go_enter Try.func36, Try.ntmps36
    go_wp2_with (first | (have _t := tok1; go_at_call 74; (with_reducible refine ((T1 _).out).mono ?_); rintro e w1 ⟨rfl, hb1⟩; clear tok1 _t; have hz1 := hb1.size; (try simp only [World.size_alloc, World.size_setCell, World.size_drew, World.size_drewN'] at hz1); (try (have kq := cellAt hb1 (w.heap.size) (by go_size); have k1_w_0_0 := kq 0; have k1_w_0_1 := kq 1; clear kq; have f1_w_0 := frozAt hb1 (w.heap.size) (by go_size); simp [go_sem, *] at k1_w_0_0 k1_w_0_1 f1_w_0)); (try have l1_w_0 : w.heap.size < w1.heap.size := by omega); (try (have kq := cellAt hb1 (w.heap.size + 1) (by go_size); have k1_w_1_0 := kq 0; have k1_w_1_1 := kq 1; have k1_w_1_2 := kq 2; clear kq; have f1_w_1 := frozAt hb1 (w.heap.size + 1) (by go_size); simp [go_sem, *] at k1_w_1_0 k1_w_1_1 k1_w_1_2 f1_w_1)); (try have l1_w_1 : w.heap.size + 1 < w1.heap.size := by omega)))
    have hz1' := hb1.size
    simp only [World.size_alloc] at hz1'
    have HC1 : w1.heap[w.heap.size]? = some (.cells #[.int .i64 A, .int .i64 B] 28 (0, 0)) := (hb1.block _ (by go_size)).trans (by (repeat' first | (with_reducible first | assumption | (apply Ne.symm; assumption) | apply Nat.le_refl | apply Nat.le_add_right | apply zL | apply zRf | apply Wx.box | apply Wx.box4 | apply zWa | apply Wx.drew | apply zWn | apply bx_drew | apply bx_drewN | apply bx_set2 | apply bx_set4 | apply bx_set1) | ((with_reducible apply bx_new); (focus (go_size; done))) | (with_reducible first | apply zOl | apply zFa | apply zDn | apply zDr | apply zAl | apply zSt | refine zVi (by assumption) ?_ ?_) | go_size | omega))
    have HP1 : w1.heap[w.heap.size + 1]? = some (.cells #[.int .i64 x, .int .i64 y, .int .i64 e] 54 (0, 0)) := (hb1.block _ (by go_size)).trans (by (repeat' first | (with_reducible first | assumption | (apply Ne.symm; assumption) | apply Nat.le_refl | apply Nat.le_add_right | apply zL | apply zRf | apply Wx.box | apply Wx.box4 | apply zWa | apply Wx.drew | apply zWn | apply bx_drew | apply bx_drewN | apply bx_set2 | apply bx_set4 | apply bx_set1) | ((with_reducible apply bx_new); (focus (go_size; done))) | (with_reducible first | apply zOl | apply zFa | apply zDn | apply zDr | apply zAl | apply zSt | refine zVi (by assumption) ?_ ?_) | go_size | omega))
    have HB1 : Below w.heap.size w w1 := by
      repeat' first | (with_reducible first | apply zRf | assumption | apply zDn | apply zDr | apply zAl | apply zSt | refine zVi (by assumption) ?_ ?_) | go_size
    go_loopw [13] (fun nv wr => PwRel w A B x y e C st r1 r2 nv wr) (fun nv _ => (6 - intOf nv).toNat)
    case atStart => exact ⟨⟨0, rfl, by omega, HR.out⟩, HC1, HP1, HB1⟩
    case round =>
      clear HC1 HP1 HB1 hb1
      obtain ⟨⟨k, rfl, hk, hpi⟩, hC2, hP, hbw⟩ := hrel
      by_cases hlt : k ≤ 5
      · have hlc : (k : Int) ≤ 5 := by omega
        have TH0 := fun W => TKH.out W k hlt
        have hps := piF_step (C := C) (st := st) hlt
        rw [hpi] at hps
        have HPI := Lib.hid hpi
        clear hpi
        go_upto_region 6 with (fail)
        refine chk (fun W => Below w.heap.size w W ∧ W.heap[w.heap.size]? = some (.cells #[.int .i64 A, .int .i64 B] 28 (0, 0)) ∧ W.heap[w.heap.size + 1]? = some (.cells #[.int .i64 x, .int .i64 y, .int .i64 e] 54 (0, 0))) (by refine ⟨?_, ?_, ?_⟩ <;> (repeat' first | (with_reducible first | assumption | (apply Ne.symm; assumption) | apply Nat.le_refl | apply Nat.le_add_right | apply zL | apply zRf | apply Wx.box | apply Wx.box4 | apply zWa | apply Wx.drew | apply zWn | apply bx_drew | apply bx_drewN | apply bx_set2 | apply bx_set4 | apply bx_set1) | ((with_reducible apply bx_new); (focus (go_size; done))) | (with_reducible first | apply zOl | apply zFa | apply zDn | apply zDr | apply zAl | apply zSt | refine zVi (by assumption) ?_ ?_) | go_size | omega)) ?_
        rintro w2 ⟨hB2, H_C_2, H_P_2⟩
        obtain ⟨k_C_2_0, k_C_2_1, f_C_2, l_C_2⟩ := bk2 H_C_2
        replace H_C_2 := Lib.hid H_C_2
        obtain ⟨k_P_2_0, k_P_2_1, k_P_2_2, f_P_2, l_P_2⟩ := bk3 H_P_2
        replace H_P_2 := Lib.hid H_P_2
        clear hC2 hP
        rcases hps with ⟨g1, h3⟩ | ⟨g1, ⟨h2, h3⟩ | ⟨h2, h3⟩⟩
        · rw [g1] at TH0
          have H3 := Lib.hid h3
          clear g1 h3
          generalize htLo C k (st k) = lo at *
          generalize htHi C k (st k) = hi at *
          have TH := TH0
          clear TH0
          go_upto_region 7 with (first | (have _t := tok3; go_at_call 77; (with_reducible refine ((TH _)).mono ?_); rintro e w3 ⟨rfl, hb3⟩; clear tok3 _t; have hz3 := hb3.size; (try simp only [World.size_alloc, World.size_setCell, World.size_drew, World.size_drewN'] at hz3); (try (have kq := cellAt hb3 (w.heap.size) (by go_size); have k3_w_0_0 := kq 0; have k3_w_0_1 := kq 1; clear kq; have f3_w_0 := frozAt hb3 (w.heap.size) (by go_size); simp [go_sem, *] at k3_w_0_0 k3_w_0_1 f3_w_0)); (try have l3_w_0 : w.heap.size < w3.heap.size := by omega); (try (have kq := cellAt hb3 (w.heap.size + 1) (by go_size); have k3_w_1_0 := kq 0; have k3_w_1_1 := kq 1; have k3_w_1_2 := kq 2; clear kq; have f3_w_1 := frozAt hb3 (w.heap.size + 1) (by go_size); simp [go_sem, *] at k3_w_1_0 k3_w_1_1 k3_w_1_2 f3_w_1)); (try have l3_w_1 : w.heap.size + 1 < w3.heap.size := by omega); (try clear k1_w_0_0 k1_w_0_1 f1_w_0); (try clear l1_w_0); (try clear k1_w_1_0 k1_w_1_1 k1_w_1_2 f1_w_1); (try clear l1_w_1); (try clear k2_w_0_0 k2_w_0_1 f2_w_0); (try clear l2_w_0); (try clear k2_w_1_0 k2_w_1_1 k2_w_1_2 f2_w_1); (try clear l2_w_1)))
          have H_C_3 := (hb3.block (w.heap.size) (blk_lt' H_C_2.out)).trans H_C_2.out
          clear k_C_2_0 k_C_2_1 f_C_2 H_C_2
          obtain ⟨k_C_3_0, k_C_3_1, f_C_3, l_C_3⟩ := bk2 H_C_3
          replace H_C_3 := Lib.hid H_C_3
          have H_P_3 := (hb3.block (w.heap.size + 1) (blk_lt' H_P_2.out)).trans H_P_2.out
          clear k_P_2_0 k_P_2_1 k_P_2_2 f_P_2 H_P_2
          obtain ⟨k_P_3_0, k_P_3_1, k_P_3_2, f_P_3, l_P_3⟩ := bk3 H_P_3
          replace H_P_3 := Lib.hid H_P_3
          have hB3 : Below w.heap.size w w3 := below_via hb3 (by assumption) (by go_size)
          go_wp2_with fail
          go_ret2
          refine ⟨by have := H3.out; simp only [Prod.mk.injEq] at this; rw [this.1, this.2]; rfl, ?_⟩
          repeat' first | (with_reducible first | apply zRf | assumption | apply zDn | apply zDr | apply zAl | apply zSt | refine zVi (by assumption) ?_ ?_) | go_size
        · rw [g1] at TH0
          have H3 := Lib.hid h3
          clear g1 h3
          generalize htLo C k (st k) = lo at *
          generalize htHi C k (st k) = hi at *
          have TH := TH0
          clear TH0
          go_upto_region 7 with (first | (have _t := tok3; go_at_call 77; (with_reducible refine ((TH _)).mono ?_); rintro e w3 ⟨rfl, hb3⟩; clear tok3 _t; have hz3 := hb3.size; (try simp only [World.size_alloc, World.size_setCell, World.size_drew, World.size_drewN'] at hz3); (try (have kq := cellAt hb3 (w.heap.size) (by go_size); have k3_w_0_0 := kq 0; have k3_w_0_1 := kq 1; clear kq; have f3_w_0 := frozAt hb3 (w.heap.size) (by go_size); simp [go_sem, *] at k3_w_0_0 k3_w_0_1 f3_w_0)); (try have l3_w_0 : w.heap.size < w3.heap.size := by omega); (try (have kq := cellAt hb3 (w.heap.size + 1) (by go_size); have k3_w_1_0 := kq 0; have k3_w_1_1 := kq 1; have k3_w_1_2 := kq 2; clear kq; have f3_w_1 := frozAt hb3 (w.heap.size + 1) (by go_size); simp [go_sem, *] at k3_w_1_0 k3_w_1_1 k3_w_1_2 f3_w_1)); (try have l3_w_1 : w.heap.size + 1 < w3.heap.size := by omega); (try clear k1_w_0_0 k1_w_0_1 f1_w_0); (try clear l1_w_0); (try clear k1_w_1_0 k1_w_1_1 k1_w_1_2 f1_w_1); (try clear l1_w_1); (try clear k2_w_0_0 k2_w_0_1 f2_w_0); (try clear l2_w_0); (try clear k2_w_1_0 k2_w_1_1 k2_w_1_2 f2_w_1); (try clear l2_w_1)))
          have H_C_3 := (hb3.block (w.heap.size) (blk_lt' H_C_2.out)).trans H_C_2.out
          clear k_C_2_0 k_C_2_1 f_C_2 H_C_2
          obtain ⟨k_C_3_0, k_C_3_1, f_C_3, l_C_3⟩ := bk2 H_C_3
          replace H_C_3 := Lib.hid H_C_3
          have H_P_3 := (hb3.block (w.heap.size + 1) (blk_lt' H_P_2.out)).trans H_P_2.out
          clear k_P_2_0 k_P_2_1 k_P_2_2 f_P_2 H_P_2
          obtain ⟨k_P_3_0, k_P_3_1, k_P_3_2, f_P_3, l_P_3⟩ := bk3 H_P_3
          replace H_P_3 := Lib.hid H_P_3
          have hB3 : Below w.heap.size w w3 := below_via hb3 (by assumption) (by go_size)
          go_wp2_with fail
          go_ret2
          refine ⟨by have := H3.out; simp only [Prod.mk.injEq] at this; rw [this.1, this.2]; rfl, ?_⟩
          repeat' first | (with_reducible first | apply zRf | assumption | apply zDn | apply zDr | apply zAl | apply zSt | refine zVi (by assumption) ?_ ?_) | go_size
        · rw [g1] at TH0
          have H3 := Lib.hid h3
          clear g1 h3
          generalize htLo C k (st k) = lo at *
          generalize htHi C k (st k) = hi at *
          have TH := TH0
          clear TH0
          go_upto_region 7 with (first | (have _t := tok3; go_at_call 77; (with_reducible refine ((TH _)).mono ?_); rintro e w3 ⟨rfl, hb3⟩; clear tok3 _t; have hz3 := hb3.size; (try simp only [World.size_alloc, World.size_setCell, World.size_drew, World.size_drewN'] at hz3); (try (have kq := cellAt hb3 (w.heap.size) (by go_size); have k3_w_0_0 := kq 0; have k3_w_0_1 := kq 1; clear kq; have f3_w_0 := frozAt hb3 (w.heap.size) (by go_size); simp [go_sem, *] at k3_w_0_0 k3_w_0_1 f3_w_0)); (try have l3_w_0 : w.heap.size < w3.heap.size := by omega); (try (have kq := cellAt hb3 (w.heap.size + 1) (by go_size); have k3_w_1_0 := kq 0; have k3_w_1_1 := kq 1; have k3_w_1_2 := kq 2; clear kq; have f3_w_1 := frozAt hb3 (w.heap.size + 1) (by go_size); simp [go_sem, *] at k3_w_1_0 k3_w_1_1 k3_w_1_2 f3_w_1)); (try have l3_w_1 : w.heap.size + 1 < w3.heap.size := by omega); (try clear k1_w_0_0 k1_w_0_1 f1_w_0); (try clear l1_w_0); (try clear k1_w_1_0 k1_w_1_1 k1_w_1_2 f1_w_1); (try clear l1_w_1); (try clear k2_w_0_0 k2_w_0_1 f2_w_0); (try clear l2_w_0); (try clear k2_w_1_0 k2_w_1_1 k2_w_1_2 f2_w_1); (try clear l2_w_1)))
          have H_C_3 := (hb3.block (w.heap.size) (blk_lt' H_C_2.out)).trans H_C_2.out
          clear k_C_2_0 k_C_2_1 f_C_2 H_C_2
          obtain ⟨k_C_3_0, k_C_3_1, f_C_3, l_C_3⟩ := bk2 H_C_3
          replace H_C_3 := Lib.hid H_C_3
          have H_P_3 := (hb3.block (w.heap.size + 1) (blk_lt' H_P_2.out)).trans H_P_2.out
          clear k_P_2_0 k_P_2_1 k_P_2_2 f_P_2 H_P_2
          obtain ⟨k_P_3_0, k_P_3_1, k_P_3_2, f_P_3, l_P_3⟩ := bk3 H_P_3
          replace H_P_3 := Lib.hid H_P_3
          have hB3 : Below w.heap.size w w3 := below_via hb3 (by assumption) (by go_size)
          have q1 := H_C_3.out
          have q2 := H_P_3.out
          go_wp2_with fail
          go_roundw
          case rel => exact ⟨⟨k + 1, by go_num, by omega, H3.out.symm⟩, by (repeat' first | (with_reducible first | assumption | (apply Ne.symm; assumption) | apply Nat.le_refl | apply Nat.le_add_right | apply zL | apply zRf | apply Wx.box | apply Wx.box4 | apply zWa | apply Wx.drew | apply zWn | apply bx_drew | apply bx_drewN | apply bx_set2 | apply bx_set4 | apply bx_set1) | ((with_reducible apply bx_new); (focus (go_size; done))) | (with_reducible first | apply zOl | apply zFa | apply zDn | apply zDr | apply zAl | apply zSt | refine zVi (by assumption) ?_ ?_) | go_size | omega), by (repeat' first | (with_reducible first | assumption | (apply Ne.symm; assumption) | apply Nat.le_refl | apply Nat.le_add_right | apply zL | apply zRf | apply Wx.box | apply Wx.box4 | apply zWa | apply Wx.drew | apply zWn | apply bx_drew | apply bx_drewN | apply bx_set2 | apply bx_set4 | apply bx_set1) | ((with_reducible apply bx_new); (focus (go_size; done))) | (with_reducible first | apply zOl | apply zFa | apply zDn | apply zDr | apply zAl | apply zSt | refine zVi (by assumption) ?_ ?_) | go_size | omega), by (repeat' first | (with_reducible first | assumption | (apply Ne.symm; assumption) | apply Nat.le_refl | apply Nat.le_add_right | apply zL | apply zRf | apply Wx.box | apply Wx.box4 | apply zWa | apply Wx.drew | apply zWn | apply bx_drew | apply bx_drewN | apply bx_set2 | apply bx_set4 | apply bx_set1) | ((with_reducible apply bx_new); (focus (go_size; done))) | (with_reducible first | apply zOl | apply zFa | apply zDn | apply zDr | apply zAl | apply zSt | refine zVi (by assumption) ?_ ?_) | go_size | omega)⟩
          case measure => simp [intOf]; omega
      · obtain rfl : k = 6 := by omega
        have H3 := Lib.hid (show (r1, r2) = ((0 : Int), false) from hpi.symm)
        clear hpi
        go_wp2_with fail
        go_ret2
        refine ⟨by have := H3.out; simp only [Prod.mk.injEq] at this; rw [this.1, this.2]; rfl, ?_⟩
        repeat' first | (with_reducible first | apply zRf | assumption | apply zDn | apply zDr | apply zAl | apply zSt | refine zVi (by assumption) ?_ ?_) | go_size
theorem FnExactProvesInfinite_any (a0_0 a0_1 a1_0 a1_1 a1_2 : Int) (w : World) : Calls Try.prog 7 #[.agg #[.int .i64 a0_0, .int .i64 a0_1], .agg #[.int .i64 a1_0, .int .i64 a1_1, .int .i64 a1_2]] w fun e w' => e = .returned (.bool true) ∧ Below w.heap.size w w' := by
  have CS := fun W : World => Lib.hid (sProvesInfinite_any a0_0 a0_1 a1_0 a1_1 a1_2 W)
  have CI := fun W : World => Lib.hid (ProvesInfinite_any a0_0 a0_1 a1_0 a1_1 a1_2 W)
  generalize piV a0_0 a0_1 a1_0 a1_1 a1_2 = r at *; obtain ⟨r1, r2⟩ := r
  have tok1 : True := trivial
  have tok2 : True := trivial
  go_enter Try.func7, Try.ntmps7
  go_wp2_with fail
  refine wp_drawn' (n := 9) (by kernel_rfl) (by kernel_rfl) (by kernel_rfl) ?_
  apply Exists.intro
  refine ⟨?_, ?_⟩
  · intro W hW
    try (have kx_w_0_0 := fun x => xcell hW (w.heap.size) (by go_size) x 0; simp [go_sem, *] at kx_w_0_0)
    try (have kx_w_0_1 := fun x => xcell hW (w.heap.size) (by go_size) x 1; simp [go_sem, *] at kx_w_0_1)
    try (have kx_w_1_0 := fun x => xcell hW (w.heap.size + 1) (by go_size) x 0; simp [go_sem, *] at kx_w_1_0)
    try (have kx_w_1_1 := fun x => xcell hW (w.heap.size + 1) (by go_size) x 1; simp [go_sem, *] at kx_w_1_1)
    try (have kx_w_1_2 := fun x => xcell hW (w.heap.size + 1) (by go_size) x 2; simp [go_sem, *] at kx_w_1_2)
    simp only [List.take_succ_cons, List.take_zero]
    repeat (go_big_quiet_step ((first | (go_at_call 15; exact draw_of _ (toCurve_any _ _ _)) | (go_at_call 28; exact draw_of _ (toPoint_any _ _ _ _)) | (go_at_call 35; exact draw_of _ ((CS _).out)))))
    exact wpQuiet_nil rfl
  intro w1 hb1
  simp only [List.drop_succ_cons, List.drop_zero, Act.put, List.setIfInBounds_toArray, List.set_cons_succ, List.set_cons_zero]
  have hz1 := hb1.size
  (try simp only [World.size_alloc, World.size_setCell, World.size_drew, World.size_drewN'] at hz1)
  (try (have kq := cellAt hb1 (w.heap.size) (by go_size); have k1_w_0_0 := kq 0; have k1_w_0_1 := kq 1; clear kq; have f1_w_0 := frozAt hb1 (w.heap.size) (by go_size); simp [go_sem, *] at k1_w_0_0 k1_w_0_1 f1_w_0))
  (try have l1_w_0 : w.heap.size < w1.heap.size := by omega)
  (try (have kq := cellAt hb1 (w.heap.size + 1) (by go_size); have k1_w_1_0 := kq 0; have k1_w_1_1 := kq 1; have k1_w_1_2 := kq 2; clear kq; have f1_w_1 := frozAt hb1 (w.heap.size + 1) (by go_size); simp [go_sem, *] at k1_w_1_0 k1_w_1_1 k1_w_1_2 f1_w_1))
  (try have l1_w_1 : w.heap.size + 1 < w1.heap.size := by omega)
  go_wp2_with fail
  refine wp_drawn' (n := 9) (by kernel_rfl) (by kernel_rfl) (by kernel_rfl) ?_
  apply Exists.intro
  refine ⟨?_, ?_⟩
  · intro W hW
    try (have kx_w_0_0 := fun x => xcell hW (w.heap.size) (by go_size) x 0; simp [go_sem, *] at kx_w_0_0)
    try (have kx_w_0_1 := fun x => xcell hW (w.heap.size) (by go_size) x 1; simp [go_sem, *] at kx_w_0_1)
    try (have kx_w_1_0 := fun x => xcell hW (w.heap.size + 1) (by go_size) x 0; simp [go_sem, *] at kx_w_1_0)
    try (have kx_w_1_1 := fun x => xcell hW (w.heap.size + 1) (by go_size) x 1; simp [go_sem, *] at kx_w_1_1)
    try (have kx_w_1_2 := fun x => xcell hW (w.heap.size + 1) (by go_size) x 2; simp [go_sem, *] at kx_w_1_2)
    simp only [List.take_succ_cons, List.take_zero]
    repeat (go_big_quiet_step ((first | (go_at_call 15; exact draw_of _ (toCurve_any _ _ _)) | (go_at_call 28; exact draw_of _ (toPoint_any _ _ _ _)) | (go_at_call 36; exact draw_of _ ((CI _).out)))))
    exact wpQuiet_nil rfl
  intro w2 hb2
  simp only [List.drop_succ_cons, List.drop_zero, Act.put, List.setIfInBounds_toArray, List.set_cons_succ, List.set_cons_zero]
  have hz2 := hb2.size
  (try simp only [World.size_alloc, World.size_setCell, World.size_drew, World.size_drewN'] at hz2)
  (try (have kq := cellAt hb2 (w.heap.size) (by go_size); have k2_w_0_0 := kq 0; have k2_w_0_1 := kq 1; clear kq; have f2_w_0 := frozAt hb2 (w.heap.size) (by go_size); simp [go_sem, *] at k2_w_0_0 k2_w_0_1 f2_w_0))
  (try have l2_w_0 : w.heap.size < w2.heap.size := by omega)
  (try (have kq := cellAt hb2 (w.heap.size + 1) (by go_size); have k2_w_1_0 := kq 0; have k2_w_1_1 := kq 1; have k2_w_1_2 := kq 2; clear kq; have f2_w_1 := frozAt hb2 (w.heap.size + 1) (by go_size); simp [go_sem, *] at k2_w_1_0 k2_w_1_1 k2_w_1_2 f2_w_1))
  (try have l2_w_1 : w.heap.size + 1 < w2.heap.size := by omega)
  (try clear k1_w_0_0 k1_w_0_1 f1_w_0)
  (try clear l1_w_0)
  (try clear k1_w_1_0 k1_w_1_1 k1_w_1_2 f1_w_1)
  (try clear l1_w_1)
  go_wp2_with fail
  go_ret
  refine ⟨rfl, ?_⟩
  repeat' first | (with_reducible first | apply zRf | assumption | apply zDn | apply zDr | apply zAl | apply zSt | refine zVi (by assumption) ?_ ?_) | go_size
end Go.Proofs.Ytfbegjiebahdcaa
