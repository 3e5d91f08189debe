/- The doubled ratios, one after the other, in rows of the call's own: the program. -/
import Derived.Test.YtijpfnkhaldfeaaWo2
import Derived.Test.YtijpfnkhaldfeaaRwA
import Derived.Test.YtijpfnkhaldfeaaPln
namespace Go.Proofs.Ytijpfnkhaldfeaa
open Go.RowKit
set_option linter.unusedVariables false
set_option maxHeartbeats 4000000
set_option maxRecDepth 20000
set_option linter.unusedSimpArgs false
attribute [local go_sem] openAt openUpon
theorem infoRatioW : (Try.prog.info? 37).map (fun i => (i.zero, i.size, i.bytes)) = some (some (.agg #[.bool false, .slice none 0 0, .bool false, .slice none 0 0]), 4, 64) := by kernel_rfl
/-- a contract whose values are a row of ratios of the call's own, and a flag -/
def NewDR (w : World) (r : Option (List (Int × Int))) (e : Ending) (w' : World) : Prop := ∃ v M, e = .returned (.tuple #[v, .bool (dlR r).2]) ∧ OwnW w' w.heap.size v (dlR r).1.length M ∧ (∀ j, j < 2 * (dlR r).1.length → wvL M j = rvL (dlR r).1 j) ∧ Below w.heap.size w w'
/-- the pairs' flags and digits, one more pair -/
theorem rvL_push {M : List WV} {zs : List (Int × Int)} {p q : Int} {P Q : WV} (hc : M.length = 2 * zs.length) (h : ∀ j, j < 2 * zs.length → wvL M j = rvL zs j) (hp : P.neg = ngB p ∧ P.zs = limbs (ab p)) (hq : Q.neg = ngB q ∧ Q.zs = limbs (ab q)) :
    ∀ j, j < 2 * (zs ++ [(p, q)]).length → wvL (M ++ [P, Q]) j = rvL (zs ++ [(p, q)]) j := fun j hj => by
  simp only [List.length_append, List.length_singleton] at hj
  unfold wvL
  rw [getD_app]
  by_cases h1 : j < 2 * zs.length
  · rw [if_pos (by omega)]
    have := h j h1
    unfold wvL at this
    rw [this]
    unfold rvL
    simp only [getD_snoc, if_pos (show j / 2 < zs.length by omega)]
  · rw [if_neg (by omega)]
    rcases (show j = 2 * zs.length ∨ j = 2 * zs.length + 1 by omega) with e | e
    · subst e
      rw [rvL_0, getD_snoc, if_neg (by omega), if_pos rfl, show 2 * zs.length - M.length = 0 by omega]
      simp [hp.1, hp.2]
    · subst e
      rw [rvL_1, getD_snoc, if_neg (by omega), if_pos rfl, show 2 * zs.length + 1 - M.length = 1 by omega]
      simp [hq.1, hq.2]
def DlRel (w : World) (A B : Int) (m : Nat) (r : Option (List (Int × Int))) (iv ov : Value) (wr : World) : Prop := ∃ (k : Nat) (zs : List (Int × Int)) (M : List WV) (p q : Int) (b : Bool) (a : Option Addr) (n c : Nat) (b2 : Bool) (a2 : Option Addr) (n2 c2 : Nat),
  iv = .int .i64 k ∧ k ≤ m ∧ zs.length = k ∧ r = (dlV (4 * absI (coV A B)) A B (m - k) p q).map (zs ++ ·) ∧ raB p q = true ∧ Wx wr b a n c p ∧ Wx wr b2 a2 n2 c2 q ∧ OwnW wr (w.heap.size + 1 + 1) ov k M ∧ (∀ j, j < 2 * zs.length → wvL M j = rvL zs j) ∧
  wr.heap[w.heap.size]? = some (.cells #[.int .i64 A, .int .i64 B] 33 (0, 0)) ∧ wr.heap[w.heap.size + 1]? = some (.cells #[.bool b, .slice a n c, .bool b2, .slice a2 n2 c2] 37 (0, 0)) ∧ Below w.heap.size w wr
theorem doublings_any (A B x z : Int) (b b2 : Bool) (a a2 : Option Addr) (n c n2 c2 m : Nat) (w : World) (hA : -1000 ≤ A ∧ A ≤ 1000) (hBB : -10000 ≤ B ∧ B ≤ 10000) (hcv : coV A B ≠ 0) (hx : Wx w b a n c x) (hz : Wx w b2 a2 n2 c2 z) (hra : raB x z = true) (hm : m ≤ 5) :
    Calls Try.prog 22 #[.agg #[.int .i64 A, .int .i64 B], .agg #[.bool b, .slice a n c, .bool b2, .slice a2 n2 c2], .int .i64 m] w (NewDR w (dlV (4 * absI (coV A B)) A B m x z)) := by
  obtain ⟨r, hr⟩ : ∃ r, dlV (4 * absI (coV A B)) A B m x z = r := ⟨_, rfl⟩
  rw [hr]
  have HR0 := Lib.hid (show r = (dlV (4 * absI (coV A B)) A B (m - 0) x z).map (([] : List (Int × Int)) ++ ·) by rw [Nat.sub_zero, hr]; exact dl_start r)
  clear hr
  obtain ⟨i0, hi, iz0, iz1, iz2⟩ := info_parts infoRatioW
  have tok1 : True := trivial
  have tok2 : True := trivial
  have tok3 : True := trivial
  have tok4 : True := trivial
  have tok5 : True := trivial
  have tok6 : True := trivial
  go_enter Try.func22, Try.ntmps22
  go_wp2_with fail
  go_loopw [12, 8] (fun iv ov wr => DlRel w A B m r iv ov wr) (fun iv _ _ => (m - intOf iv).toNat)
  case atStart => exact ⟨0, [], [], x, z, b, a, n, c, b2, a2, n2, c2, rfl, Nat.zero_le _, rfl, HR0.out, hra, (hx.alloc _).alloc _, (hz.alloc _).alloc _, OwnW.nil _ _, fun j hj => absurd hj (by simp), bx_old (heap_alloc_new w _) _, bx_new (by simp), (by repeat' first | (with_reducible first | apply zRf | assumption | apply zDn | apply zDr | apply zAl | apply zSt | refine zVi (by assumption) ?_ ?_) | go_size)⟩
  case round =>
    clear hx hz hra HR0
    obtain ⟨k, zs, M, p, q, b, a, n, c, b2, a2, n2, c2, rfl, hk, hl, hpl, hra, ux, uz, how, hvl, hC, hRR, hbw⟩ := hrel
    have HP := Lib.hid hpl
    have HL := Lib.hid hl
    have HV := Lib.hid hvl
    have HOW := Lib.hid how
    clear hpl hl hvl
    by_cases hlt : k < m
    · have hlt2 : (k : Int) < (m : Int) := by omega
      have hrb := raB_bd hra
      obtain ⟨DB, hDB⟩ : ∃ v, dbl (4 * absI (coV A B)) A B p q = v := ⟨_, rfl⟩
      have TD : ∀ W, Wx W b a n c p → Wx W b2 a2 n2 c2 q → Calls Try.prog 38 #[.agg #[.int .i64 A, .int .i64 B], .agg #[.bool b, .slice a n c, .bool b2, .slice a2 n2 c2]] W (NewRO W DB.1 DB.2.1 DB.2.2) := fun W g1 g2 => hDB ▸ doubleX_own A B p q b b2 a a2 n c n2 c2 W hA hBB hcv g1 g2 hrb.1 hrb.2.1
      have hdc := dbl_cases (4 * absI (coV A B)) A B p q
      rw [hDB] at hdc
      have HD := Lib.hid hDB
      clear hDB hrb hra
      have kC0 : wr.cell? ⟨w.heap.size, 0, none⟩ = some (.int .i64 A) := blk_cell hC 0
      have kC1 : wr.cell? ⟨w.heap.size, 1, none⟩ = some (.int .i64 B) := blk_cell hC 1
      have fC := fun o => blk_frozen hC o
      have lC := blk_lt' hC
      have kR0 : wr.cell? ⟨w.heap.size + 1, 0, none⟩ = some (.bool b) := blk_cell hRR 0
      have kR1 : wr.cell? ⟨w.heap.size + 1, 1, none⟩ = some (.slice a n c) := blk_cell hRR 1
      have kR2 : wr.cell? ⟨w.heap.size + 1, 2, none⟩ = some (.bool b2) := blk_cell hRR 2
      have kR3 : wr.cell? ⟨w.heap.size + 1, 3, none⟩ = some (.slice a2 n2 c2) := blk_cell hRR 3
      have fR := fun o => blk_frozen hRR o
      have lR := blk_lt' hRR
      have HC0 := hC
      have HR0 := hRR
      go_upto_region 4 with (fail)
      refine chk (fun W => Below w.heap.size w W ∧ W.heap[w.heap.size]? = some (.cells #[.int .i64 A, .int .i64 B] 33 (0, 0)) ∧ W.heap[w.heap.size + 1]? = some (.cells #[.bool b, .slice a n c, .bool b2, .slice a2 n2 c2] 37 (0, 0)) ∧ Wx W b a n c p ∧ Wx W b2 a2 n2 c2 q ∧ Below wr.heap.size wr W) (by refine ⟨?_, ?_, ?_, ?_, ?_, ?_⟩ <;> (repeat' first | (with_reducible first | assumption | (apply Ne.symm; assumption) | apply Nat.le_refl | apply Nat.le_add_right | apply zL | apply zRf | apply Wx.box | apply Wx.box4 | apply zWa | apply Wx.drew | apply zWn | apply bx_drew | apply bx_drewN | apply bx_set3 | apply bx_set2 | apply bx_set4 | apply bx_set1) | ((with_reducible apply bx_new); (focus (go_size; done))) | (with_reducible first | apply zOl | apply zFa | apply zDn | apply zDr | apply zAl | apply zSt | refine zVi (by assumption) ?_ ?_) | go_size | omega)) ?_
      try clear ux
      try clear uz
      rintro w2 ⟨hB2, H_C_2, H_R_2, ux', uz', hbr⟩
      obtain ⟨k_C_2_0, k_C_2_1, f_C_2, l_C_2⟩ := bk2 H_C_2
      replace H_C_2 := Lib.hid H_C_2
      obtain ⟨k_R_2_0, k_R_2_1, k_R_2_2, k_R_2_3, f_R_2, l_R_2⟩ := bk4 H_R_2
      replace H_R_2 := Lib.hid H_R_2
      have ux := ux'
      clear ux'
      have uz := uz'
      clear uz'
      clear HC0 HR0 hC hRR kC0 kC1 fC kR0 kR1 kR2 kR3 fR lC lR
      rcases hdc with rfl | ⟨p1, q1, rfl, hq1⟩
      · have HP2 : r = (dlV (4 * absI (coV A B)) A B (m - (k + 1) + 1) p q).map (zs ++ ·) := by rw [show m - (k + 1) + 1 = m - k by omega]; exact HP.out
        have HN := Lib.hid (dl_fail HP2 HD.out)
        clear HP2
        go_upto_region 5 with (first | (have _t := tok4; go_at_call 38; (with_reducible refine ((TD _ (ux.below (by repeat' first | (with_reducible first | apply zRf | assumption | apply zDn | apply zDr | apply zAl | apply zSt | refine zVi (by assumption) ?_ ?_) | go_size)) (uz.below (by repeat' first | (with_reducible first | apply zRf | assumption | apply zDn | apply zDr | apply zAl | apply zSt | refine zVi (by assumption) ?_ ?_) | go_size)))).mono ?_); rintro e w4 ⟨b6, a6, n6, c6, b7, a7, n7, c7, rfl, vx, vz, f6, f7, hoo, hb4⟩; clear tok4 _t; have hz4 := hb4.size; (try simp only [World.size_alloc, World.size_setCell, World.size_drew, World.size_drewN'] at hz4); (try (have kq := cellAt hb4 (w.heap.size) (by go_size); have k4_w_0_0 := kq 0; have k4_w_0_1 := kq 1; clear kq; have f4_w_0 := frozAt hb4 (w.heap.size) (by go_size); simp [go_sem, *] at k4_w_0_0 k4_w_0_1 f4_w_0)); (try have l4_w_0 : w.heap.size < w4.heap.size := by omega); (try (have kq := cellAt hb4 (w.heap.size + 1) (by go_size); have k4_w_1_0 := kq 0; have k4_w_1_1 := kq 1; have k4_w_1_2 := kq 2; have k4_w_1_3 := kq 3; clear kq; have f4_w_1 := frozAt hb4 (w.heap.size + 1) (by go_size); simp [go_sem, *] at k4_w_1_0 k4_w_1_1 k4_w_1_2 k4_w_1_3 f4_w_1)); (try have l4_w_1 : w.heap.size + 1 < w4.heap.size := by omega); (try clear k1_w_0_0 k1_w_0_1 f1_w_0); (try clear l1_w_0); (try clear k1_w_1_0 k1_w_1_1 k1_w_1_2 k1_w_1_3 f1_w_1); (try clear l1_w_1); (try clear k2_w_0_0 k2_w_0_1 f2_w_0); (try clear l2_w_0); (try clear k2_w_1_0 k2_w_1_1 k2_w_1_2 k2_w_1_3 f2_w_1); (try clear l2_w_1); (try clear k3_w_0_0 k3_w_0_1 f3_w_0); (try clear l3_w_0); (try clear k3_w_1_0 k3_w_1_1 k3_w_1_2 k3_w_1_3 f3_w_1); (try clear l3_w_1)))
        have H_C_4 := (hb4.block (w.heap.size) (blk_lt' H_C_2.out)).trans H_C_2.out
        clear k_C_2_0 k_C_2_1 f_C_2 H_C_2
        obtain ⟨k_C_4_0, k_C_4_1, f_C_4, l_C_4⟩ := bk2 H_C_4
        replace H_C_4 := Lib.hid H_C_4
        have H_R_4 := (hb4.block (w.heap.size + 1) (blk_lt' H_R_2.out)).trans H_R_2.out
        clear k_R_2_0 k_R_2_1 k_R_2_2 k_R_2_3 f_R_2 H_R_2
        obtain ⟨k_R_4_0, k_R_4_1, k_R_4_2, k_R_4_3, f_R_4, l_R_4⟩ := bk4 H_R_4
        replace H_R_4 := Lib.hid H_R_4
        replace ux := ux.below hb4
        replace uz := uz.below hb4
        have hB4 : Below w.heap.size w w4 := below_via hb4 (by assumption) (by first | exact hB2.size | go_size)
        go_wp2_with fail
        go_ret2
        refine ⟨.slice none 0 0, [], by rw [HN.out]; rfl, by rw [HN.out]; exact OwnW.nil _ _, by rw [HN.out]; exact fun j hj => absurd hj (by simp [dlR]), ?_⟩
        repeat' first | (with_reducible first | apply zRf | assumption | apply zDn | apply zDr | apply zAl | apply zSt | refine zVi (by assumption) ?_ ?_) | go_size
      · have HP2 : r = (dlV (4 * absI (coV A B)) A B (m - (k + 1) + 1) p q).map (zs ++ ·) := by rw [show m - (k + 1) + 1 = m - k by omega]; exact HP.out
        have HN := Lib.hid (dl_step HP2 HD.out)
        clear HP2
        go_upto_region 5 with (first | (have _t := tok4; go_at_call 38; (with_reducible refine ((TD _ (ux.below (by repeat' first | (with_reducible first | apply zRf | assumption | apply zDn | apply zDr | apply zAl | apply zSt | refine zVi (by assumption) ?_ ?_) | go_size)) (uz.below (by repeat' first | (with_reducible first | apply zRf | assumption | apply zDn | apply zDr | apply zAl | apply zSt | refine zVi (by assumption) ?_ ?_) | go_size)))).mono ?_); rintro e w4 ⟨b6, a6, n6, c6, b7, a7, n7, c7, rfl, vx, vz, f6, f7, hoo, hb4⟩; clear tok4 _t; have hz4 := hb4.size; (try simp only [World.size_alloc, World.size_setCell, World.size_drew, World.size_drewN'] at hz4); (try (have kq := cellAt hb4 (w.heap.size) (by go_size); have k4_w_0_0 := kq 0; have k4_w_0_1 := kq 1; clear kq; have f4_w_0 := frozAt hb4 (w.heap.size) (by go_size); simp [go_sem, *] at k4_w_0_0 k4_w_0_1 f4_w_0)); (try have l4_w_0 : w.heap.size < w4.heap.size := by omega); (try (have kq := cellAt hb4 (w.heap.size + 1) (by go_size); have k4_w_1_0 := kq 0; have k4_w_1_1 := kq 1; have k4_w_1_2 := kq 2; have k4_w_1_3 := kq 3; clear kq; have f4_w_1 := frozAt hb4 (w.heap.size + 1) (by go_size); simp [go_sem, *] at k4_w_1_0 k4_w_1_1 k4_w_1_2 k4_w_1_3 f4_w_1)); (try have l4_w_1 : w.heap.size + 1 < w4.heap.size := by omega); (try clear k1_w_0_0 k1_w_0_1 f1_w_0); (try clear l1_w_0); (try clear k1_w_1_0 k1_w_1_1 k1_w_1_2 k1_w_1_3 f1_w_1); (try clear l1_w_1); (try clear k2_w_0_0 k2_w_0_1 f2_w_0); (try clear l2_w_0); (try clear k2_w_1_0 k2_w_1_1 k2_w_1_2 k2_w_1_3 f2_w_1); (try clear l2_w_1); (try clear k3_w_0_0 k3_w_0_1 f3_w_0); (try clear l3_w_0); (try clear k3_w_1_0 k3_w_1_1 k3_w_1_2 k3_w_1_3 f3_w_1); (try clear l3_w_1)))
        obtain ⟨ho6, ho7, hf67⟩ := (by first | exact hoo rfl | exact hoo trivial)
        clear hoo
        have H_C_4 := (hb4.block (w.heap.size) (blk_lt' H_C_2.out)).trans H_C_2.out
        clear k_C_2_0 k_C_2_1 f_C_2 H_C_2
        obtain ⟨k_C_4_0, k_C_4_1, f_C_4, l_C_4⟩ := bk2 H_C_4
        replace H_C_4 := Lib.hid H_C_4
        have H_R_4 := (hb4.block (w.heap.size + 1) (blk_lt' H_R_2.out)).trans H_R_2.out
        clear k_R_2_0 k_R_2_1 k_R_2_2 k_R_2_3 f_R_2 H_R_2
        obtain ⟨k_R_4_0, k_R_4_1, k_R_4_2, k_R_4_3, f_R_4, l_R_4⟩ := bk4 H_R_4
        replace H_R_4 := Lib.hid H_R_4
        replace ux := ux.below hb4
        replace uz := uz.below hb4
        have hB4 : Below w.heap.size w w4 := below_via hb4 (by assumption) (by first | exact hB2.size | go_size)
        have hbr4 := below_via hb4 hbr (by have := hbr.size; omega)
        have hs4 := hbr4.size
        have hs24 := hbr.size
        replace H_C_4 := H_C_4.out
        replace H_R_4 := H_R_4.out
        refine chk (fun W => Below w.heap.size w W ∧ W.heap[w.heap.size]? = some (.cells #[.int .i64 A, .int .i64 B] 33 (0, 0)) ∧ W.heap[w.heap.size + 1]? = some (.cells #[.bool b, .slice a n c, .bool b2, .slice a2 n2 c2] 37 (0, 0)) ∧ W.heap[w4.heap.size]? = some (.cells #[.bool b6, .slice a6 n6 c6, .bool b7, .slice a7 n7 c7] 37 (0, 0)) ∧ Wx W b6 a6 n6 c6 p1 ∧ Wx W b7 a7 n7 c7 q1 ∧ Below w4.heap.size w4 W ∧ Below wr.heap.size wr W) (by refine ⟨?_, ?_, ?_, ?_, ?_, ?_, ?_, ?_⟩ <;> (repeat' first | (with_reducible first | assumption | (apply Ne.symm; assumption) | apply Nat.le_refl | apply Nat.le_add_right | apply zL | apply zRf | apply Wx.box | apply Wx.box4 | apply zWa | apply Wx.drew | apply zWn | apply bx_drew | apply bx_drewN | apply bx_set3 | apply bx_set2 | apply bx_set4 | apply bx_set1) | ((with_reducible apply bx_new); (focus (go_size; done))) | (with_reducible first | apply zOl | apply zFa | apply zDn | apply zDr | apply zAl | apply zSt | refine zVi (by assumption) ?_ ?_) | go_size | omega)) ?_
        try clear vx
        try clear vz
        clear k_C_4_0 k_C_4_1 f_C_4 H_C_4
        clear k_R_4_0 k_R_4_1 k_R_4_2 k_R_4_3 f_R_4 H_R_4
        clear hB4
        rintro w5 ⟨hB5, H_C_5, H_R_5, H_T_5, vx', vz', hb45, hbr5⟩
        obtain ⟨k_C_5_0, k_C_5_1, f_C_5, l_C_5⟩ := bk2 H_C_5
        replace H_C_5 := Lib.hid H_C_5
        obtain ⟨k_R_5_0, k_R_5_1, k_R_5_2, k_R_5_3, f_R_5, l_R_5⟩ := bk4 H_R_5
        replace H_R_5 := Lib.hid H_R_5
        obtain ⟨k_T_5_0, k_T_5_1, k_T_5_2, k_T_5_3, f_T_5, l_T_5⟩ := bk4 H_T_5
        replace H_T_5 := Lib.hid H_T_5
        have vx := vx'
        clear vx'
        have vz := vz'
        clear vz'
        have ho6' := (ho6.below hb45).low (show w.heap.size + 1 + 1 ≤ w2.heap.size by omega)
        have ho7' := (ho7.below hb45).low (show w.heap.size + 1 + 1 ≤ w2.heap.size by omega)
        have HW5 := Lib.hid (HOW.out.below hbr5)
        have ho := HW5.out.head
        have HO := Lib.hid ho
        clear ho TD
        have hne : ∀ i, (i < w.heap.size + 1 + 1 ∨ wr.heap.size ≤ i) → some i ≠ u8.ownBlock := fun i hi e => by
          have := World.ownsRow.lt HOW.out.head _ e.symm
          omega
        have hfar6 : ∀ j, j < M.length → farA (M[j]?.getD wv0).ad a6 := fun j hj => OwS.far (HOW.out.own j hj) ho6 (by omega)
        have hfar7 : ∀ j, j < M.length → farA (M[j]?.getD wv0).ad a7 := fun j hj => OwS.far (HOW.out.own j hj) ho7 (by omega)
        go_upto_region 8 with (first | (at_builtin; refine wpList_append_own_at _ rfl _ _ 30 rfl (w.heap.size + 1 + 1) 37 i0 (.agg #[.bool false, .slice none 0 0, .bool false, .slice none 0 0]) 4 64 Try.underlying30 hi iz0 iz1 iz2 rfl (by decide) u8 _ _ rfl (ownsRow_below2 HO.out ((Below.refl _ _).alloc (Nat.le_refl _) _)) ⟨w5.heap.size, 0, none⟩ 1 1 [.bool b6, .slice a6 n6 c6, .bool b7, .slice a7 n7 c7] rfl rfl (cells_new _ _ _) (by simp [Value.oneCell']) (by unfold maxLen; omega) (by omega) (by simp; omega) ?_; intro v1 w6 hv1 hg1 _ hat))
        have hsz5 := hb45.size
        have hl5 : ∀ i, i < w5.heap.size → i < (w5.alloc (Obj.cells #[.bool b6, .slice a6 n6 c6, .bool b7, .slice a7 n7 c7] 37)).heap.size := fun i hi => by simp; omega
        have hC6 := (hg1.block _ (hl5 _ l_C_5) (hne _ (by omega))).trans (bx_old H_C_5.out _)
        have hR6 := (hg1.block _ (hl5 _ l_R_5) (hne _ (by omega))).trans (bx_old H_R_5.out _)
        have hT6 := (hg1.block _ (hl5 _ l_T_5) (hne _ (by omega))).trans (bx_old H_T_5.out _)
        have hB6 : Below w.heap.size w w6 := (hB5.alloc (by omega) _).grown hg1 (by simp; omega) (fun k h => by
          rcases Nat.lt_or_ge k (w.heap.size + 1 + 1) with h' | h'
          · exact absurd h.symm (hne k (.inl h'))
          · omega)
        have how6 := HW5.out.push ho6' ho7' hf67 hfar6 hfar7 hg1 (p := ⟨b6, a6, n6, c6, limbs (ab p1)⟩) (q := ⟨b7, a7, n7, c7, limbs (ab q1)⟩) hv1
        have e6 := Lib.hid vx.neg
        have e7 := Lib.hid vz.neg
        replace H_C_5 := H_C_5.out
        replace H_R_5 := H_R_5.out
        replace H_T_5 := H_T_5.out
        refine chk (fun W => Below w.heap.size w W ∧ W.heap[w.heap.size]? = some (.cells #[.int .i64 A, .int .i64 B] 33 (0, 0)) ∧ W.heap[w.heap.size + 1]? = some (.cells #[.bool b, .slice a n c, .bool b2, .slice a2 n2 c2] 37 (0, 0)) ∧ W.heap[w4.heap.size]? = some (.cells #[.bool b6, .slice a6 n6 c6, .bool b7, .slice a7 n7 c7] 37 (0, 0)) ∧ w6 = W) (by refine ⟨?_, ?_, ?_, ?_, ?_⟩ <;> (repeat' first | (with_reducible first | assumption | (apply Ne.symm; assumption) | apply Nat.le_refl | apply Nat.le_add_right | apply zL | apply zRf | apply Wx.box | apply Wx.box4 | apply zWa | apply Wx.drew | apply zWn | apply bx_drew | apply bx_drewN | apply bx_set3 | apply bx_set2 | apply bx_set4 | apply bx_set1) | ((with_reducible apply bx_new); (focus (go_size; done))) | (with_reducible first | apply zOl | apply zFa | apply zDn | apply zDr | apply zAl | apply zSt | refine zVi (by assumption) ?_ ?_) | go_size | omega)) ?_
        clear k_C_5_0 k_C_5_1 f_C_5 H_C_5
        clear k_R_5_0 k_R_5_1 k_R_5_2 k_R_5_3 f_R_5 H_R_5
        clear k_T_5_0 k_T_5_1 k_T_5_2 k_T_5_3 f_T_5 H_T_5
        clear hB5
        rintro w6 ⟨hB6, H_C_6, H_R_6, H_T_6, HE⟩
        obtain ⟨k_C_6_0, k_C_6_1, f_C_6, l_C_6⟩ := bk2 H_C_6
        replace H_C_6 := Lib.hid H_C_6
        obtain ⟨k_R_6_0, k_R_6_1, k_R_6_2, k_R_6_3, f_R_6, l_R_6⟩ := bk4 H_R_6
        replace H_R_6 := Lib.hid H_R_6
        obtain ⟨k_T_6_0, k_T_6_1, k_T_6_2, k_T_6_3, f_T_6, l_T_6⟩ := bk4 H_T_6
        replace H_T_6 := Lib.hid H_T_6
        subst HE
        have hRT : w.heap.size + 1 ≠ w4.heap.size := by omega
        have HC6 := H_C_6.out
        have HR6 := H_R_6.out
        go_wp2_with fail
        go_roundw
        case rel =>
          have key : ∀ W, OwnW W (w.heap.size + 1 + 1) v1 (k + 1) (M ++ [⟨b6, a6, n6, c6, limbs (ab p1)⟩, ⟨b7, a7, n7, c7, limbs (ab q1)⟩]) → Wx W b6 a6 n6 c6 p1 ∧ Wx W b7 a7 n7 c7 q1 := fun W h => by
            have o1 := h.own M.length (by simp)
            have o2 := h.own (M.length + 1) (by simp)
            rw [getD_app, if_neg (by omega), Nat.sub_self] at o1
            rw [getD_app, if_neg (by omega), show M.length + 1 - M.length = 1 by omega] at o2
            exact ⟨⟨e6.out, o1.sx⟩, ⟨e7.out, o2.sx⟩⟩
          have hMc := HOW.out.cnt
          refine ⟨k + 1, zs ++ [(p1, q1)], M ++ [⟨b6, a6, n6, c6, limbs (ab p1)⟩, ⟨b7, a7, n7, c7, limbs (ab q1)⟩], p1, q1, b6, a6, n6, c6, b7, a7, n7, c7, by go_num, by omega, by simp [HL.out], HN.out, hq1, (key _ ?_).1, (key _ ?_).2, ?_, rvL_push (by rw [HL.out]; exact hMc) HV.out ⟨e6.out, rfl⟩ ⟨e7.out, rfl⟩, ?_, ?_, ?_⟩
          · iterate 6 (first | (with_reducible exact how6) | (with_reducible apply OwnW.setLow) | skip)
            all_goals omega
          · iterate 6 (first | (with_reducible exact how6) | (with_reducible apply OwnW.setLow) | skip)
            all_goals omega
          · iterate 6 (first | (with_reducible exact how6) | (with_reducible apply OwnW.setLow) | skip)
            all_goals omega
          · (repeat' first | (with_reducible first | assumption | (apply Ne.symm; assumption) | apply Nat.le_refl | apply Nat.le_add_right | apply zL | apply zRf | apply Wx.box | apply Wx.box4 | apply zWa | apply Wx.drew | apply zWn | apply bx_drew | apply bx_drewN | apply bx_set3 | apply bx_set2 | apply bx_set4 | apply bx_set1) | ((with_reducible apply bx_new); (focus (go_size; done))) | (with_reducible first | apply zOl | apply zFa | apply zDn | apply zDr | apply zAl | apply zSt | refine zVi (by assumption) ?_ ?_) | go_size | omega)
          · exact bx_set4 HR6
          · repeat' first | (with_reducible first | apply zRf | assumption | apply zDn | apply zDr | apply zAl | apply zSt | refine zVi (by assumption) ?_ ?_) | go_size
        case measure => simp [intOf]; omega
    · obtain rfl : k = m := by omega
      have HP2 : r = (dlV (4 * absI (coV A B)) A B 0 p q).map (zs ++ ·) := by have := HP.out; rwa [Nat.sub_self] at this
      have HN := Lib.hid (dl_end HP2)
      go_wp2_with fail
      go_ret2
      refine ⟨u8, M, by rw [HN.out]; rfl, by rw [HN.out]; simp only [dlR]; rw [HL.out]; exact HOW.out.low (by omega), by rw [HN.out]; exact HV.out, ?_⟩
      repeat' first | (with_reducible first | apply zRf | assumption | apply zDn | apply zDr | apply zAl | apply zSt | refine zVi (by assumption) ?_ ?_) | go_size
end Go.Proofs.Ytijpfnkhaldfeaa
