/- Lemmas and contracts of functions. No condition. -/
import Derived.Test.YtfbegjiebahdcaaPk43
namespace Go.Proofs.Ytfbegjiebahdcaa
open Go.RowKit
set_option linter.unusedVariables false
set_option maxHeartbeats 1000000
set_option maxRecDepth 20000
set_option linter.unusedSimpArgs false
attribute [local go_sem] openAt openUpon
def BcRel (w w2 : World) (st : Nat → RSt) (n : Nat) (iv ov : Value) (wr : World) : Prop := ∃ (k : Nat) (v : Value), iv = .int .i64 k ∧ v = ov ∧ k ≤ n + 1 ∧ OwnI wr w2.heap.size 3 v (baL st k) ∧ Below w2.heap.size w2 wr ∧ Below w.heap.size w wr
theorem NewL.row {w : World} {T : TypeId} {st : Nat → RSt} {n : Nat} {e : Ending} {w' : World} {p q : Int} (h : NewL w T st n e w') (hs : st n = .at p q) : ∃ g cap zs, e = .returned (.tuple #[.slice (some ⟨g, 0, none⟩) (n + 1) cap, .bool false]) ∧ n + 1 ≤ cap ∧ cap ≤ maxLen ∧ (∃ B, RowRt w' B T (.slice (some ⟨g, 0, none⟩) (n + 1) cap) zs) ∧ Along st zs ∧ zs.length = n + 1 ∧ Below w.heap.size w w' := by
  obtain ⟨v, zs, B, h1, h2, h3, h4, h5, h6⟩ := h
  have hl := h5.1 (by rw [hs]; rfl)
  obtain ⟨g, cap, b, a, m, c, b2, a2, m2, c2, g1, g2, g3, _⟩ := h2.at (i := n) (by omega)
  rw [hl] at g1 g2
  subst g1
  exact ⟨g, cap, zs, by rw [h1, hs]; rfl, g2, g3, ⟨B, h2⟩, h3, hl, h6⟩
theorem sBitsAlong_any (A B x y e n : Int) (w : World) : Calls Try.prog 27 #[.agg #[.int .i64 A, .int .i64 B], .agg #[.int .i64 x, .int .i64 y, .int .i64 e], .int .i64 n] w (NewI w (baV A B x y e n) (baB A B x y e n)) := by
  have T1 := fun W : World => Lib.hid (chAsked_any A B x y e n W)
  by_cases hag : (pqB A B x y e && inB n 0 5) = true
  · obtain ⟨h1, h3⟩ : pqB A B x y e = true ∧ inB n 0 5 = true := by simpa using hag
    have hb := pq_bd h1
    have hk := inB_iff.1 h3
    obtain ⟨m, rfl⟩ : ∃ m : Nat, n = m := ⟨n.toNat, by omega⟩
    have TR0 := fun W => chRatios_any A B x y e m W hb.1 hb.2.1 hb.2.2.1 hb.2.2.2.1 hb.2.2.2.2 (by omega)
    have SK := Lib.hid (fun k => ptSt_ok (A := A) (B := B) hb.2.2.2.1 hb.2.2.2.2 k)
    rw [hag] at T1
    have hcs : (atB (ptSt A B x e m) = false ∧ baB A B x y e m = false ∧ baV A B x y e m = []) ∨ (atB (ptSt A B x e m) = true ∧ baB A B x y e m = true ∧ baV A B x y e m = baL (ptSt A B x e) (m + 1)) := by
      rcases baV_cases A B x y e m with ⟨g1, _⟩ | ⟨_, ⟨g2, g3, g4⟩ | ⟨g2, ⟨g3, _⟩ | ⟨g3, g4⟩⟩⟩
      · rw [h1] at g1; cases g1
      · left; exact ⟨by simp [ptSt, g2, atB], g3, g4⟩
      · rw [h3] at g3; cases g3
      · rw [Int.toNat_natCast] at g4; exact g4
    obtain ⟨ok, hok⟩ : ∃ v, baB A B x y e m = v := ⟨_, rfl⟩
    obtain ⟨zs, hzs⟩ : ∃ v, baV A B x y e m = v := ⟨_, rfl⟩
    rw [hok, hzs] at hcs ⊢
    have hm5 : m ≤ 5 := by omega
    have hmc : (m : Int) ≤ 5 := by omega
    clear h1 h3 hok hzs hb hag
    generalize ptSt A B x e = st at *
    obtain ⟨i0, hi, iz0, iz1, iz2⟩ := info_parts infoInt
    cases hs : st m with
    | inf =>
      have TR := fun W => (TR0 W).mono fun e w' h => h.inf hs
      rw [hs] at hcs
      obtain ⟨_, rfl, rfl⟩ : false = false ∧ ok = false ∧ zs = [] := by rcases hcs with h | h; exact h; cases h.1
      clear TR0 hs hcs
      have tok1 : True := trivial
      have tok2 : True := trivial
      go_enter Try.func27, Try.ntmps27
      go_wp2_with (first | (first | (have _t := tok1; go_at_call 71; (with_reducible refine ((T1 _).out).mono ?_); rintro e w1 ⟨rfl, hb1⟩; clear tok1 _t; have hz1 := hb1.size; (try simp only [World.size_alloc, World.size_setCell, World.size_drew, World.size_drewN'] at hz1); (try (have kq := cellAt hb1 (w.heap.size) (by go_size); have k1_w_0_0 := kq 0; have k1_w_0_1 := kq 1; clear kq; have f1_w_0 := frozAt hb1 (w.heap.size) (by go_size); simp [go_sem, *] at k1_w_0_0 k1_w_0_1 f1_w_0)); (try have l1_w_0 : w.heap.size < w1.heap.size := by omega); (try (have kq := cellAt hb1 (w.heap.size + 1) (by go_size); have k1_w_1_0 := kq 0; have k1_w_1_1 := kq 1; have k1_w_1_2 := kq 2; clear kq; have f1_w_1 := frozAt hb1 (w.heap.size + 1) (by go_size); simp [go_sem, *] at k1_w_1_0 k1_w_1_1 k1_w_1_2 f1_w_1)); (try have l1_w_1 : w.heap.size + 1 < w1.heap.size := by omega))) | (first | (have _t := tok2; go_at_call 72; (with_reducible refine ((TR _)).mono ?_); rintro e w2 ⟨a2, m2, c2, rfl, hb2⟩; clear tok2 _t; have hz2 := hb2.size; (try simp only [World.size_alloc, World.size_setCell, World.size_drew, World.size_drewN'] at hz2); (try (have kq := cellAt hb2 (w.heap.size) (by go_size); have k2_w_0_0 := kq 0; have k2_w_0_1 := kq 1; clear kq; have f2_w_0 := frozAt hb2 (w.heap.size) (by go_size); simp [go_sem, *] at k2_w_0_0 k2_w_0_1 f2_w_0)); (try have l2_w_0 : w.heap.size < w2.heap.size := by omega); (try (have kq := cellAt hb2 (w.heap.size + 1) (by go_size); have k2_w_1_0 := kq 0; have k2_w_1_1 := kq 1; have k2_w_1_2 := kq 2; clear kq; have f2_w_1 := frozAt hb2 (w.heap.size + 1) (by go_size); simp [go_sem, *] at k2_w_1_0 k2_w_1_1 k2_w_1_2 f2_w_1)); (try have l2_w_1 : w.heap.size + 1 < w2.heap.size := by omega); (try clear k1_w_0_0 k1_w_0_1 f1_w_0); (try clear l1_w_0); (try clear k1_w_1_0 k1_w_1_1 k1_w_1_2 f1_w_1); (try clear l1_w_1))))
      go_ret2
      refine ⟨.slice none 0 0, w.heap.size, rfl, OwnI.nil _ _ _, Nat.le_refl _, ?_⟩
      repeat' first | (with_reducible first | apply zRf | assumption | apply zDn | apply zDr | apply zAl | apply zSt | refine zVi (by assumption) ?_ ?_) | go_size
    | bad =>
      have TR := fun W => (TR0 W).mono fun e w' h => h.bad hs
      rw [hs] at hcs
      obtain ⟨_, rfl, rfl⟩ : false = false ∧ ok = false ∧ zs = [] := by rcases hcs with h | h; exact h; cases h.1
      clear TR0 hs hcs
      have tok1 : True := trivial
      have tok2 : True := trivial
      go_enter Try.func27, Try.ntmps27
      go_wp2_with (first | (first | (have _t := tok1; go_at_call 71; (with_reducible refine ((T1 _).out).mono ?_); rintro e w1 ⟨rfl, hb1⟩; clear tok1 _t; have hz1 := hb1.size; (try simp only [World.size_alloc, World.size_setCell, World.size_drew, World.size_drewN'] at hz1); (try (have kq := cellAt hb1 (w.heap.size) (by go_size); have k1_w_0_0 := kq 0; have k1_w_0_1 := kq 1; clear kq; have f1_w_0 := frozAt hb1 (w.heap.size) (by go_size); simp [go_sem, *] at k1_w_0_0 k1_w_0_1 f1_w_0)); (try have l1_w_0 : w.heap.size < w1.heap.size := by omega); (try (have kq := cellAt hb1 (w.heap.size + 1) (by go_size); have k1_w_1_0 := kq 0; have k1_w_1_1 := kq 1; have k1_w_1_2 := kq 2; clear kq; have f1_w_1 := frozAt hb1 (w.heap.size + 1) (by go_size); simp [go_sem, *] at k1_w_1_0 k1_w_1_1 k1_w_1_2 f1_w_1)); (try have l1_w_1 : w.heap.size + 1 < w1.heap.size := by omega))) | (first | (have _t := tok2; go_at_call 72; (with_reducible refine ((TR _)).mono ?_); rintro e w2 ⟨a2, m2, c2, rfl, hm2, hb2⟩; clear tok2 _t; have hz2 := hb2.size; (try simp only [World.size_alloc, World.size_setCell, World.size_drew, World.size_drewN'] at hz2); (try (have kq := cellAt hb2 (w.heap.size) (by go_size); have k2_w_0_0 := kq 0; have k2_w_0_1 := kq 1; clear kq; have f2_w_0 := frozAt hb2 (w.heap.size) (by go_size); simp [go_sem, *] at k2_w_0_0 k2_w_0_1 f2_w_0)); (try have l2_w_0 : w.heap.size < w2.heap.size := by omega); (try (have kq := cellAt hb2 (w.heap.size + 1) (by go_size); have k2_w_1_0 := kq 0; have k2_w_1_1 := kq 1; have k2_w_1_2 := kq 2; clear kq; have f2_w_1 := frozAt hb2 (w.heap.size + 1) (by go_size); simp [go_sem, *] at k2_w_1_0 k2_w_1_1 k2_w_1_2 f2_w_1)); (try have l2_w_1 : w.heap.size + 1 < w2.heap.size := by omega); (try clear k1_w_0_0 k1_w_0_1 f1_w_0); (try clear l1_w_0); (try clear k1_w_1_0 k1_w_1_1 k1_w_1_2 f1_w_1); (try clear l1_w_1))))
      go_ret2
      refine ⟨.slice none 0 0, w.heap.size, rfl, OwnI.nil _ _ _, Nat.le_refl _, ?_⟩
      repeat' first | (with_reducible first | apply zRf | assumption | apply zDn | apply zDr | apply zAl | apply zSt | refine zVi (by assumption) ?_ ?_) | go_size
    | «at» p q =>
      have TR := fun W => (TR0 W).mono fun e w' h => h.row hs
      rw [hs] at hcs
      obtain ⟨_, rfl, rfl⟩ : true = true ∧ ok = true ∧ zs = baL st (m + 1) := by rcases hcs with h | h; cases h.1; exact h
      clear TR0 hs hcs
      have tok1 : True := trivial
      have tok2 : True := trivial
      have tok3 : True := trivial
      have tok4 : True := trivial
      have tok5 : True := trivial
      go_enter Try.func27, Try.ntmps27
      go_wp2_with (first | (first | (have _t := tok1; go_at_call 71; (with_reducible refine ((T1 _).out).mono ?_); rintro e w1 ⟨rfl, hb1⟩; clear tok1 _t; have hz1 := hb1.size; (try simp only [World.size_alloc, World.size_setCell, World.size_drew, World.size_drewN'] at hz1); (try (have kq := cellAt hb1 (w.heap.size) (by go_size); have k1_w_0_0 := kq 0; have k1_w_0_1 := kq 1; clear kq; have f1_w_0 := frozAt hb1 (w.heap.size) (by go_size); simp [go_sem, *] at k1_w_0_0 k1_w_0_1 f1_w_0)); (try have l1_w_0 : w.heap.size < w1.heap.size := by omega); (try (have kq := cellAt hb1 (w.heap.size + 1) (by go_size); have k1_w_1_0 := kq 0; have k1_w_1_1 := kq 1; have k1_w_1_2 := kq 2; clear kq; have f1_w_1 := frozAt hb1 (w.heap.size + 1) (by go_size); simp [go_sem, *] at k1_w_1_0 k1_w_1_1 k1_w_1_2 f1_w_1)); (try have l1_w_1 : w.heap.size + 1 < w1.heap.size := by omega))) | (first | (have _t := tok2; go_at_call 72; (with_reducible refine ((TR _)).mono ?_); rintro e w2 ⟨g, cap, zs2, rfl, hcap, hcm, hrow, hal, hzl, hb2⟩; clear tok2 _t; have hz2 := hb2.size; (try simp only [World.size_alloc, World.size_setCell, World.size_drew, World.size_drewN'] at hz2); (try (have kq := cellAt hb2 (w.heap.size) (by go_size); have k2_w_0_0 := kq 0; have k2_w_0_1 := kq 1; clear kq; have f2_w_0 := frozAt hb2 (w.heap.size) (by go_size); simp [go_sem, *] at k2_w_0_0 k2_w_0_1 f2_w_0)); (try have l2_w_0 : w.heap.size < w2.heap.size := by omega); (try (have kq := cellAt hb2 (w.heap.size + 1) (by go_size); have k2_w_1_0 := kq 0; have k2_w_1_1 := kq 1; have k2_w_1_2 := kq 2; clear kq; have f2_w_1 := frozAt hb2 (w.heap.size + 1) (by go_size); simp [go_sem, *] at k2_w_1_0 k2_w_1_1 k2_w_1_2 f2_w_1)); (try have l2_w_1 : w.heap.size + 1 < w2.heap.size := by omega); (try clear k1_w_0_0 k1_w_0_1 f1_w_0); (try clear l1_w_0); (try clear k1_w_1_0 k1_w_1_1 k1_w_1_2 f1_w_1); (try clear l1_w_1))))
      obtain ⟨BR, hrow⟩ := hrow
      have HROW := Lib.hid hrow
      have HAL := Lib.hid hal
      have HZL := Lib.hid hzl
      have HB2 : Below w.heap.size w w2 := by
        repeat' first | (with_reducible first | apply zRf | assumption | apply zDn | apply zDr | apply zAl | apply zSt | refine zVi (by assumption) ?_ ?_) | go_size
      have hs2 := HB2.size
      clear hrow hal hzl hb2 hb1 TR
      go_loopw [34, 10] (fun iv ov wr => BcRel w w2 st m iv ov wr) (fun iv _ _ => (m + 1 - intOf iv).toNat)
      case atStart => exact ⟨0, _, rfl, rfl, by omega, OwnI.nil _ _ _, Below.refl _ _, HB2⟩
      case round =>
        obtain ⟨k, v, rfl, rfl, hkm, ho, hb2r, hbw⟩ := hrel
        have HO0 := Lib.hid ho
        have hsr := hb2r.size
        clear ho
        by_cases hlt : k < m + 1
        · have hltc : (k : Int) < (m : Int) + 1 := by omega
          obtain ⟨hg2, b3, a3, n3, c3, b4, a4, n4, c4, k0, k1, k2, k3, ux, uz⟩ := (HROW.out.below hb2r).cells (i := k) (by rw [HZL.out]; exact hlt)
          have hst := HAL.out k (by rw [HZL.out]; exact hlt)
          generalize (zs2.getD k (0, 0)).1 = p1 at *
          generalize (zs2.getD k (0, 0)).2 = q1 at *
          have hrb := raB_bd (show raB p1 q1 = true by have := SK.out k; rw [hst] at this; exact this)
          have TB := fun W (g1 : Wx W b3 a3 n3 c3 p1) (g2 : Wx W b4 a4 n4 c4 q1) => xdBits_any b3 b4 a3 a4 n3 c3 n4 c4 p1 q1 W g1 g2 hrb.1 hrb.2.1
          have HBZ := Lib.hid (show baL st (k + 1) = baL st k ++ [bitsZ p1 q1] by simp [baL, hst, bitsOf])
          clear hst
          go_upto_region 10 with (fail)
          refine chk (fun W => Below w.heap.size w W ∧ W.heap[wr.heap.size]? = some (.cells #[.bool b3, .slice a3 n3 c3, .bool b4, .slice a4 n4 c4] 43 (0, 0)) ∧ Wx W b3 a3 n3 c3 p1 ∧ Wx W b4 a4 n4 c4 q1 ∧ Below wr.heap.size wr W) (by refine ⟨?_, ?_, ?_, ?_, ?_⟩ <;> (repeat' first | (with_reducible first | assumption | (apply Ne.symm; assumption) | apply Nat.le_refl | apply Nat.le_add_right | apply zL | apply zRf | apply Wx.box | apply Wx.box4 | apply zWa | apply Wx.drew | apply zWn | apply bx_drew | apply bx_drewN | apply bx_set2 | apply bx_set4 | apply bx_set1) | ((with_reducible apply bx_new); (focus (go_size; done))) | (with_reducible first | apply zOl | apply zFa | apply zDn | apply zDr | apply zAl | apply zSt | refine zVi (by assumption) ?_ ?_) | go_size | omega)) ?_
          try clear ux
          try clear uz
          rintro w3 ⟨hB3, H_L_3, ux', uz', hbr⟩
          obtain ⟨k_L_3_0, k_L_3_1, k_L_3_2, k_L_3_3, f_L_3, l_L_3⟩ := bk4 H_L_3
          replace H_L_3 := Lib.hid H_L_3
          have ux := ux'
          clear ux'
          have uz := uz'
          clear uz'
          clear k0 k1 k2 k3
          go_wp2_with (first | (first | (have _t := tok4; go_at_call 73; (with_reducible refine ((TB _ (ux.below (by repeat' first | (with_reducible first | apply zRf | assumption | apply zDn | apply zDr | apply zAl | apply zSt | refine zVi (by assumption) ?_ ?_) | go_size)) (uz.below (by repeat' first | (with_reducible first | apply zRf | assumption | apply zDn | apply zDr | apply zAl | apply zSt | refine zVi (by assumption) ?_ ?_) | go_size)))).mono ?_); rintro e w4 ⟨rfl, hb4⟩; clear tok4 _t; have hz4 := hb4.size; (try simp only [World.size_alloc, World.size_setCell, World.size_drew, World.size_drewN'] at hz4); (try (have kq := cellAt hb4 (wr.heap.size) (by go_size); have k4_wr_0_0 := kq 0; have k4_wr_0_1 := kq 1; have k4_wr_0_2 := kq 2; have k4_wr_0_3 := kq 3; clear kq; have f4_wr_0 := frozAt hb4 (wr.heap.size) (by go_size); simp [go_sem, *] at k4_wr_0_0 k4_wr_0_1 k4_wr_0_2 k4_wr_0_3 f4_wr_0)); (try have l4_wr_0 : wr.heap.size < w4.heap.size := by omega); (try clear k1_wr_0_0 k1_wr_0_1 k1_wr_0_2 k1_wr_0_3 f1_wr_0); (try clear l1_wr_0); (try clear k2_wr_0_0 k2_wr_0_1 k2_wr_0_2 k2_wr_0_3 f2_wr_0); (try clear l2_wr_0); (try clear k3_wr_0_0 k3_wr_0_1 k3_wr_0_2 k3_wr_0_3 f3_wr_0); (try clear l3_wr_0); have hbr4 := below_via hb4 hbr (by have := hbr.size; omega); have ho4 := HO0.out.below hbr4; unfold OwnI at ho4; rw [baL_len] at ho4; have HO := Lib.hid ho4; clear ho4)) | (first | (at_builtin; refine wpList_append_own_at _ rfl _ _ 32 rfl w2.heap.size 3 i0 (.int .i64 0) 1 8 Try.underlying32 hi iz0 iz1 iz2 rfl (by decide) v k _ rfl (HO.out.alloc _) ⟨w4.heap.size, 0, none⟩ 1 1 [_] rfl rfl (cell_one_new _ _ _) (by simp [Value.oneCell']) (by unfold maxLen; omega) (by omega) (by simp; omega) ?_; intro v1 w5 hv1 hg1 _ hat)))
          go_roundw
          case rel =>
            refine ⟨k + 1, v1, by go_num, rfl, by omega, ?_, ?_, ?_⟩
            · unfold OwnI
              rw [HBZ.out, ints_append, ints_one]
              simpa [baL_len] using hv1
            · exact (((hb2r.trans (hbr4.mono hsr))).alloc (by omega) _).grown hg1 (by simp; omega) (fun j h => by have := (HO.out.lt _ h).1; omega)
            · exact ((hbw.trans (hbr4.mono hbw.size)).alloc (by omega) _).grown hg1 (by simp; omega) (fun j h => by have := (HO.out.lt _ h).1; omega)
          case measure => simp [intOf]; omega
        · obtain rfl : k = m + 1 := by omega
          go_wp2_with fail
          go_ret2
          refine ⟨_, w2.heap.size, rfl, HO0.out, by omega, ?_⟩
          repeat' first | (with_reducible first | apply zRf | assumption | apply zDn | apply zDr | apply zAl | apply zSt | refine zVi (by assumption) ?_ ?_) | go_size
  · simp only [Bool.not_eq_true] at hag
    rw [hag] at T1
    have hcs : baB A B x y e n = false ∧ baV A B x y e n = [] := by
      rcases baV_cases A B x y e n with ⟨_, g1, g2⟩ | ⟨g0, ⟨_, g1, g2⟩ | ⟨_, ⟨_, g1, g2⟩ | ⟨g3, _⟩⟩⟩
      · exact ⟨g1, g2⟩
      · exact ⟨g1, g2⟩
      · exact ⟨g1, g2⟩
      · rw [g0, g3] at hag; cases hag
    rw [hcs.1, hcs.2]
    clear hcs hag
    have tok1 : True := trivial
    go_enter Try.func27, Try.ntmps27
    go_wp2_with (first | (have _t := tok1; go_at_call 71; (with_reducible refine ((T1 _).out).mono ?_); rintro e w1 ⟨rfl, hb1⟩; clear tok1 _t; have hz1 := hb1.size; (try simp only [World.size_alloc, World.size_setCell, World.size_drew, World.size_drewN'] at hz1); (try (have kq := cellAt hb1 (w.heap.size) (by go_size); have k1_w_0_0 := kq 0; have k1_w_0_1 := kq 1; clear kq; have f1_w_0 := frozAt hb1 (w.heap.size) (by go_size); simp [go_sem, *] at k1_w_0_0 k1_w_0_1 f1_w_0)); (try have l1_w_0 : w.heap.size < w1.heap.size := by omega); (try (have kq := cellAt hb1 (w.heap.size + 1) (by go_size); have k1_w_1_0 := kq 0; have k1_w_1_1 := kq 1; have k1_w_1_2 := kq 2; clear kq; have f1_w_1 := frozAt hb1 (w.heap.size + 1) (by go_size); simp [go_sem, *] at k1_w_1_0 k1_w_1_1 k1_w_1_2 f1_w_1)); (try have l1_w_1 : w.heap.size + 1 < w1.heap.size := by omega)))
    go_ret2
    refine ⟨.slice none 0 0, w.heap.size, rfl, OwnI.nil _ _ _, Nat.le_refl _, ?_⟩
    repeat' first | (with_reducible first | apply zRf | assumption | apply zDn | apply zDr | apply zAl | apply zSt | refine zVi (by assumption) ?_ ?_) | go_size
def tupAt (v : Value) (i : Nat) : Value := match v with
  | .tuple vs => vs.getD i undef
  | _ => undef
theorem tupAt0 (a b : Value) : tupAt (.tuple #[a, b]) 0 = a := rfl
theorem tupAt1 (a b : Value) : tupAt (.tuple #[a, b]) 1 = b := rfl
def openI (B0 : Nat) (zs : List Int) (ok : Bool) : St where
  ok v W := ∃ u B, v = .tuple #[u, .bool ok] ∧ OwnI W B 3 u zs ∧ B0 ≤ B
  keep v W W2 h hb := by
    obtain ⟨u, B, h1, h2, h3⟩ := h
    exact ⟨u, B, h1, h2.below hb, h3⟩
theorem open_I {f : FuncId} {args : Array Value} {W : World} {zs : List Int} {ok : Bool} {B0 : Nat} (h : Calls Try.prog f args W (NewI W zs ok)) (hB : B0 ≤ W.heap.size) : Calls Try.prog f args W fun e w' => ∃ v, e = .returned v ∧ (openI B0 zs ok).ok v w' ∧ Below W.heap.size W w' :=
  h.mono fun e w' ⟨v, B, h1, h2, h3, h4⟩ => ⟨_, h1, ⟨v, B, rfl, h2, Nat.le_trans hB h3⟩, h4⟩
theorem Sx.keepAll {W W2 : World} {a : Option Addr} {n c : Nat} {zs : List Int} (h : Sx W a n c zs) (hs : W.heap.size ≤ W2.heap.size) (hk : ∀ i, i < W.heap.size → W2.heap[i]? = W.heap[i]?) : Sx W2 a n c zs :=
  ⟨h.len, h.cap, h.max, h.nil, fun h0 => by
    obtain ⟨b, off, h1, h2, h3⟩ := h.row h0
    exact ⟨b, off, h1, Nat.lt_of_lt_of_le h2 hs, fun j hj => (World.cell?_of_block (a := ⟨b, off + j, Option.none⟩) (hk b h2)).trans (h3 j hj)⟩⟩
theorem FnExactBitsAlong_any (A B x y e n : Int) (w : World) : Calls Try.prog 5 #[.agg #[.int .i64 A, .int .i64 B], .agg #[.int .i64 x, .int .i64 y, .int .i64 e], .int .i64 n] w fun e w' => e = .returned (.bool true) ∧ Below w.heap.size w w' := by
  have CS := fun W : World => sBitsAlong_any A B x y e n W
  have CI := fun W : World => BitsAlong_any A B x y e n W
  have hzl : (baV A B x y e n).length ≤ 1000 := by
    rcases baV_cases A B x y e n with ⟨_, _, g⟩ | ⟨_, ⟨_, _, g⟩ | ⟨_, ⟨_, _, g⟩ | ⟨hk, ⟨_, _, g⟩ | ⟨_, _, g⟩⟩⟩⟩
    · rw [g]; simp
    · rw [g]; simp
    · rw [g]; simp
    · rw [g]; simp
    · rw [g, baL_len]; have := inB_iff.1 hk; omega
  generalize baV A B x y e n = zs at *
  generalize baB A B x y e n = ok at *
  have tok1 : True := trivial
  have tok2 : True := trivial
  have tok3 : True := trivial
  have tok4 : True := trivial
  have tok5 : True := trivial
  have tok6 : True := trivial
  have tok7 : True := trivial
  have tok8 : True := trivial
  have tok9 : True := trivial
  go_enter Try.func5, Try.ntmps5
  go_wp2_with fail
  refine wp_open (n := 10) (by kernel_rfl) (by kernel_rfl) (by kernel_rfl) (by kernel_rfl) ?_
  simp only [List.take_succ_cons, List.take_zero]
  apply wpS_quiet
  · intro γ W hW hp
    have hs := hW.size
    (try simp only [World.size_alloc, World.size_setCell, World.size_drew, World.size_drewN'] at hs)
    try (have kx_w_0_0 := fun x : Over W => (cellAt x.lies (w.heap.size) (by omega) 0).trans (cellAt hW (w.heap.size) (by go_size) 0); simp [go_sem, *] at kx_w_0_0)
    try (have kx_w_0_1 := fun x : Over W => (cellAt x.lies (w.heap.size) (by omega) 1).trans (cellAt hW (w.heap.size) (by go_size) 1); simp [go_sem, *] at kx_w_0_1)
    try (have kx_w_1_0 := fun x : Over W => (cellAt x.lies (w.heap.size + 1) (by omega) 0).trans (cellAt hW (w.heap.size + 1) (by go_size) 0); simp [go_sem, *] at kx_w_1_0)
    try (have kx_w_1_1 := fun x : Over W => (cellAt x.lies (w.heap.size + 1) (by omega) 1).trans (cellAt hW (w.heap.size + 1) (by go_size) 1); simp [go_sem, *] at kx_w_1_1)
    try (have kx_w_1_2 := fun x : Over W => (cellAt x.lies (w.heap.size + 1) (by omega) 2).trans (cellAt hW (w.heap.size + 1) (by go_size) 2); simp [go_sem, *] at kx_w_1_2)
    clear hW hp
    refine ⟨rfl, ?_⟩
    go_big_quiet_op
    first | exact rfl
  · exact locS_const _
  try simp only [Act.put, List.setIfInBounds_toArray, List.set_cons_succ, List.set_cons_zero, Nat.reduceAdd]
  apply wpS_quiet
  · intro γ W hW hp
    refine ⟨rfl, ?_⟩
    go_big_quiet_op
    apply Exists.intro
    refine ⟨fun x => ?_, ?_⟩
    · (first | (go_at_call 15; exact draw_of _ (toCurve_any _ _ _)) | (go_at_call 28; exact draw_of _ (toPoint_any _ _ _ _)))
    exact rfl
  · exact locS_const _
  try simp only [Act.put, List.setIfInBounds_toArray, List.set_cons_succ, List.set_cons_zero, Nat.reduceAdd]
  apply wpS_quiet
  · intro γ W hW hp
    have hs := hW.size
    (try simp only [World.size_alloc, World.size_setCell, World.size_drew, World.size_drewN'] at hs)
    try (have kx_w_0_0 := fun x : Over W => (cellAt x.lies (w.heap.size) (by omega) 0).trans (cellAt hW (w.heap.size) (by go_size) 0); simp [go_sem, *] at kx_w_0_0)
    try (have kx_w_0_1 := fun x : Over W => (cellAt x.lies (w.heap.size) (by omega) 1).trans (cellAt hW (w.heap.size) (by go_size) 1); simp [go_sem, *] at kx_w_0_1)
    try (have kx_w_1_0 := fun x : Over W => (cellAt x.lies (w.heap.size + 1) (by omega) 0).trans (cellAt hW (w.heap.size + 1) (by go_size) 0); simp [go_sem, *] at kx_w_1_0)
    try (have kx_w_1_1 := fun x : Over W => (cellAt x.lies (w.heap.size + 1) (by omega) 1).trans (cellAt hW (w.heap.size + 1) (by go_size) 1); simp [go_sem, *] at kx_w_1_1)
    try (have kx_w_1_2 := fun x : Over W => (cellAt x.lies (w.heap.size + 1) (by omega) 2).trans (cellAt hW (w.heap.size + 1) (by go_size) 2); simp [go_sem, *] at kx_w_1_2)
    clear hW hp
    refine ⟨rfl, ?_⟩
    go_big_quiet_op
    first | exact rfl
  · exact locS_const _
  try simp only [Act.put, List.setIfInBounds_toArray, List.set_cons_succ, List.set_cons_zero, Nat.reduceAdd]
  apply wpS_quiet
  · intro γ W hW hp
    refine ⟨rfl, ?_⟩
    go_big_quiet_op
    apply Exists.intro
    refine ⟨fun x => ?_, ?_⟩
    · (first | (go_at_call 15; exact draw_of _ (toCurve_any _ _ _)) | (go_at_call 28; exact draw_of _ (toPoint_any _ _ _ _)))
    exact rfl
  · exact locS_const _
  try simp only [Act.put, List.setIfInBounds_toArray, List.set_cons_succ, List.set_cons_zero, Nat.reduceAdd]
  apply wpS_quiet
  · intro γ W hW hp
    refine ⟨rfl, ?_⟩
    go_big_quiet_op
    first | exact rfl
  · exact locS_const _
  try simp only [Act.put, List.setIfInBounds_toArray, List.set_cons_succ, List.set_cons_zero, Nat.reduceAdd]
  apply wpS_open (openI w.heap.size zs ok)
  · intro γ W hW hp
    have kc_w_0 := cellAt hW (w.heap.size) (by go_size)
    try simp [go_sem, *] at kc_w_0
    have kc_w_1 := cellAt hW (w.heap.size + 1) (by go_size)
    try simp [go_sem, *] at kc_w_1
    refine ⟨rfl, ?_⟩
    go_simp
    refine plainNew rfl ?_
    exact open_I (CS _) (by (have := hW.size; (try simp only [World.size_alloc, World.size_setCell, World.size_drew, World.size_drewN'] at this); omega))
  try simp only [Act.put, List.setIfInBounds_toArray, List.set_cons_succ, List.set_cons_zero, Nat.reduceAdd]
  apply wpS_quiet
  · intro γ W hW hp
    have hp_5 := hp _ (List.mem_append_right _ (List.mem_singleton.2 rfl)) (by kernel_rfl)
    dsimp only at hp_5
    refine ⟨rfl, ?_⟩
    go_big_quiet_op
    first | exact rfl
  · intro γ k g hk
    have h_5 : updV γ k g 5 = γ 5 := updV_other γ g (fun e => by subst e; exact absurd hk (by rw [show reachB .any _ 100 6 5 = true from by kernel_rfl]; simp))
    first | rfl | simp only [h_5]
  try simp only [Act.put, List.setIfInBounds_toArray, List.set_cons_succ, List.set_cons_zero, Nat.reduceAdd]
  apply wpS_quiet (v := fun γ => tupAt (γ 5) 0)
  · intro γ W hW hp
    have hp_5 := hp _ (List.mem_append_right _ (List.mem_singleton.2 rfl)) (by kernel_rfl)
    dsimp only at hp_5
    obtain ⟨uA, bA, eA, -⟩ := hp_5
    refine ⟨rfl, ?_⟩
    simp only [eA]
    go_big_quiet_op
    first | exact rfl | simp [tupAt, eA]
  · intro γ k g hk
    have h_5 : updV γ k g 5 = γ 5 := updV_other γ g (fun e => by subst e; exact absurd hk (by rw [show reachB .any _ 100 7 5 = true from by kernel_rfl]; simp))
    simp only [h_5]
  try simp only [Act.put, List.setIfInBounds_toArray, List.set_cons_succ, List.set_cons_zero, Nat.reduceAdd]
  apply wpS_quiet (v := fun γ => tupAt (γ 5) 1)
  · intro γ W hW hp
    have hp_5 := hp _ (List.mem_append_right _ (List.mem_singleton.2 rfl)) (by kernel_rfl)
    dsimp only at hp_5
    obtain ⟨uA, bA, eA, -⟩ := hp_5
    refine ⟨rfl, ?_⟩
    simp only [eA]
    go_big_quiet_op
    first | exact rfl | simp [tupAt, eA]
  · intro γ k g hk
    have h_5 : updV γ k g 5 = γ 5 := updV_other γ g (fun e => by subst e; exact absurd hk (by rw [show reachB .any _ 100 8 5 = true from by kernel_rfl]; simp))
    simp only [h_5]
  try simp only [Act.put, List.setIfInBounds_toArray, List.set_cons_succ, List.set_cons_zero, Nat.reduceAdd]
  apply wpS_quiet
  · intro γ W hW hp
    have hp_5 := hp _ (List.mem_append_right _ (List.mem_singleton.2 rfl)) (by kernel_rfl)
    dsimp only at hp_5
    refine ⟨rfl, ?_⟩
    go_big_quiet_op
    first | exact rfl
  · intro γ k g hk
    have h_5 : updV γ k g 5 = γ 5 := updV_other γ g (fun e => by subst e; exact absurd hk (by rw [show reachB .any _ 100 9 5 = true from by kernel_rfl]; simp))
    first | rfl | simp only [h_5]
  try simp only [Act.put, List.setIfInBounds_toArray, List.set_cons_succ, List.set_cons_zero, Nat.reduceAdd]
  apply wpS_end
  intro γ w1 hb1 hG1 hA1
  have hg1_5 := hG1 _ (List.mem_append_right _ (List.mem_singleton.2 rfl))
  dsimp only at hg1_5
  clear hG1 hA1
  simp only [List.drop_succ_cons, List.drop_zero]
  have hz1 := hb1.size
  (try simp only [World.size_alloc, World.size_setCell, World.size_drew, World.size_drewN'] at hz1)
  (try (have kq := cellAt hb1 (w.heap.size) (by go_size); have k1_w_0_0 := kq 0; have k1_w_0_1 := kq 1; clear kq; have f1_w_0 := frozAt hb1 (w.heap.size) (by go_size); simp [go_sem, *] at k1_w_0_0 k1_w_0_1 f1_w_0))
  (try have l1_w_0 : w.heap.size < w1.heap.size := by omega)
  (try (have kq := cellAt hb1 (w.heap.size + 1) (by go_size); have k1_w_1_0 := kq 0; have k1_w_1_1 := kq 1; have k1_w_1_2 := kq 2; clear kq; have f1_w_1 := frozAt hb1 (w.heap.size + 1) (by go_size); simp [go_sem, *] at k1_w_1_0 k1_w_1_1 k1_w_1_2 f1_w_1))
  (try have l1_w_1 : w.heap.size + 1 < w1.heap.size := by omega)
  obtain ⟨u1, B1, e1, hu1, -⟩ := hg1_5
  simp only [e1, tupAt0, tupAt1]
  clear e1
  obtain ⟨a1, c1, rfl, hx1, hf1⟩ := Sx.of_owns hu1
  clear hu1
  have hlz : w.heap.size + 2 ≤ w1.heap.size := by have := hb1.size; simp at this; omega
  go_wp2_with fail
  refine wp_open (n := 10) (by kernel_rfl) (by kernel_rfl) (by kernel_rfl) (by kernel_rfl) ?_
  simp only [List.take_succ_cons, List.take_zero]
  apply wpS_quiet
  · intro γ W hW hp
    have hs := hW.size
    (try simp only [World.size_alloc, World.size_setCell, World.size_drew, World.size_drewN'] at hs)
    try (have kx_w_0_0 := fun x : Over W => (cellAt x.lies (w.heap.size) (by omega) 0).trans (cellAt hW (w.heap.size) (by go_size) 0); simp [go_sem, *] at kx_w_0_0)
    try (have kx_w_0_1 := fun x : Over W => (cellAt x.lies (w.heap.size) (by omega) 1).trans (cellAt hW (w.heap.size) (by go_size) 1); simp [go_sem, *] at kx_w_0_1)
    try (have kx_w_1_0 := fun x : Over W => (cellAt x.lies (w.heap.size + 1) (by omega) 0).trans (cellAt hW (w.heap.size + 1) (by go_size) 0); simp [go_sem, *] at kx_w_1_0)
    try (have kx_w_1_1 := fun x : Over W => (cellAt x.lies (w.heap.size + 1) (by omega) 1).trans (cellAt hW (w.heap.size + 1) (by go_size) 1); simp [go_sem, *] at kx_w_1_1)
    try (have kx_w_1_2 := fun x : Over W => (cellAt x.lies (w.heap.size + 1) (by omega) 2).trans (cellAt hW (w.heap.size + 1) (by go_size) 2); simp [go_sem, *] at kx_w_1_2)
    clear hW hp
    refine ⟨rfl, ?_⟩
    go_big_quiet_op
    first | exact rfl
  · exact locS_const _
  try simp only [Act.put, List.setIfInBounds_toArray, List.set_cons_succ, List.set_cons_zero, Nat.reduceAdd]
  apply wpS_quiet
  · intro γ W hW hp
    refine ⟨rfl, ?_⟩
    go_big_quiet_op
    apply Exists.intro
    refine ⟨fun x => ?_, ?_⟩
    · (first | (go_at_call 15; exact draw_of _ (toCurve_any _ _ _)) | (go_at_call 28; exact draw_of _ (toPoint_any _ _ _ _)))
    exact rfl
  · exact locS_const _
  try simp only [Act.put, List.setIfInBounds_toArray, List.set_cons_succ, List.set_cons_zero, Nat.reduceAdd]
  apply wpS_quiet
  · intro γ W hW hp
    have hs := hW.size
    (try simp only [World.size_alloc, World.size_setCell, World.size_drew, World.size_drewN'] at hs)
    try (have kx_w_0_0 := fun x : Over W => (cellAt x.lies (w.heap.size) (by omega) 0).trans (cellAt hW (w.heap.size) (by go_size) 0); simp [go_sem, *] at kx_w_0_0)
    try (have kx_w_0_1 := fun x : Over W => (cellAt x.lies (w.heap.size) (by omega) 1).trans (cellAt hW (w.heap.size) (by go_size) 1); simp [go_sem, *] at kx_w_0_1)
    try (have kx_w_1_0 := fun x : Over W => (cellAt x.lies (w.heap.size + 1) (by omega) 0).trans (cellAt hW (w.heap.size + 1) (by go_size) 0); simp [go_sem, *] at kx_w_1_0)
    try (have kx_w_1_1 := fun x : Over W => (cellAt x.lies (w.heap.size + 1) (by omega) 1).trans (cellAt hW (w.heap.size + 1) (by go_size) 1); simp [go_sem, *] at kx_w_1_1)
    try (have kx_w_1_2 := fun x : Over W => (cellAt x.lies (w.heap.size + 1) (by omega) 2).trans (cellAt hW (w.heap.size + 1) (by go_size) 2); simp [go_sem, *] at kx_w_1_2)
    clear hW hp
    refine ⟨rfl, ?_⟩
    go_big_quiet_op
    first | exact rfl
  · exact locS_const _
  try simp only [Act.put, List.setIfInBounds_toArray, List.set_cons_succ, List.set_cons_zero, Nat.reduceAdd]
  apply wpS_quiet
  · intro γ W hW hp
    refine ⟨rfl, ?_⟩
    go_big_quiet_op
    apply Exists.intro
    refine ⟨fun x => ?_, ?_⟩
    · (first | (go_at_call 15; exact draw_of _ (toCurve_any _ _ _)) | (go_at_call 28; exact draw_of _ (toPoint_any _ _ _ _)))
    exact rfl
  · exact locS_const _
  try simp only [Act.put, List.setIfInBounds_toArray, List.set_cons_succ, List.set_cons_zero, Nat.reduceAdd]
  apply wpS_quiet
  · intro γ W hW hp
    refine ⟨rfl, ?_⟩
    go_big_quiet_op
    first | exact rfl
  · exact locS_const _
  try simp only [Act.put, List.setIfInBounds_toArray, List.set_cons_succ, List.set_cons_zero, Nat.reduceAdd]
  apply wpS_open (openI w1.heap.size zs ok)
  · intro γ W hW hp
    have kc_w_0 := cellAt hW (w.heap.size) (by go_size)
    try simp [go_sem, *] at kc_w_0
    have kc_w_1 := cellAt hW (w.heap.size + 1) (by go_size)
    try simp [go_sem, *] at kc_w_1
    refine ⟨rfl, ?_⟩
    go_simp
    refine plainNew rfl ?_
    exact open_I (CI _) (by (have := hW.size; (try simp only [World.size_alloc, World.size_setCell, World.size_drew, World.size_drewN'] at this); omega))
  try simp only [Act.put, List.setIfInBounds_toArray, List.set_cons_succ, List.set_cons_zero, Nat.reduceAdd]
  apply wpS_quiet
  · intro γ W hW hp
    have hp_5 := hp _ (List.mem_append_right _ (List.mem_singleton.2 rfl)) (by kernel_rfl)
    dsimp only at hp_5
    refine ⟨rfl, ?_⟩
    go_big_quiet_op
    first | exact rfl
  · intro γ k g hk
    have h_5 : updV γ k g 5 = γ 5 := updV_other γ g (fun e => by subst e; exact absurd hk (by rw [show reachB .any _ 100 6 5 = true from by kernel_rfl]; simp))
    first | rfl | simp only [h_5]
  try simp only [Act.put, List.setIfInBounds_toArray, List.set_cons_succ, List.set_cons_zero, Nat.reduceAdd]
  apply wpS_quiet (v := fun γ => tupAt (γ 5) 0)
  · intro γ W hW hp
    have hp_5 := hp _ (List.mem_append_right _ (List.mem_singleton.2 rfl)) (by kernel_rfl)
    dsimp only at hp_5
    obtain ⟨uA, bA, eA, -⟩ := hp_5
    refine ⟨rfl, ?_⟩
    simp only [eA]
    go_big_quiet_op
    first | exact rfl | simp [tupAt, eA]
  · intro γ k g hk
    have h_5 : updV γ k g 5 = γ 5 := updV_other γ g (fun e => by subst e; exact absurd hk (by rw [show reachB .any _ 100 7 5 = true from by kernel_rfl]; simp))
    simp only [h_5]
  try simp only [Act.put, List.setIfInBounds_toArray, List.set_cons_succ, List.set_cons_zero, Nat.reduceAdd]
  apply wpS_quiet (v := fun γ => tupAt (γ 5) 1)
  · intro γ W hW hp
    have hp_5 := hp _ (List.mem_append_right _ (List.mem_singleton.2 rfl)) (by kernel_rfl)
    dsimp only at hp_5
    obtain ⟨uA, bA, eA, -⟩ := hp_5
    refine ⟨rfl, ?_⟩
    simp only [eA]
    go_big_quiet_op
    first | exact rfl | simp [tupAt, eA]
  · intro γ k g hk
    have h_5 : updV γ k g 5 = γ 5 := updV_other γ g (fun e => by subst e; exact absurd hk (by rw [show reachB .any _ 100 8 5 = true from by kernel_rfl]; simp))
    simp only [h_5]
  try simp only [Act.put, List.setIfInBounds_toArray, List.set_cons_succ, List.set_cons_zero, Nat.reduceAdd]
  apply wpS_quiet
  · intro γ W hW hp
    have hp_5 := hp _ (List.mem_append_right _ (List.mem_singleton.2 rfl)) (by kernel_rfl)
    dsimp only at hp_5
    refine ⟨rfl, ?_⟩
    go_big_quiet_op
    first | exact rfl
  · intro γ k g hk
    have h_5 : updV γ k g 5 = γ 5 := updV_other γ g (fun e => by subst e; exact absurd hk (by rw [show reachB .any _ 100 9 5 = true from by kernel_rfl]; simp))
    first | rfl | simp only [h_5]
  try simp only [Act.put, List.setIfInBounds_toArray, List.set_cons_succ, List.set_cons_zero, Nat.reduceAdd]
  apply wpS_end
  intro γ w2 hb2 hG2 hA2
  have hg2_5 := hG2 _ (List.mem_append_right _ (List.mem_singleton.2 rfl))
  dsimp only at hg2_5
  clear hG2 hA2
  simp only [List.drop_succ_cons, List.drop_zero]
  have hz2 := hb2.size
  (try simp only [World.size_alloc, World.size_setCell, World.size_drew, World.size_drewN'] at hz2)
  (try (have kq := cellAt hb2 (w.heap.size) (by go_size); have k2_w_0_0 := kq 0; have k2_w_0_1 := kq 1; clear kq; have f2_w_0 := frozAt hb2 (w.heap.size) (by go_size); simp [go_sem, *] at k2_w_0_0 k2_w_0_1 f2_w_0))
  (try have l2_w_0 : w.heap.size < w2.heap.size := by omega)
  (try (have kq := cellAt hb2 (w.heap.size + 1) (by go_size); have k2_w_1_0 := kq 0; have k2_w_1_1 := kq 1; have k2_w_1_2 := kq 2; clear kq; have f2_w_1 := frozAt hb2 (w.heap.size + 1) (by go_size); simp [go_sem, *] at k2_w_1_0 k2_w_1_1 k2_w_1_2 f2_w_1))
  (try have l2_w_1 : w.heap.size + 1 < w2.heap.size := by omega)
  (try clear k1_w_0_0 k1_w_0_1 f1_w_0)
  (try clear l1_w_0)
  (try clear k1_w_1_0 k1_w_1_1 k1_w_1_2 f1_w_1)
  (try clear l1_w_1)
  obtain ⟨u2, B2, e2, hu2, hB2⟩ := hg2_5
  simp only [e2, tupAt0, tupAt1]
  clear e2
  have HU2 := Lib.hid hu2
  obtain ⟨a2, c2, rfl, hx2, hf2⟩ := Sx.of_owns hu2
  clear hu2
  have hbb : (ok != ok) = false := by simp
  have hn0 : decide ((1 : Int) + (zs.length : Int) < 0) = false := by simp; omega
  have hqq : ((1 : Int) + (zs.length : Int) != (1 : Int) + (zs.length : Int)) = false := by simp
  go_wp2_with (first | (first | (have _t := tok3; go_at_call 30; refine (eqIntS_same (hx2.below (by repeat' first | (with_reducible first | apply zRf | assumption | apply zDn | apply zDr | apply zAl | apply zSt | refine zVi (by assumption) ?_ ?_) | go_size)) (hx1.below (by repeat' first | (with_reducible first | apply zRf | assumption | apply zDn | apply zDr | apply zAl | apply zSt | refine zVi (by assumption) ?_ ?_) | go_size))).mono ?_; rintro e w3 ⟨rfl, hb3⟩; clear tok3 _t; have hz3 := hb3.size; (try simp only [World.size_alloc, World.size_setCell, World.size_drew, World.size_drewN'] at hz3); (try (have kq := cellAt hb3 (w.heap.size) (by go_size); have k3_w_0_0 := kq 0; have k3_w_0_1 := kq 1; clear kq; have f3_w_0 := frozAt hb3 (w.heap.size) (by go_size); simp [go_sem, *] at k3_w_0_0 k3_w_0_1 f3_w_0)); (try have l3_w_0 : w.heap.size < w3.heap.size := by omega); (try (have kq := cellAt hb3 (w.heap.size + 1) (by go_size); have k3_w_1_0 := kq 0; have k3_w_1_1 := kq 1; have k3_w_1_2 := kq 2; clear kq; have f3_w_1 := frozAt hb3 (w.heap.size + 1) (by go_size); simp [go_sem, *] at k3_w_1_0 k3_w_1_1 k3_w_1_2 f3_w_1)); (try have l3_w_1 : w.heap.size + 1 < w3.heap.size := by omega); (try clear k1_w_0_0 k1_w_0_1 f1_w_0); (try clear l1_w_0); (try clear k1_w_1_0 k1_w_1_1 k1_w_1_2 f1_w_1); (try clear l1_w_1); (try clear k2_w_0_0 k2_w_0_1 f2_w_0); (try clear l2_w_0); (try clear k2_w_1_0 k2_w_1_1 k2_w_1_2 f2_w_1); (try clear l2_w_1))) | (first | (go_at_call 31; (with_reducible refine ((markIntS_any (HU2.out.below (by repeat' first | (with_reducible first | apply zRf | assumption | apply zDn | apply zDr | apply zAl | apply zSt | refine zVi (by assumption) ?_ ?_) | go_size)) (by omega) (by omega) (by omega))).mono ?_); rintro e w4 ⟨rfl, hmk, hgr⟩)))
  have s2 := hb2.size
  have s3 := hb3.size
  have h13 : Below w1.heap.size w1 w3 := below_via hb3 hb2 s2
  have hB1 : Below w.heap.size w w1 := by
    repeat' first | (with_reducible first | apply zRf | assumption | apply zDn | apply zDr | apply zAl | apply zSt | refine zVi (by assumption) ?_ ?_) | go_size
  have hB3 : Below w.heap.size w w3 := hB1.trans (h13.mono (by omega))
  have hs3 := h13.size
  have hfr : ∀ i, i < w1.heap.size → some i ≠ Value.ownBlock (.slice a2 zs.length c2) := fun i hi h => by
    cases a2 with
    | none => cases h
    | some D =>
      have h5 : i = D.block := by simpa [Value.ownBlock] using h
      have := hf2 D rfl
      omega
  have hold : ∀ i, i < w1.heap.size → w4.heap[i]? = w3.heap[i]? := fun i hi => hgr.block i (by omega) (hfr i hi)
  have hk4 : ∀ i, i < w1.heap.size → w4.heap[i]? = w1.heap[i]? := fun i hi => (hold i hi).trans (h13.block i hi)
  have hx1' := hx1.keepAll (Nat.le_trans hs3 hgr.size) hk4
  have hB4 : Below w.heap.size w w4 := hB3.grown hgr (by omega) (fun k e => by
    rcases Nat.lt_or_ge k w1.heap.size with h | h
    · exact absurd e.symm (hfr k h)
    · omega)
  obtain ⟨a4, c4, ev, hx4, -⟩ := Sx.of_owns hmk
  rw [marks_len] at ev hx4
  simp only [Value.slice.injEq, true_and] at ev
  obtain ⟨rfl, rfl⟩ := ev
  have k4_w_0_0 := (World.cell?_of_block (a := ⟨w.heap.size, 0, none⟩) (hold w.heap.size (by omega))).trans k3_w_0_0
  have k4_w_0_1 := (World.cell?_of_block (a := ⟨w.heap.size, 1, none⟩) (hold w.heap.size (by omega))).trans k3_w_0_1
  have k4_w_1_0 := (World.cell?_of_block (a := ⟨w.heap.size + 1, 0, none⟩) (hold (w.heap.size + 1) (by omega))).trans k3_w_1_0
  have k4_w_1_1 := (World.cell?_of_block (a := ⟨w.heap.size + 1, 1, none⟩) (hold (w.heap.size + 1) (by omega))).trans k3_w_1_1
  have k4_w_1_2 := (World.cell?_of_block (a := ⟨w.heap.size + 1, 2, none⟩) (hold (w.heap.size + 1) (by omega))).trans k3_w_1_2
  have f4_w_0 : ∀ o, w4.frozen? ⟨w.heap.size, o, none⟩ = false := fun o => (World.frozen?_of_block (a := ⟨w.heap.size, o, none⟩) (hold w.heap.size (by omega))).trans (f3_w_0 o)
  have f4_w_1 : ∀ o, w4.frozen? ⟨w.heap.size + 1, o, none⟩ = false := fun o => (World.frozen?_of_block (a := ⟨w.heap.size + 1, o, none⟩) (hold (w.heap.size + 1) (by omega))).trans (f3_w_1 o)
  have hs4 := hB4.size
  have hs14 := Nat.le_trans hs3 hgr.size
  clear hold hk4 hfr hgr hmk h13 hB3 hB1 hx1 hx2 HU2 hb1 hb2 hb3 k3_w_0_0 k3_w_0_1 k3_w_1_0 k3_w_1_1 k3_w_1_2 f3_w_0 f3_w_1
  have hx1 := hx1'
  clear hx1'
  go_wp2_with (first | (have _t := tok5; go_at_call 32; refine (heldIntS_any hx4 (by omega) (by omega) (by omega)).mono ?_; rintro e w5 ⟨rfl, hb5⟩; clear tok5 _t; have hz5 := hb5.size; (try simp only [World.size_alloc, World.size_setCell, World.size_drew, World.size_drewN'] at hz5); (try (have kq := cellAt hb5 (w.heap.size) (by go_size); have k5_w_0_0 := kq 0; have k5_w_0_1 := kq 1; clear kq; have f5_w_0 := frozAt hb5 (w.heap.size) (by go_size); simp [go_sem, *] at k5_w_0_0 k5_w_0_1 f5_w_0)); (try have l5_w_0 : w.heap.size < w5.heap.size := by omega); (try (have kq := cellAt hb5 (w.heap.size + 1) (by go_size); have k5_w_1_0 := kq 0; have k5_w_1_1 := kq 1; have k5_w_1_2 := kq 2; clear kq; have f5_w_1 := frozAt hb5 (w.heap.size + 1) (by go_size); simp [go_sem, *] at k5_w_1_0 k5_w_1_1 k5_w_1_2 f5_w_1)); (try have l5_w_1 : w.heap.size + 1 < w5.heap.size := by omega); (try clear k1_w_0_0 k1_w_0_1 f1_w_0); (try clear l1_w_0); (try clear k1_w_1_0 k1_w_1_1 k1_w_1_2 f1_w_1); (try clear l1_w_1); (try clear k2_w_0_0 k2_w_0_1 f2_w_0); (try clear l2_w_0); (try clear k2_w_1_0 k2_w_1_1 k2_w_1_2 f2_w_1); (try clear l2_w_1); (try clear k3_w_0_0 k3_w_0_1 f3_w_0); (try clear l3_w_0); (try clear k3_w_1_0 k3_w_1_1 k3_w_1_2 f3_w_1); (try clear l3_w_1); (try clear k4_w_0_0 k4_w_0_1 f4_w_0); (try clear l4_w_0); (try clear k4_w_1_0 k4_w_1_1 k4_w_1_2 f4_w_1); (try clear l4_w_1)))
  refine wp_open (n := 10) (by kernel_rfl) (by kernel_rfl) (by kernel_rfl) (by kernel_rfl) ?_
  simp only [List.take_succ_cons, List.take_zero]
  apply wpS_quiet
  · intro γ W hW hp
    have hs := hW.size
    (try simp only [World.size_alloc, World.size_setCell, World.size_drew, World.size_drewN'] at hs)
    try (have kx_w_0_0 := fun x : Over W => (cellAt x.lies (w.heap.size) (by omega) 0).trans (cellAt hW (w.heap.size) (by go_size) 0); simp [go_sem, *] at kx_w_0_0)
    try (have kx_w_0_1 := fun x : Over W => (cellAt x.lies (w.heap.size) (by omega) 1).trans (cellAt hW (w.heap.size) (by go_size) 1); simp [go_sem, *] at kx_w_0_1)
    try (have kx_w_1_0 := fun x : Over W => (cellAt x.lies (w.heap.size + 1) (by omega) 0).trans (cellAt hW (w.heap.size + 1) (by go_size) 0); simp [go_sem, *] at kx_w_1_0)
    try (have kx_w_1_1 := fun x : Over W => (cellAt x.lies (w.heap.size + 1) (by omega) 1).trans (cellAt hW (w.heap.size + 1) (by go_size) 1); simp [go_sem, *] at kx_w_1_1)
    try (have kx_w_1_2 := fun x : Over W => (cellAt x.lies (w.heap.size + 1) (by omega) 2).trans (cellAt hW (w.heap.size + 1) (by go_size) 2); simp [go_sem, *] at kx_w_1_2)
    clear hW hp
    refine ⟨rfl, ?_⟩
    go_big_quiet_op
    first | exact rfl
  · exact locS_const _
  try simp only [Act.put, List.setIfInBounds_toArray, List.set_cons_succ, List.set_cons_zero, Nat.reduceAdd]
  apply wpS_quiet
  · intro γ W hW hp
    refine ⟨rfl, ?_⟩
    go_big_quiet_op
    apply Exists.intro
    refine ⟨fun x => ?_, ?_⟩
    · (first | (go_at_call 15; exact draw_of _ (toCurve_any _ _ _)) | (go_at_call 28; exact draw_of _ (toPoint_any _ _ _ _)))
    exact rfl
  · exact locS_const _
  try simp only [Act.put, List.setIfInBounds_toArray, List.set_cons_succ, List.set_cons_zero, Nat.reduceAdd]
  apply wpS_quiet
  · intro γ W hW hp
    have hs := hW.size
    (try simp only [World.size_alloc, World.size_setCell, World.size_drew, World.size_drewN'] at hs)
    try (have kx_w_0_0 := fun x : Over W => (cellAt x.lies (w.heap.size) (by omega) 0).trans (cellAt hW (w.heap.size) (by go_size) 0); simp [go_sem, *] at kx_w_0_0)
    try (have kx_w_0_1 := fun x : Over W => (cellAt x.lies (w.heap.size) (by omega) 1).trans (cellAt hW (w.heap.size) (by go_size) 1); simp [go_sem, *] at kx_w_0_1)
    try (have kx_w_1_0 := fun x : Over W => (cellAt x.lies (w.heap.size + 1) (by omega) 0).trans (cellAt hW (w.heap.size + 1) (by go_size) 0); simp [go_sem, *] at kx_w_1_0)
    try (have kx_w_1_1 := fun x : Over W => (cellAt x.lies (w.heap.size + 1) (by omega) 1).trans (cellAt hW (w.heap.size + 1) (by go_size) 1); simp [go_sem, *] at kx_w_1_1)
    try (have kx_w_1_2 := fun x : Over W => (cellAt x.lies (w.heap.size + 1) (by omega) 2).trans (cellAt hW (w.heap.size + 1) (by go_size) 2); simp [go_sem, *] at kx_w_1_2)
    clear hW hp
    refine ⟨rfl, ?_⟩
    go_big_quiet_op
    first | exact rfl
  · exact locS_const _
  try simp only [Act.put, List.setIfInBounds_toArray, List.set_cons_succ, List.set_cons_zero, Nat.reduceAdd]
  apply wpS_quiet
  · intro γ W hW hp
    refine ⟨rfl, ?_⟩
    go_big_quiet_op
    apply Exists.intro
    refine ⟨fun x => ?_, ?_⟩
    · (first | (go_at_call 15; exact draw_of _ (toCurve_any _ _ _)) | (go_at_call 28; exact draw_of _ (toPoint_any _ _ _ _)))
    exact rfl
  · exact locS_const _
  try simp only [Act.put, List.setIfInBounds_toArray, List.set_cons_succ, List.set_cons_zero, Nat.reduceAdd]
  apply wpS_quiet
  · intro γ W hW hp
    refine ⟨rfl, ?_⟩
    go_big_quiet_op
    first | exact rfl
  · exact locS_const _
  try simp only [Act.put, List.setIfInBounds_toArray, List.set_cons_succ, List.set_cons_zero, Nat.reduceAdd]
  apply wpS_open (openI w5.heap.size zs ok)
  · intro γ W hW hp
    have kc_w_0 := cellAt hW (w.heap.size) (by go_size)
    try simp [go_sem, *] at kc_w_0
    have kc_w_1 := cellAt hW (w.heap.size + 1) (by go_size)
    try simp [go_sem, *] at kc_w_1
    refine ⟨rfl, ?_⟩
    go_simp
    refine plainNew rfl ?_
    exact open_I (CI _) (by (have := hW.size; (try simp only [World.size_alloc, World.size_setCell, World.size_drew, World.size_drewN'] at this); omega))
  try simp only [Act.put, List.setIfInBounds_toArray, List.set_cons_succ, List.set_cons_zero, Nat.reduceAdd]
  apply wpS_quiet
  · intro γ W hW hp
    have hp_5 := hp _ (List.mem_append_right _ (List.mem_singleton.2 rfl)) (by kernel_rfl)
    dsimp only at hp_5
    refine ⟨rfl, ?_⟩
    go_big_quiet_op
    first | exact rfl
  · intro γ k g hk
    have h_5 : updV γ k g 5 = γ 5 := updV_other γ g (fun e => by subst e; exact absurd hk (by rw [show reachB .any _ 100 6 5 = true from by kernel_rfl]; simp))
    first | rfl | simp only [h_5]
  try simp only [Act.put, List.setIfInBounds_toArray, List.set_cons_succ, List.set_cons_zero, Nat.reduceAdd]
  apply wpS_quiet (v := fun γ => tupAt (γ 5) 0)
  · intro γ W hW hp
    have hp_5 := hp _ (List.mem_append_right _ (List.mem_singleton.2 rfl)) (by kernel_rfl)
    dsimp only at hp_5
    obtain ⟨uA, bA, eA, -⟩ := hp_5
    refine ⟨rfl, ?_⟩
    simp only [eA]
    go_big_quiet_op
    first | exact rfl | simp [tupAt, eA]
  · intro γ k g hk
    have h_5 : updV γ k g 5 = γ 5 := updV_other γ g (fun e => by subst e; exact absurd hk (by rw [show reachB .any _ 100 7 5 = true from by kernel_rfl]; simp))
    simp only [h_5]
  try simp only [Act.put, List.setIfInBounds_toArray, List.set_cons_succ, List.set_cons_zero, Nat.reduceAdd]
  apply wpS_quiet (v := fun γ => tupAt (γ 5) 1)
  · intro γ W hW hp
    have hp_5 := hp _ (List.mem_append_right _ (List.mem_singleton.2 rfl)) (by kernel_rfl)
    dsimp only at hp_5
    obtain ⟨uA, bA, eA, -⟩ := hp_5
    refine ⟨rfl, ?_⟩
    simp only [eA]
    go_big_quiet_op
    first | exact rfl | simp [tupAt, eA]
  · intro γ k g hk
    have h_5 : updV γ k g 5 = γ 5 := updV_other γ g (fun e => by subst e; exact absurd hk (by rw [show reachB .any _ 100 8 5 = true from by kernel_rfl]; simp))
    simp only [h_5]
  try simp only [Act.put, List.setIfInBounds_toArray, List.set_cons_succ, List.set_cons_zero, Nat.reduceAdd]
  apply wpS_quiet
  · intro γ W hW hp
    have hp_5 := hp _ (List.mem_append_right _ (List.mem_singleton.2 rfl)) (by kernel_rfl)
    dsimp only at hp_5
    refine ⟨rfl, ?_⟩
    go_big_quiet_op
    first | exact rfl
  · intro γ k g hk
    have h_5 : updV γ k g 5 = γ 5 := updV_other γ g (fun e => by subst e; exact absurd hk (by rw [show reachB .any _ 100 9 5 = true from by kernel_rfl]; simp))
    first | rfl | simp only [h_5]
  try simp only [Act.put, List.setIfInBounds_toArray, List.set_cons_succ, List.set_cons_zero, Nat.reduceAdd]
  apply wpS_end
  intro γ w6 hb6 hG6 hA6
  have hg6_5 := hG6 _ (List.mem_append_right _ (List.mem_singleton.2 rfl))
  dsimp only at hg6_5
  clear hG6 hA6
  simp only [List.drop_succ_cons, List.drop_zero]
  have hz6 := hb6.size
  (try simp only [World.size_alloc, World.size_setCell, World.size_drew, World.size_drewN'] at hz6)
  (try (have kq := cellAt hb6 (w.heap.size) (by go_size); have k6_w_0_0 := kq 0; have k6_w_0_1 := kq 1; clear kq; have f6_w_0 := frozAt hb6 (w.heap.size) (by go_size); simp [go_sem, *] at k6_w_0_0 k6_w_0_1 f6_w_0))
  (try have l6_w_0 : w.heap.size < w6.heap.size := by omega)
  (try (have kq := cellAt hb6 (w.heap.size + 1) (by go_size); have k6_w_1_0 := kq 0; have k6_w_1_1 := kq 1; have k6_w_1_2 := kq 2; clear kq; have f6_w_1 := frozAt hb6 (w.heap.size + 1) (by go_size); simp [go_sem, *] at k6_w_1_0 k6_w_1_1 k6_w_1_2 f6_w_1))
  (try have l6_w_1 : w.heap.size + 1 < w6.heap.size := by omega)
  (try clear k2_w_0_0 k2_w_0_1 f2_w_0)
  (try clear l2_w_0)
  (try clear k2_w_1_0 k2_w_1_1 k2_w_1_2 f2_w_1)
  (try clear l2_w_1)
  (try clear k3_w_0_0 k3_w_0_1 f3_w_0)
  (try clear l3_w_0)
  (try clear k3_w_1_0 k3_w_1_1 k3_w_1_2 f3_w_1)
  (try clear l3_w_1)
  (try clear k4_w_0_0 k4_w_0_1 f4_w_0)
  (try clear l4_w_0)
  (try clear k4_w_1_0 k4_w_1_1 k4_w_1_2 f4_w_1)
  (try clear l4_w_1)
  (try clear k5_w_0_0 k5_w_0_1 f5_w_0)
  (try clear l5_w_0)
  (try clear k5_w_1_0 k5_w_1_1 k5_w_1_2 f5_w_1)
  (try clear l5_w_1)
  obtain ⟨u3, B3, e3, hu3, hB3⟩ := hg6_5
  simp only [e3, tupAt0, tupAt1]
  clear e3
  obtain ⟨a3, c3, rfl, hx3, hf3⟩ := Sx.of_owns hu3
  clear hu3
  go_wp2_with (first | (have _t := tok7; go_at_call 30; refine (eqIntS_same (hx3.below (by repeat' first | (with_reducible first | apply zRf | assumption | apply zDn | apply zDr | apply zAl | apply zSt | refine zVi (by assumption) ?_ ?_) | go_size)) (hx1.below (by repeat' first | (with_reducible first | apply zRf | assumption | apply zDn | apply zDr | apply zAl | apply zSt | refine zVi (by assumption) ?_ ?_) | go_size))).mono ?_; rintro e w7 ⟨rfl, hb7⟩; clear tok7 _t; have hz7 := hb7.size; (try simp only [World.size_alloc, World.size_setCell, World.size_drew, World.size_drewN'] at hz7); (try (have kq := cellAt hb7 (w.heap.size) (by go_size); have k7_w_0_0 := kq 0; have k7_w_0_1 := kq 1; clear kq; have f7_w_0 := frozAt hb7 (w.heap.size) (by go_size); simp [go_sem, *] at k7_w_0_0 k7_w_0_1 f7_w_0)); (try have l7_w_0 : w.heap.size < w7.heap.size := by omega); (try (have kq := cellAt hb7 (w.heap.size + 1) (by go_size); have k7_w_1_0 := kq 0; have k7_w_1_1 := kq 1; have k7_w_1_2 := kq 2; clear kq; have f7_w_1 := frozAt hb7 (w.heap.size + 1) (by go_size); simp [go_sem, *] at k7_w_1_0 k7_w_1_1 k7_w_1_2 f7_w_1)); (try have l7_w_1 : w.heap.size + 1 < w7.heap.size := by omega); (try clear k3_w_0_0 k3_w_0_1 f3_w_0); (try clear l3_w_0); (try clear k3_w_1_0 k3_w_1_1 k3_w_1_2 f3_w_1); (try clear l3_w_1); (try clear k4_w_0_0 k4_w_0_1 f4_w_0); (try clear l4_w_0); (try clear k4_w_1_0 k4_w_1_1 k4_w_1_2 f4_w_1); (try clear l4_w_1); (try clear k5_w_0_0 k5_w_0_1 f5_w_0); (try clear l5_w_0); (try clear k5_w_1_0 k5_w_1_1 k5_w_1_2 f5_w_1); (try clear l5_w_1); (try clear k6_w_0_0 k6_w_0_1 f6_w_0); (try clear l6_w_0); (try clear k6_w_1_0 k6_w_1_1 k6_w_1_2 f6_w_1); (try clear l6_w_1)) | (have _t := tok8; go_at_call 32; refine (heldIntS_any (hx4.below (by repeat' first | (with_reducible first | apply zRf | assumption | apply zDn | apply zDr | apply zAl | apply zSt | refine zVi (by assumption) ?_ ?_) | go_size)) (by omega) (by omega) (by omega)).mono ?_; rintro e w8 ⟨rfl, hb8⟩; clear tok8 _t; have hz8 := hb8.size; (try simp only [World.size_alloc, World.size_setCell, World.size_drew, World.size_drewN'] at hz8); (try (have kq := cellAt hb8 (w.heap.size) (by go_size); have k8_w_0_0 := kq 0; have k8_w_0_1 := kq 1; clear kq; have f8_w_0 := frozAt hb8 (w.heap.size) (by go_size); simp [go_sem, *] at k8_w_0_0 k8_w_0_1 f8_w_0)); (try have l8_w_0 : w.heap.size < w8.heap.size := by omega); (try (have kq := cellAt hb8 (w.heap.size + 1) (by go_size); have k8_w_1_0 := kq 0; have k8_w_1_1 := kq 1; have k8_w_1_2 := kq 2; clear kq; have f8_w_1 := frozAt hb8 (w.heap.size + 1) (by go_size); simp [go_sem, *] at k8_w_1_0 k8_w_1_1 k8_w_1_2 f8_w_1)); (try have l8_w_1 : w.heap.size + 1 < w8.heap.size := by omega); (try clear k4_w_0_0 k4_w_0_1 f4_w_0); (try clear l4_w_0); (try clear k4_w_1_0 k4_w_1_1 k4_w_1_2 f4_w_1); (try clear l4_w_1); (try clear k5_w_0_0 k5_w_0_1 f5_w_0); (try clear l5_w_0); (try clear k5_w_1_0 k5_w_1_1 k5_w_1_2 f5_w_1); (try clear l5_w_1); (try clear k6_w_0_0 k6_w_0_1 f6_w_0); (try clear l6_w_0); (try clear k6_w_1_0 k6_w_1_1 k6_w_1_2 f6_w_1); (try clear l6_w_1); (try clear k7_w_0_0 k7_w_0_1 f7_w_0); (try clear l7_w_0); (try clear k7_w_1_0 k7_w_1_1 k7_w_1_2 f7_w_1); (try clear l7_w_1)))
  go_ret
  refine ⟨rfl, ?_⟩
  repeat' first | (with_reducible first | apply zRf | assumption | apply zDn | apply zDr | apply zAl | apply zSt | refine zVi (by assumption) ?_ ?_) | go_size
end Go.Proofs.Ytfbegjiebahdcaa
