/- The walk of the law on DoublingsOf. -/
import Derived.Test.YtijpfnkhaldfeaaDl1
import Derived.Test.YtijpfnkhaldfeaaMkA
import Derived.Test.YtijpfnkhaldfeaaToL
namespace Go.Proofs.Ytijpfnkhaldfeaa
open Go.RowKit
set_option linter.unusedVariables false
set_option maxHeartbeats 4000000
set_option maxRecDepth 20000
set_option linter.unusedSimpArgs false
attribute [local go_sem] openAt openUpon
/-- all doubled ratios are valid -/
theorem dl_ra {N A B : Int} : ∀ (n : Nat) (x z : Int) (l : List (Int × Int)), dlV N A B n x z = some l → ∀ p ∈ l, raB p.1 p.2 = true
  | 0, x, z, l, h => by simp only [dlV, Option.some.injEq] at h; subst h; intro p hp; cases hp
  | n + 1, x, z, l, h => by
    simp only [dlV] at h
    split at h
    · next hd =>
      obtain ⟨l', h1, rfl⟩ := Option.map_eq_some_iff.1 h
      intro p hp
      rcases List.mem_cons.1 hp with rfl | hp
      · rcases dbl_cases N A B x z with e | ⟨p, q, e, hr⟩
        · rw [e] at hd; cases hd
        · rw [e]; exact hr
      · exact dl_ra n _ _ l' h1 p hp
    · cases h
theorem doV_bd (A B : Int) (b : Bool) (zs : List Int) (b2 : Bool) (ys : List Int) (m : Int) : (dlR (doV A B b zs b2 ys m)).1.length ≤ 5 ∧ ∀ j, j < 2 * (dlR (doV A B b zs b2 ys m)).1.length → (rvL (dlR (doV A B b zs b2 ys m)).1 j).2.length ≤ 80 := by
  cases hd : doV A B b zs b2 ys m with
  | none => exact ⟨by simp [dlR], fun j hj => absurd hj (by simp [dlR])⟩
  | some l =>
    unfold doV at hd
    split at hd
    · next hc =>
      have hm := inB_iff.1 hc.2.2
      have h1 := dl_len _ _ _ _ hd
      have h2 := dl_ra _ _ _ _ hd
      simp only [dlR]
      refine ⟨by omega, fun j hj => ?_⟩
      have hlt : j / 2 < l.length := by omega
      have h3 := raB_bd (h2 _ (List.getElem_mem hlt))
      unfold rvL
      rw [List.getD_eq_getElem?_getD, List.getElem?_eq_getElem hlt, Option.getD_some]
      split
      · exact h3.1
      · exact h3.2.1
    · cases hd
theorem FnExactDoublingsOf_any (A B : Int) (b : Bool) (a : Option Addr) (n c : Nat) (zs : List Int) (b2 : Bool) (a2 : Option Addr) (n2 c2 : Nat) (ys : List Int) (m : Int) (w : World) (h : Sx w a n c zs) (h2 : Sx w a2 n2 c2 ys) :
    Calls Try.prog 3 #[.agg #[.int .i64 A, .int .i64 B], .agg #[.bool b, .slice a n c, .bool b2, .slice a2 n2 c2], .int .i64 m] w fun e w' => e = .returned (.bool true) ∧ Below w.heap.size w w' := by
  have hlm : n ≤ 9223372036854775807 := by have := h.cap; have := h.max; unfold maxLen at this; omega
  have hlm2 : n2 ≤ 9223372036854775807 := by have := h2.cap; have := h2.max; unfold maxLen at this; omega
  have T1 := fun W : World => Lib.hid (szRatio_any b b2 a a2 n c n2 c2 1048576 W hlm hlm2 (by omega) (by omega))
  by_cases hl : szR 1048576 n n2 < 0
  · generalize szR 1048576 n n2 = v at *
    have hd : decide (v < 0) = true := by simpa using hl
    clear hlm hlm2 h h2
    have tok1 : True := trivial
    have tok2 : True := trivial
    have tok3 : True := trivial
    have tok4 : True := trivial
    have tok5 : True := trivial
    have tok6 : True := trivial
    have tok7 : True := trivial
    have tok8 : True := trivial
    have tok9 : True := trivial
    have tok10 : True := trivial
    have tok11 : True := trivial
    have tok12 : True := trivial
    have tok13 : True := trivial
    have tok14 : True := trivial
    have tok15 : True := trivial
    have tok16 : True := trivial
    have tok17 : True := trivial
    have tok18 : True := trivial
    have tok19 : True := trivial
    have tok20 : True := trivial
    have tok21 : True := trivial
    have tok22 : True := trivial
    have tok23 : True := trivial
    have tok24 : True := trivial
    have tok25 : True := trivial
    have tok26 : True := trivial
    have tok27 : True := trivial
    have tok28 : True := trivial
    have tok29 : True := trivial
    have tok30 : True := trivial
    have tok31 : True := trivial
    have tok32 : True := trivial
    have tok33 : True := trivial
    have tok34 : True := trivial
    have tok35 : True := trivial
    have tok36 : True := trivial
    have tok37 : True := trivial
    have tok38 : True := trivial
    have tok39 : True := trivial
    have tok40 : True := trivial
    have tok41 : True := trivial
    have tok42 : True := trivial
    have tok43 : True := trivial
    have tok44 : True := trivial
    have tok45 : True := trivial
    have tok46 : True := trivial
    have tok47 : True := trivial
    have tok48 : True := trivial
    have tok49 : True := trivial
    have tok50 : True := trivial
    have tok51 : True := trivial
    have tok52 : True := trivial
    have tok53 : True := trivial
    have tok54 : True := trivial
    have tok55 : True := trivial
    have tok56 : True := trivial
    have tok57 : True := trivial
    have tok58 : True := trivial
    have tok59 : True := trivial
    have tok60 : True := trivial
    go_enter Try.func3, Try.ntmps3
    go_wp2_with (first | (first | (have _t := tok1; go_at_call 4; (with_reducible refine ((T1 _).out).mono ?_); rintro e w1 ⟨rfl, hb1⟩; clear tok1 _t; have hz1 := hb1.size; (try simp only [World.size_alloc, World.size_setCell, World.size_drew, World.size_drewN'] at hz1); (try (have kq := cellAt hb1 (w.heap.size) (by go_size); have k1_w_0_0 := kq 0; have k1_w_0_1 := kq 1; clear kq; have f1_w_0 := frozAt hb1 (w.heap.size) (by go_size); simp [go_sem, *] at k1_w_0_0 k1_w_0_1 f1_w_0)); (try have l1_w_0 : w.heap.size < w1.heap.size := by omega); (try (have kq := cellAt hb1 (w.heap.size + 1) (by go_size); have k1_w_1_0 := kq 0; have k1_w_1_1 := kq 1; have k1_w_1_2 := kq 2; have k1_w_1_3 := kq 3; clear kq; have f1_w_1 := frozAt hb1 (w.heap.size + 1) (by go_size); simp [go_sem, *] at k1_w_1_0 k1_w_1_1 k1_w_1_2 k1_w_1_3 f1_w_1)); (try have l1_w_1 : w.heap.size + 1 < w1.heap.size := by omega))))
    go_ret
    refine ⟨rfl, ?_⟩
    repeat' first | (with_reducible first | apply zRf | assumption | apply zDn | apply zDr | apply zAl | apply zSt | refine zVi (by assumption) ?_ ?_) | go_size
  · have hn : n ≤ 1048576 ∧ n2 ≤ 1048576 ∧ n + n2 ≤ 1048576 := by
      unfold szR at hl
      split at hl
      · omega
      · unfold szV at hl
        split at hl
        · omega
        · omega
    generalize szR 1048576 n n2 = v at *
    have hd : decide (v < 0) = false := by simpa using hl
    obtain ⟨hn1, hn2, hn12⟩ := hn
    have TR : ∀ W, Below w.heap.size w W → Calls Try.prog 7 #[.agg #[.bool b, .slice a n c, .bool b2, .slice a2 n2 c2]] W fun e w' => ∃ a' a2', e = .returned (.agg #[.bool b, .slice a' n n, .bool b2, .slice a2' n2 n2]) ∧ OwS w' W.heap.size a' n n zs ∧ OwS w' W.heap.size a2' n2 n2 ys ∧ farA a' a2' ∧ Below W.heap.size W w' := fun W hW => toRatio_ow b b2 a a2 n c n2 c2 zs ys W (h.below hW) (h2.below hW) hn1 hn2
    have CS : ∀ (W : World) (x y : Option Addr), Sx W x n n zs → Sx W y n2 n2 ys → Calls Try.prog 5 #[.agg #[.int .i64 A, .int .i64 B], .agg #[.bool b, .slice x n n, .bool b2, .slice y n2 n2], .int .i64 m] W (NewRd W (doV A B b zs b2 ys m)) := fun W x y g1 g2 => sDoublingsOf_any A B b b2 x y n n n2 n2 zs ys m W g1 g2
    have CI : ∀ (W : World) (x y : Option Addr), Sx W x n n zs → Sx W y n2 n2 ys → Calls Try.prog 8 #[.agg #[.int .i64 A, .int .i64 B], .agg #[.bool b, .slice x n n, .bool b2, .slice y n2 n2], .int .i64 m] W (NewDR W (doV A B b zs b2 ys m)) := fun W x y g1 g2 => DoublingsOf_any A B b b2 x y n n n2 n2 zs ys m W g1 g2
    have hbd := doV_bd A B b zs b2 ys m
    unfold NewRd at CS
    unfold NewDR at CI
    generalize (dlR (doV A B b zs b2 ys m)).1 = L at *
    generalize (dlR (doV A B b zs b2 ys m)).2 = ok at *
    have hbb : (ok != ok) = false := by simp
    have hn0 : decide ((1 : Int) + n + n2 < 0) = false := by simp; omega
    clear hlm hlm2 h h2 hl
    have tok1 : True := trivial
    have tok2 : True := trivial
    have tok3 : True := trivial
    have tok4 : True := trivial
    have tok5 : True := trivial
    have tok6 : True := trivial
    have tok7 : True := trivial
    have tok8 : True := trivial
    have tok9 : True := trivial
    have tok10 : True := trivial
    have tok11 : True := trivial
    have tok12 : True := trivial
    have tok13 : True := trivial
    have tok14 : True := trivial
    have tok15 : True := trivial
    have tok16 : True := trivial
    have tok17 : True := trivial
    have tok18 : True := trivial
    have tok19 : True := trivial
    have tok20 : True := trivial
    have tok21 : True := trivial
    have tok22 : True := trivial
    have tok23 : True := trivial
    have tok24 : True := trivial
    have tok25 : True := trivial
    have tok26 : True := trivial
    have tok27 : True := trivial
    have tok28 : True := trivial
    have tok29 : True := trivial
    have tok30 : True := trivial
    have tok31 : True := trivial
    have tok32 : True := trivial
    have tok33 : True := trivial
    have tok34 : True := trivial
    have tok35 : True := trivial
    have tok36 : True := trivial
    have tok37 : True := trivial
    have tok38 : True := trivial
    have tok39 : True := trivial
    have tok40 : True := trivial
    have tok41 : True := trivial
    have tok42 : True := trivial
    have tok43 : True := trivial
    have tok44 : True := trivial
    have tok45 : True := trivial
    have tok46 : True := trivial
    have tok47 : True := trivial
    have tok48 : True := trivial
    have tok49 : True := trivial
    have tok50 : True := trivial
    have tok51 : True := trivial
    have tok52 : True := trivial
    have tok53 : True := trivial
    have tok54 : True := trivial
    have tok55 : True := trivial
    have tok56 : True := trivial
    have tok57 : True := trivial
    have tok58 : True := trivial
    have tok59 : True := trivial
    have tok60 : True := trivial
    go_enter Try.func3, Try.ntmps3
    go_upto_region 1 with fail
    refine chk (fun W => Below w.heap.size w W ∧ W.heap[w.heap.size]? = some (.cells #[.int .i64 A, .int .i64 B] 23 (0, 0)) ∧ W.heap[w.heap.size + 1]? = some (.cells #[.bool b, .slice a n c, .bool b2, .slice a2 n2 c2] 28 (0, 0))) (by refine ⟨?_, ?_, ?_⟩ <;> (repeat' first | (with_reducible first | assumption | (apply Ne.symm; assumption) | apply Nat.le_refl | apply Nat.le_add_right | apply zL | apply zRf | apply Wx.box | apply Wx.box4 | apply zWa | apply Wx.drew | apply zWn | apply bx_drew | apply bx_drewN | apply bx_set3 | apply bx_set2 | apply bx_set4 | apply bx_set1) | ((with_reducible apply bx_new); (focus (go_size; done))) | (with_reducible first | apply bx_set4a | apply bx_set4b | (refine (blkVia (by assumption) ?_).trans ?_) | (refine Wx.below ?_ (by assumption)) | apply OwS.setLow | apply OwS.alloc | apply OwS.drew | apply OwS.drewN | (refine OwS.low (by assumption) ?_) | (refine OwS.below ?_ (by assumption)) | apply OwnW.setLow | apply zOl | apply zFa | apply zDn | apply zDr | apply zAl | apply zSt | refine zVi (by assumption) ?_ ?_) | go_size | omega)) ?_
    rintro w40 ⟨hB40, H_C_40, H_R_40⟩
    obtain ⟨k_C_40_0, k_C_40_1, f_C_40, l_C_40⟩ := bk2 H_C_40
    replace H_C_40 := Lib.hid H_C_40
    obtain ⟨k_R_40_0, k_R_40_1, k_R_40_2, k_R_40_3, f_R_40, l_R_40⟩ := bk4 H_R_40
    replace H_R_40 := Lib.hid H_R_40
    have TE : ∀ (W : World) (v v2 : Value), RdR W v L.length (rvL L) → RdR W v2 L.length (rvL L) → Calls Try.prog 9 #[v, v2] W fun e w' => e = .returned (.bool true) ∧ Below W.heap.size W w' := fun W v v2 g1 g2 => eqRatioS_same g1 g2 (by omega)
    go_upto_region 5 with (first | (first | (have _t := tok1; go_at_call 4; (with_reducible refine ((T1 _).out).mono ?_); rintro e w1 ⟨rfl, hb1⟩; clear tok1 _t; have hz1 := hb1.size; (try simp only [World.size_alloc, World.size_setCell, World.size_drew, World.size_drewN'] at hz1); (try (have kq := cellAt hb1 (w.heap.size) (by go_size); have k1_w_0_0 := kq 0; have k1_w_0_1 := kq 1; clear kq; have f1_w_0 := frozAt hb1 (w.heap.size) (by go_size); simp [go_sem, *] at k1_w_0_0 k1_w_0_1 f1_w_0)); (try have l1_w_0 : w.heap.size < w1.heap.size := by omega); (try (have kq := cellAt hb1 (w.heap.size + 1) (by go_size); have k1_w_1_0 := kq 0; have k1_w_1_1 := kq 1; have k1_w_1_2 := kq 2; have k1_w_1_3 := kq 3; clear kq; have f1_w_1 := frozAt hb1 (w.heap.size + 1) (by go_size); simp [go_sem, *] at k1_w_1_0 k1_w_1_1 k1_w_1_2 k1_w_1_3 f1_w_1)); (try have l1_w_1 : w.heap.size + 1 < w1.heap.size := by omega))))
    have H_C_1 := (hb1.block (w.heap.size) (blk_lt' H_C_40.out)).trans H_C_40.out
    clear k_C_40_0 k_C_40_1 f_C_40 H_C_40
    obtain ⟨k_C_1_0, k_C_1_1, f_C_1, l_C_1⟩ := bk2 H_C_1
    replace H_C_1 := Lib.hid H_C_1
    have H_R_1 := (hb1.block (w.heap.size + 1) (blk_lt' H_R_40.out)).trans H_R_40.out
    clear k_R_40_0 k_R_40_1 k_R_40_2 k_R_40_3 f_R_40 H_R_40
    obtain ⟨k_R_1_0, k_R_1_1, k_R_1_2, k_R_1_3, f_R_1, l_R_1⟩ := bk4 H_R_1
    replace H_R_1 := Lib.hid H_R_1
    have hB1 : Below w.heap.size w w1 := below_via hb1 (by assumption) (by first | exact hB40.size | go_size)
    go_cut [8, 9] (fun s8 s9 wx => ∃ v4, s8 = v4 ∧ s9 = .bool ok ∧ RdR wx v4 L.length (rvL L) ∧ Below w1.heap.size w1 wx)
    case first =>
      go_region_with (first | (first | (have _t := tok2; go_at_call 6; refine (toCurve_any _ _ _).mono ?_; rintro e w2 ⟨rfl, hb2⟩; clear tok2 _t; have hz2 := hb2.size; (try simp only [World.size_alloc, World.size_setCell, World.size_drew, World.size_drewN'] at hz2); (try (have kq := cellAt hb2 (w.heap.size) (by go_size); have k2_w_0_0 := kq 0; have k2_w_0_1 := kq 1; clear kq; have f2_w_0 := frozAt hb2 (w.heap.size) (by go_size); simp [go_sem, *] at k2_w_0_0 k2_w_0_1 f2_w_0)); (try have l2_w_0 : w.heap.size < w2.heap.size := by omega); (try (have kq := cellAt hb2 (w.heap.size + 1) (by go_size); have k2_w_1_0 := kq 0; have k2_w_1_1 := kq 1; have k2_w_1_2 := kq 2; have k2_w_1_3 := kq 3; clear kq; have f2_w_1 := frozAt hb2 (w.heap.size + 1) (by go_size); simp [go_sem, *] at k2_w_1_0 k2_w_1_1 k2_w_1_2 k2_w_1_3 f2_w_1)); (try have l2_w_1 : w.heap.size + 1 < w2.heap.size := by omega); (try clear k1_w_0_0 k1_w_0_1 f1_w_0); (try clear l1_w_0); (try clear k1_w_1_0 k1_w_1_1 k1_w_1_2 k1_w_1_3 f1_w_1); (try clear l1_w_1)) | (have _t := tok3; go_at_call 7; (with_reducible refine ((TR _ (by repeat' first | (with_reducible first | apply zRf | assumption | apply zDn | apply zDr | apply zAl | apply zSt | refine zVi (by assumption) ?_ ?_) | go_size))).mono ?_); rintro e w3 ⟨a3, a4, rfl, ho3, ho4, hf34, hb3⟩; clear tok3 _t; have hz3 := hb3.size; (try simp only [World.size_alloc, World.size_setCell, World.size_drew, World.size_drewN'] at hz3); (try (have kq := cellAt hb3 (w.heap.size) (by go_size); have k3_w_0_0 := kq 0; have k3_w_0_1 := kq 1; clear kq; have f3_w_0 := frozAt hb3 (w.heap.size) (by go_size); simp [go_sem, *] at k3_w_0_0 k3_w_0_1 f3_w_0)); (try have l3_w_0 : w.heap.size < w3.heap.size := by omega); (try (have kq := cellAt hb3 (w.heap.size + 1) (by go_size); have k3_w_1_0 := kq 0; have k3_w_1_1 := kq 1; have k3_w_1_2 := kq 2; have k3_w_1_3 := kq 3; clear kq; have f3_w_1 := frozAt hb3 (w.heap.size + 1) (by go_size); simp [go_sem, *] at k3_w_1_0 k3_w_1_1 k3_w_1_2 k3_w_1_3 f3_w_1)); (try have l3_w_1 : w.heap.size + 1 < w3.heap.size := by omega); (try clear k1_w_0_0 k1_w_0_1 f1_w_0); (try clear l1_w_0); (try clear k1_w_1_0 k1_w_1_1 k1_w_1_2 k1_w_1_3 f1_w_1); (try clear l1_w_1); (try clear k2_w_0_0 k2_w_0_1 f2_w_0); (try clear l2_w_0); (try clear k2_w_1_0 k2_w_1_1 k2_w_1_2 k2_w_1_3 f2_w_1); (try clear l2_w_1)) | (have _t := tok4; go_at_call 5; (with_reducible refine ((CS _ _ _ (ho3.sx.below (by repeat' first | (with_reducible first | apply zRf | assumption | apply zDn | apply zDr | apply zAl | apply zSt | refine zVi (by assumption) ?_ ?_) | go_size)) (ho4.sx.below (by repeat' first | (with_reducible first | apply zRf | assumption | apply zDn | apply zDr | apply zAl | apply zSt | refine zVi (by assumption) ?_ ?_) | go_size)))).mono ?_); rintro e w4 ⟨v4, B4, rfl, hr4, hb4⟩; clear tok4 _t; have hz4 := hb4.size; (try simp only [World.size_alloc, World.size_setCell, World.size_drew, World.size_drewN'] at hz4); (try (have kq := cellAt hb4 (w.heap.size) (by go_size); have k4_w_0_0 := kq 0; have k4_w_0_1 := kq 1; clear kq; have f4_w_0 := frozAt hb4 (w.heap.size) (by go_size); simp [go_sem, *] at k4_w_0_0 k4_w_0_1 f4_w_0)); (try have l4_w_0 : w.heap.size < w4.heap.size := by omega); (try (have kq := cellAt hb4 (w.heap.size + 1) (by go_size); have k4_w_1_0 := kq 0; have k4_w_1_1 := kq 1; have k4_w_1_2 := kq 2; have k4_w_1_3 := kq 3; clear kq; have f4_w_1 := frozAt hb4 (w.heap.size + 1) (by go_size); simp [go_sem, *] at k4_w_1_0 k4_w_1_1 k4_w_1_2 k4_w_1_3 f4_w_1)); (try have l4_w_1 : w.heap.size + 1 < w4.heap.size := by omega); (try clear k1_w_0_0 k1_w_0_1 f1_w_0); (try clear l1_w_0); (try clear k1_w_1_0 k1_w_1_1 k1_w_1_2 k1_w_1_3 f1_w_1); (try clear l1_w_1); (try clear k2_w_0_0 k2_w_0_1 f2_w_0); (try clear l2_w_0); (try clear k2_w_1_0 k2_w_1_1 k2_w_1_2 k2_w_1_3 f2_w_1); (try clear l2_w_1); (try clear k3_w_0_0 k3_w_0_1 f3_w_0); (try clear l3_w_0); (try clear k3_w_1_0 k3_w_1_1 k3_w_1_2 k3_w_1_3 f3_w_1); (try clear l3_w_1))))
      all_goals
        go_wp2_with fail
        go_meet
        refine ⟨_, rfl, rfl, hr4.rd, ?_⟩
        repeat' first | (with_reducible first | apply zRf | assumption | apply zDn | apply zDr | apply zAl | apply zSt | refine zVi (by assumption) ?_ ?_) | go_size
    case rest =>
    obtain ⟨v4, rfl, rfl, hrc, hbc⟩ := hcut
    obtain ⟨wa, rfl⟩ : ∃ W, W = wc := ⟨_, rfl⟩
    go_upto_region 6 with fail
    have hB1c := below_via hbc hB1 (by have := hB1.size; omega)
    have hCc := (hbc.block _ (by have := l_C_1; omega)).trans H_C_1.out
    have hRc := (hbc.block _ l_R_1).trans H_R_1.out
    replace H_C_1 := H_C_1.out
    replace H_R_1 := H_R_1.out
    refine chk (fun W => Below w.heap.size w W ∧ W.heap[w.heap.size]? = some (.cells #[.int .i64 A, .int .i64 B] 23 (0, 0)) ∧ W.heap[w.heap.size + 1]? = some (.cells #[.bool b, .slice a n c, .bool b2, .slice a2 n2 c2] 28 (0, 0)) ∧ wa = W) (by refine ⟨?_, ?_, ?_, ?_⟩ <;> (repeat' first | (with_reducible first | assumption | (apply Ne.symm; assumption) | apply Nat.le_refl | apply Nat.le_add_right | apply zL | apply zRf | apply Wx.box | apply Wx.box4 | apply zWa | apply Wx.drew | apply zWn | apply bx_drew | apply bx_drewN | apply bx_set3 | apply bx_set2 | apply bx_set4 | apply bx_set1) | ((with_reducible apply bx_new); (focus (go_size; done))) | (with_reducible first | apply bx_set4a | apply bx_set4b | (refine (blkVia (by assumption) ?_).trans ?_) | (refine Wx.below ?_ (by assumption)) | apply OwS.setLow | apply OwS.alloc | apply OwS.drew | apply OwS.drewN | (refine OwS.low (by assumption) ?_) | (refine OwS.below ?_ (by assumption)) | apply OwnW.setLow | apply zOl | apply zFa | apply zDn | apply zDr | apply zAl | apply zSt | refine zVi (by assumption) ?_ ?_) | go_size | omega)) ?_
    clear k_C_1_0 k_C_1_1 f_C_1 H_C_1
    clear k_R_1_0 k_R_1_1 k_R_1_2 k_R_1_3 f_R_1 H_R_1
    clear hB1
    rintro w41 ⟨hB41, H_C_41, H_R_41, HE⟩
    obtain ⟨k_C_41_0, k_C_41_1, f_C_41, l_C_41⟩ := bk2 H_C_41
    replace H_C_41 := Lib.hid H_C_41
    obtain ⟨k_R_41_0, k_R_41_1, k_R_41_2, k_R_41_3, f_R_41, l_R_41⟩ := bk4 H_R_41
    replace H_R_41 := Lib.hid H_R_41
    subst HE
    have s41 := hB41.size
    have lC41 := l_C_41
    have lR41 := l_R_41
    go_upto_region 7 with (first | (first | (have _t := tok6; go_at_call 7; (with_reducible refine ((TR _ (by repeat' first | (with_reducible first | apply zRf | assumption | apply zDn | apply zDr | apply zAl | apply zSt | refine zVi (by assumption) ?_ ?_) | go_size))).mono ?_); rintro e w6 ⟨a3, a4, rfl, ho3, ho4, hf34, hb6⟩; clear tok6 _t; have hz6 := hb6.size; (try simp only [World.size_alloc, World.size_setCell, World.size_drew, World.size_drewN'] at hz6); (try (have kq := cellAt hb6 (w.heap.size) (by go_size); have k6_w_0_0 := kq 0; have k6_w_0_1 := kq 1; clear kq; have f6_w_0 := frozAt hb6 (w.heap.size) (by go_size); simp [go_sem, *] at k6_w_0_0 k6_w_0_1 f6_w_0)); (try have l6_w_0 : w.heap.size < w6.heap.size := by omega); (try (have kq := cellAt hb6 (w.heap.size + 1) (by go_size); have k6_w_1_0 := kq 0; have k6_w_1_1 := kq 1; have k6_w_1_2 := kq 2; have k6_w_1_3 := kq 3; clear kq; have f6_w_1 := frozAt hb6 (w.heap.size + 1) (by go_size); simp [go_sem, *] at k6_w_1_0 k6_w_1_1 k6_w_1_2 k6_w_1_3 f6_w_1)); (try have l6_w_1 : w.heap.size + 1 < w6.heap.size := by omega); (try clear k2_w_0_0 k2_w_0_1 f2_w_0); (try clear l2_w_0); (try clear k2_w_1_0 k2_w_1_1 k2_w_1_2 k2_w_1_3 f2_w_1); (try clear l2_w_1); (try clear k3_w_0_0 k3_w_0_1 f3_w_0); (try clear l3_w_0); (try clear k3_w_1_0 k3_w_1_1 k3_w_1_2 k3_w_1_3 f3_w_1); (try clear l3_w_1); (try clear k4_w_0_0 k4_w_0_1 f4_w_0); (try clear l4_w_0); (try clear k4_w_1_0 k4_w_1_1 k4_w_1_2 k4_w_1_3 f4_w_1); (try clear l4_w_1); (try clear k5_w_0_0 k5_w_0_1 f5_w_0); (try clear l5_w_0); (try clear k5_w_1_0 k5_w_1_1 k5_w_1_2 k5_w_1_3 f5_w_1); (try clear l5_w_1))))
    have hC3 : ∀ A, a3 = some A → A.block < w6.heap.size := fun A e => (ho3.lies A e).2
    have hC4 : ∀ A, a4 = some A → A.block < w6.heap.size := fun A e => (ho4.lies A e).2
    replace ho3 := ho3.low (show wa.heap.size ≤ _ by go_size)
    replace ho4 := ho4.low (show wa.heap.size ≤ _ by go_size)
    have hl6 : wa.heap.size ≤ w6.heap.size := by go_size
    replace H_C_41 := H_C_41.out
    replace H_R_41 := H_R_41.out
    refine chk (fun W => Below w.heap.size w W ∧ W.heap[w.heap.size]? = some (.cells #[.int .i64 A, .int .i64 B] 23 (0, 0)) ∧ W.heap[w.heap.size + 1]? = some (.cells #[.bool b, .slice a n c, .bool b2, .slice a2 n2 c2] 28 (0, 0)) ∧ W.heap[w6.heap.size]? = some (.cells #[.bool b, .slice a3 n n, .bool b2, .slice a4 n2 n2] 37 (0, 0)) ∧ Below wa.heap.size wa W ∧ OwS W wa.heap.size a3 n n zs ∧ OwS W wa.heap.size a4 n2 n2 ys) (by refine ⟨?_, ?_, ?_, ?_, ?_, ?_, ?_⟩ <;> (repeat' first | (with_reducible first | assumption | (apply Ne.symm; assumption) | apply Nat.le_refl | apply Nat.le_add_right | apply zL | apply zRf | apply Wx.box | apply Wx.box4 | apply zWa | apply Wx.drew | apply zWn | apply bx_drew | apply bx_drewN | apply bx_set3 | apply bx_set2 | apply bx_set4 | apply bx_set1) | ((with_reducible apply bx_new); (focus (go_size; done))) | (with_reducible first | apply bx_set4a | apply bx_set4b | (refine (blkVia (by assumption) ?_).trans ?_) | (refine Wx.below ?_ (by assumption)) | apply OwS.setLow | apply OwS.alloc | apply OwS.drew | apply OwS.drewN | (refine OwS.low (by assumption) ?_) | (refine OwS.below ?_ (by assumption)) | apply OwnW.setLow | apply zOl | apply zFa | apply zDn | apply zDr | apply zAl | apply zSt | refine zVi (by assumption) ?_ ?_) | go_size | omega)) ?_
    clear k_C_41_0 k_C_41_1 f_C_41 H_C_41
    clear k_R_41_0 k_R_41_1 k_R_41_2 k_R_41_3 f_R_41 H_R_41
    clear hB41
    rintro w42 ⟨hB42, H_C_42, H_R_42, H_X_42, hb41, hx3, hx4⟩
    obtain ⟨k_C_42_0, k_C_42_1, f_C_42, l_C_42⟩ := bk2 H_C_42
    replace H_C_42 := Lib.hid H_C_42
    obtain ⟨k_R_42_0, k_R_42_1, k_R_42_2, k_R_42_3, f_R_42, l_R_42⟩ := bk4 H_R_42
    replace H_R_42 := Lib.hid H_R_42
    obtain ⟨k_X_42_0, k_X_42_1, k_X_42_2, k_X_42_3, f_X_42, l_X_42⟩ := bk4 H_X_42
    replace H_X_42 := Lib.hid H_X_42
    clear ho3 ho4 hb6
    have lX := l_X_42
    have hs3 := hx3.sx
    have hs4 := hx4.sx
    go_cut [11, 12] (fun s11 s12 wx => ∃ v M, s11 = v ∧ s12 = .bool ok ∧ OwnW wx w42.heap.size v L.length M ∧ (∀ j, j < 2 * L.length → wvL M j = rvL L j) ∧ Below w42.heap.size w42 wx)
    case first =>
      have HX := H_X_42.out
      go_region_with (first | (first | (have _t := tok8; go_at_call 6; refine (toCurve_any _ _ _).mono ?_; rintro e w8 ⟨rfl, hb8⟩; clear tok8 _t; have hz8 := hb8.size; (try simp only [World.size_alloc, World.size_setCell, World.size_drew, World.size_drewN'] at hz8); (try (have kq := cellAt hb8 (w.heap.size) (by go_size); have k8_w_0_0 := kq 0; have k8_w_0_1 := kq 1; clear kq; have f8_w_0 := frozAt hb8 (w.heap.size) (by go_size); simp [go_sem, *] at k8_w_0_0 k8_w_0_1 f8_w_0)); (try have l8_w_0 : w.heap.size < w8.heap.size := by omega); (try (have kq := cellAt hb8 (w.heap.size + 1) (by go_size); have k8_w_1_0 := kq 0; have k8_w_1_1 := kq 1; have k8_w_1_2 := kq 2; have k8_w_1_3 := kq 3; clear kq; have f8_w_1 := frozAt hb8 (w.heap.size + 1) (by go_size); simp [go_sem, *] at k8_w_1_0 k8_w_1_1 k8_w_1_2 k8_w_1_3 f8_w_1)); (try have l8_w_1 : w.heap.size + 1 < w8.heap.size := by omega); (try (have kq := cellAt hb8 (w6.heap.size) (by go_size); have k8_w6_0_0 := kq 0; have k8_w6_0_1 := kq 1; have k8_w6_0_2 := kq 2; have k8_w6_0_3 := kq 3; clear kq; have f8_w6_0 := frozAt hb8 (w6.heap.size) (by go_size); simp [go_sem, *] at k8_w6_0_0 k8_w6_0_1 k8_w6_0_2 k8_w6_0_3 f8_w6_0)); (try have l8_w6_0 : w6.heap.size < w8.heap.size := by omega); (try clear k4_w_0_0 k4_w_0_1 f4_w_0); (try clear l4_w_0); (try clear k4_w_1_0 k4_w_1_1 k4_w_1_2 k4_w_1_3 f4_w_1); (try clear l4_w_1); (try clear k5_w_0_0 k5_w_0_1 f5_w_0); (try clear l5_w_0); (try clear k5_w_1_0 k5_w_1_1 k5_w_1_2 k5_w_1_3 f5_w_1); (try clear l5_w_1); (try clear k6_w_0_0 k6_w_0_1 f6_w_0); (try clear l6_w_0); (try clear k6_w_1_0 k6_w_1_1 k6_w_1_2 k6_w_1_3 f6_w_1); (try clear l6_w_1); (try clear k7_w_0_0 k7_w_0_1 f7_w_0); (try clear l7_w_0); (try clear k7_w_1_0 k7_w_1_1 k7_w_1_2 k7_w_1_3 f7_w_1); (try clear l7_w_1); (try clear k7_w6_0_0 k7_w6_0_1 k7_w6_0_2 k7_w6_0_3 f7_w6_0); (try clear l7_w6_0)) | (have _t := tok9; go_at_call 8; (with_reducible refine ((CI _ _ _ (hs3.below (by repeat' first | (with_reducible first | apply zRf | assumption | apply zDn | apply zDr | apply zAl | apply zSt | refine zVi (by assumption) ?_ ?_) | go_size)) (hs4.below (by repeat' first | (with_reducible first | apply zRf | assumption | apply zDn | apply zDr | apply zAl | apply zSt | refine zVi (by assumption) ?_ ?_) | go_size)))).mono ?_); rintro e w9 ⟨v9, M9, rfl, ho9, hv9, hb9⟩; clear tok9 _t; have hz9 := hb9.size; (try simp only [World.size_alloc, World.size_setCell, World.size_drew, World.size_drewN'] at hz9); (try (have kq := cellAt hb9 (w.heap.size) (by go_size); have k9_w_0_0 := kq 0; have k9_w_0_1 := kq 1; clear kq; have f9_w_0 := frozAt hb9 (w.heap.size) (by go_size); simp [go_sem, *] at k9_w_0_0 k9_w_0_1 f9_w_0)); (try have l9_w_0 : w.heap.size < w9.heap.size := by omega); (try (have kq := cellAt hb9 (w.heap.size + 1) (by go_size); have k9_w_1_0 := kq 0; have k9_w_1_1 := kq 1; have k9_w_1_2 := kq 2; have k9_w_1_3 := kq 3; clear kq; have f9_w_1 := frozAt hb9 (w.heap.size + 1) (by go_size); simp [go_sem, *] at k9_w_1_0 k9_w_1_1 k9_w_1_2 k9_w_1_3 f9_w_1)); (try have l9_w_1 : w.heap.size + 1 < w9.heap.size := by omega); (try (have kq := cellAt hb9 (w6.heap.size) (by go_size); have k9_w6_0_0 := kq 0; have k9_w6_0_1 := kq 1; have k9_w6_0_2 := kq 2; have k9_w6_0_3 := kq 3; clear kq; have f9_w6_0 := frozAt hb9 (w6.heap.size) (by go_size); simp [go_sem, *] at k9_w6_0_0 k9_w6_0_1 k9_w6_0_2 k9_w6_0_3 f9_w6_0)); (try have l9_w6_0 : w6.heap.size < w9.heap.size := by omega); (try clear k5_w_0_0 k5_w_0_1 f5_w_0); (try clear l5_w_0); (try clear k5_w_1_0 k5_w_1_1 k5_w_1_2 k5_w_1_3 f5_w_1); (try clear l5_w_1); (try clear k6_w_0_0 k6_w_0_1 f6_w_0); (try clear l6_w_0); (try clear k6_w_1_0 k6_w_1_1 k6_w_1_2 k6_w_1_3 f6_w_1); (try clear l6_w_1); (try clear k7_w_0_0 k7_w_0_1 f7_w_0); (try clear l7_w_0); (try clear k7_w_1_0 k7_w_1_1 k7_w_1_2 k7_w_1_3 f7_w_1); (try clear l7_w_1); (try clear k7_w6_0_0 k7_w6_0_1 k7_w6_0_2 k7_w6_0_3 f7_w6_0); (try clear l7_w6_0); (try clear k8_w_0_0 k8_w_0_1 f8_w_0); (try clear l8_w_0); (try clear k8_w_1_0 k8_w_1_1 k8_w_1_2 k8_w_1_3 f8_w_1); (try clear l8_w_1); (try clear k8_w6_0_0 k8_w6_0_1 k8_w6_0_2 k8_w6_0_3 f8_w6_0); (try clear l8_w6_0))))
      all_goals
        go_wp2_with fail
        go_meet
        refine ⟨_, _, rfl, rfl, ho9.low (by go_size), hv9, ?_⟩
        repeat' first | (with_reducible first | apply zRf | assumption | apply zDn | apply zDr | apply zAl | apply zSt | refine zVi (by assumption) ?_ ?_) | go_size
    case rest =>
    obtain ⟨v9, M9, rfl, rfl, hoc, hv9, hbd9⟩ := hcut
    go_upto_region 8 with fail
    have hx3c := hx3.below hbd9
    have hx4c := hx4.below hbd9
    have hs42 := hb41.size
    have hb41c := below_via hbd9 hb41 hs42
    have hBc := below_via hbd9 hB42 hB42.size
    have hCc := (hbd9.block _ (by have := l_C_42; omega)).trans H_C_42.out
    have hRc := (hbd9.block _ l_R_42).trans H_R_42.out
    have hXc := (hbd9.block _ l_X_42).trans H_X_42.out
    have hs42c := hbd9.size
    replace H_C_42 := H_C_42.out
    replace H_R_42 := H_R_42.out
    replace H_X_42 := H_X_42.out
    refine chk (fun W => Below w.heap.size w W ∧ W.heap[w.heap.size]? = some (.cells #[.int .i64 A, .int .i64 B] 23 (0, 0)) ∧ W.heap[w.heap.size + 1]? = some (.cells #[.bool b, .slice a n c, .bool b2, .slice a2 n2 c2] 28 (0, 0)) ∧ W.heap[w6.heap.size]? = some (.cells #[.bool b, .slice a3 n n, .bool b2, .slice a4 n2 n2] 37 (0, 0)) ∧ Below wa.heap.size wa W ∧ OwS W wa.heap.size a3 n n zs ∧ OwS W wa.heap.size a4 n2 n2 ys ∧ OwnW W w42.heap.size u11 L.length M9 ∧ w42.heap.size ≤ W.heap.size) (by refine ⟨?_, ?_, ?_, ?_, ?_, ?_, ?_, ?_, ?_⟩ <;> (repeat' first | (with_reducible first | assumption | (apply Ne.symm; assumption) | apply Nat.le_refl | apply Nat.le_add_right | apply zL | apply zRf | apply Wx.box | apply Wx.box4 | apply zWa | apply Wx.drew | apply zWn | apply bx_drew | apply bx_drewN | apply bx_set3 | apply bx_set2 | apply bx_set4 | apply bx_set1) | ((with_reducible apply bx_new); (focus (go_size; done))) | (with_reducible first | apply bx_set4a | apply bx_set4b | (refine (blkVia (by assumption) ?_).trans ?_) | (refine Wx.below ?_ (by assumption)) | apply OwS.setLow | apply OwS.alloc | apply OwS.drew | apply OwS.drewN | (refine OwS.low (by assumption) ?_) | (refine OwS.below ?_ (by assumption)) | apply OwnW.setLow | apply zOl | apply zFa | apply zDn | apply zDr | apply zAl | apply zSt | refine zVi (by assumption) ?_ ?_) | go_size | omega)) ?_
    clear k_C_42_0 k_C_42_1 f_C_42 H_C_42
    clear k_R_42_0 k_R_42_1 k_R_42_2 k_R_42_3 f_R_42 H_R_42
    clear k_X_42_0 k_X_42_1 k_X_42_2 k_X_42_3 f_X_42 H_X_42
    clear hB42
    rintro w43 ⟨hB43, H_C_43, H_R_43, H_X_43, hb41, hx3, hx4, how, hsz⟩
    obtain ⟨k_C_43_0, k_C_43_1, f_C_43, l_C_43⟩ := bk2 H_C_43
    replace H_C_43 := Lib.hid H_C_43
    obtain ⟨k_R_43_0, k_R_43_1, k_R_43_2, k_R_43_3, f_R_43, l_R_43⟩ := bk4 H_R_43
    replace H_R_43 := Lib.hid H_R_43
    obtain ⟨k_X_43_0, k_X_43_1, k_X_43_2, k_X_43_3, f_X_43, l_X_43⟩ := bk4 H_X_43
    replace H_X_43 := Lib.hid H_X_43
    clear hx3c hx4c hb41c hBc hCc hRc hXc hbd9 hoc hs42c CS
    have hs3 := hx3.sx
    have hs4 := hx4.sx
    have hg0 := how.rd.congr hv9
    have hr0 := hrc.below hb41
    go_upto_region 10 with (first | (first | (have _t := tok44; go_at_call 9; (with_reducible refine ((TE _ _ _ hg0 hr0)).mono ?_); rintro e w44 ⟨rfl, hb44⟩; clear tok44 _t; have hz44 := hb44.size; (try simp only [World.size_alloc, World.size_setCell, World.size_drew, World.size_drewN'] at hz44); (try (have kq := cellAt hb44 (w.heap.size) (by go_size); have k44_w_0_0 := kq 0; have k44_w_0_1 := kq 1; clear kq; have f44_w_0 := frozAt hb44 (w.heap.size) (by go_size); simp [go_sem, *] at k44_w_0_0 k44_w_0_1 f44_w_0)); (try have l44_w_0 : w.heap.size < w44.heap.size := by omega); (try (have kq := cellAt hb44 (w.heap.size + 1) (by go_size); have k44_w_1_0 := kq 0; have k44_w_1_1 := kq 1; have k44_w_1_2 := kq 2; have k44_w_1_3 := kq 3; clear kq; have f44_w_1 := frozAt hb44 (w.heap.size + 1) (by go_size); simp [go_sem, *] at k44_w_1_0 k44_w_1_1 k44_w_1_2 k44_w_1_3 f44_w_1)); (try have l44_w_1 : w.heap.size + 1 < w44.heap.size := by omega); (try clear k40_w_0_0 k40_w_0_1 f40_w_0); (try clear l40_w_0); (try clear k40_w_1_0 k40_w_1_1 k40_w_1_2 k40_w_1_3 f40_w_1); (try clear l40_w_1); (try clear k41_w_0_0 k41_w_0_1 f41_w_0); (try clear l41_w_0); (try clear k41_w_1_0 k41_w_1_1 k41_w_1_2 k41_w_1_3 f41_w_1); (try clear l41_w_1); (try clear k42_w_0_0 k42_w_0_1 f42_w_0); (try clear l42_w_0); (try clear k42_w_1_0 k42_w_1_1 k42_w_1_2 k42_w_1_3 f42_w_1); (try clear l42_w_1); (try clear k43_w_0_0 k43_w_0_1 f43_w_0); (try clear l43_w_0); (try clear k43_w_1_0 k43_w_1_1 k43_w_1_2 k43_w_1_3 f43_w_1); (try clear l43_w_1))))
    have H_C_44 := (hb44.block (w.heap.size) (blk_lt' H_C_43.out)).trans H_C_43.out
    clear k_C_43_0 k_C_43_1 f_C_43 H_C_43
    obtain ⟨k_C_44_0, k_C_44_1, f_C_44, l_C_44⟩ := bk2 H_C_44
    replace H_C_44 := Lib.hid H_C_44
    have H_R_44 := (hb44.block (w.heap.size + 1) (blk_lt' H_R_43.out)).trans H_R_43.out
    clear k_R_43_0 k_R_43_1 k_R_43_2 k_R_43_3 f_R_43 H_R_43
    obtain ⟨k_R_44_0, k_R_44_1, k_R_44_2, k_R_44_3, f_R_44, l_R_44⟩ := bk4 H_R_44
    replace H_R_44 := Lib.hid H_R_44
    have H_X_44 := (hb44.block (w6.heap.size) (blk_lt' H_X_43.out)).trans H_X_43.out
    clear k_X_43_0 k_X_43_1 k_X_43_2 k_X_43_3 f_X_43 H_X_43
    obtain ⟨k_X_44_0, k_X_44_1, k_X_44_2, k_X_44_3, f_X_44, l_X_44⟩ := bk4 H_X_44
    replace H_X_44 := Lib.hid H_X_44
    have hB44 : Below w.heap.size w w44 := below_via hb44 (by assumption) (by first | exact hB43.size | go_size)
    replace hx3 := hx3.below hb44
    replace hx4 := hx4.below hb44
    replace how := how.below hb44
    replace hb41 := below_via hb44 hb41 hb41.size
    have hz44 := hb44.size
    clear hs3 hs4 hg0 hr0
    have hs3 := hx3.sx
    have hs4 := hx4.sx
    have TQ : ∀ (W : World) (x1 x2 y1 y2 : Option Addr), Sx W x1 n n zs → Sx W x2 n n zs → Sx W y1 n2 n2 ys → Sx W y2 n2 n2 ys → Calls Try.prog 10 #[.agg #[.bool b, .slice x1 n n, .bool b2, .slice y1 n2 n2], .agg #[.bool b, .slice x2 n n, .bool b2, .slice y2 n2 n2]] W fun e w' => e = .returned (.bool true) ∧ Below W.heap.size W w' := fun W x1 x2 y1 y2 g1 g2 g3 g4 => eqRatio_same b b2 g1 g2 g3 g4
    go_cut [55] (fun s55 wx => s55 = .bool false ∧ Below w44.heap.size w44 wx)
    case first =>
      have HX := H_X_44.out
      go_region_with (first | (first | (have _t := tok45; go_at_call 7; (with_reducible refine ((TR _ (by repeat' first | (with_reducible first | apply zRf | assumption | apply zDn | apply zDr | apply zAl | apply zSt | refine zVi (by assumption) ?_ ?_) | go_size))).mono ?_); rintro e w45 ⟨a5, a6, rfl, ho5, ho6, hf56, hb45⟩; clear tok45 _t; have hz45 := hb45.size; (try simp only [World.size_alloc, World.size_setCell, World.size_drew, World.size_drewN'] at hz45); (try (have kq := cellAt hb45 (w.heap.size) (by go_size); have k45_w_0_0 := kq 0; have k45_w_0_1 := kq 1; clear kq; have f45_w_0 := frozAt hb45 (w.heap.size) (by go_size); simp [go_sem, *] at k45_w_0_0 k45_w_0_1 f45_w_0)); (try have l45_w_0 : w.heap.size < w45.heap.size := by omega); (try (have kq := cellAt hb45 (w.heap.size + 1) (by go_size); have k45_w_1_0 := kq 0; have k45_w_1_1 := kq 1; have k45_w_1_2 := kq 2; have k45_w_1_3 := kq 3; clear kq; have f45_w_1 := frozAt hb45 (w.heap.size + 1) (by go_size); simp [go_sem, *] at k45_w_1_0 k45_w_1_1 k45_w_1_2 k45_w_1_3 f45_w_1)); (try have l45_w_1 : w.heap.size + 1 < w45.heap.size := by omega); (try (have kq := cellAt hb45 (w6.heap.size) (by go_size); have k45_w6_0_0 := kq 0; have k45_w6_0_1 := kq 1; have k45_w6_0_2 := kq 2; have k45_w6_0_3 := kq 3; clear kq; have f45_w6_0 := frozAt hb45 (w6.heap.size) (by go_size); simp [go_sem, *] at k45_w6_0_0 k45_w6_0_1 k45_w6_0_2 k45_w6_0_3 f45_w6_0)); (try have l45_w6_0 : w6.heap.size < w45.heap.size := by omega); (try clear k41_w_0_0 k41_w_0_1 f41_w_0); (try clear l41_w_0); (try clear k41_w_1_0 k41_w_1_1 k41_w_1_2 k41_w_1_3 f41_w_1); (try clear l41_w_1); (try clear k41_w6_0_0 k41_w6_0_1 k41_w6_0_2 k41_w6_0_3 f41_w6_0); (try clear l41_w6_0); (try clear k42_w_0_0 k42_w_0_1 f42_w_0); (try clear l42_w_0); (try clear k42_w_1_0 k42_w_1_1 k42_w_1_2 k42_w_1_3 f42_w_1); (try clear l42_w_1); (try clear k42_w6_0_0 k42_w6_0_1 k42_w6_0_2 k42_w6_0_3 f42_w6_0); (try clear l42_w6_0); (try clear k43_w_0_0 k43_w_0_1 f43_w_0); (try clear l43_w_0); (try clear k43_w_1_0 k43_w_1_1 k43_w_1_2 k43_w_1_3 f43_w_1); (try clear l43_w_1); (try clear k43_w6_0_0 k43_w6_0_1 k43_w6_0_2 k43_w6_0_3 f43_w6_0); (try clear l43_w6_0); (try clear k44_w_0_0 k44_w_0_1 f44_w_0); (try clear l44_w_0); (try clear k44_w_1_0 k44_w_1_1 k44_w_1_2 k44_w_1_3 f44_w_1); (try clear l44_w_1); (try clear k44_w6_0_0 k44_w6_0_1 k44_w6_0_2 k44_w6_0_3 f44_w6_0); (try clear l44_w6_0)) | (have _t := tok46; go_at_call 10; (with_reducible refine ((TQ _ _ _ _ _ (hs3.below (by repeat' first | (with_reducible first | apply zRf | assumption | apply zDn | apply zDr | apply zAl | apply zSt | refine zVi (by assumption) ?_ ?_) | go_size)) (ho5.sx.below (by repeat' first | (with_reducible first | apply zRf | assumption | apply zDn | apply zDr | apply zAl | apply zSt | refine zVi (by assumption) ?_ ?_) | go_size)) (hs4.below (by repeat' first | (with_reducible first | apply zRf | assumption | apply zDn | apply zDr | apply zAl | apply zSt | refine zVi (by assumption) ?_ ?_) | go_size)) (ho6.sx.below (by repeat' first | (with_reducible first | apply zRf | assumption | apply zDn | apply zDr | apply zAl | apply zSt | refine zVi (by assumption) ?_ ?_) | go_size)))).mono ?_); rintro e w46 ⟨rfl, hb46⟩; clear tok46 _t; have hz46 := hb46.size; (try simp only [World.size_alloc, World.size_setCell, World.size_drew, World.size_drewN'] at hz46); (try (have kq := cellAt hb46 (w.heap.size) (by go_size); have k46_w_0_0 := kq 0; have k46_w_0_1 := kq 1; clear kq; have f46_w_0 := frozAt hb46 (w.heap.size) (by go_size); simp [go_sem, *] at k46_w_0_0 k46_w_0_1 f46_w_0)); (try have l46_w_0 : w.heap.size < w46.heap.size := by omega); (try (have kq := cellAt hb46 (w.heap.size + 1) (by go_size); have k46_w_1_0 := kq 0; have k46_w_1_1 := kq 1; have k46_w_1_2 := kq 2; have k46_w_1_3 := kq 3; clear kq; have f46_w_1 := frozAt hb46 (w.heap.size + 1) (by go_size); simp [go_sem, *] at k46_w_1_0 k46_w_1_1 k46_w_1_2 k46_w_1_3 f46_w_1)); (try have l46_w_1 : w.heap.size + 1 < w46.heap.size := by omega); (try (have kq := cellAt hb46 (w6.heap.size) (by go_size); have k46_w6_0_0 := kq 0; have k46_w6_0_1 := kq 1; have k46_w6_0_2 := kq 2; have k46_w6_0_3 := kq 3; clear kq; have f46_w6_0 := frozAt hb46 (w6.heap.size) (by go_size); simp [go_sem, *] at k46_w6_0_0 k46_w6_0_1 k46_w6_0_2 k46_w6_0_3 f46_w6_0)); (try have l46_w6_0 : w6.heap.size < w46.heap.size := by omega); (try clear k42_w_0_0 k42_w_0_1 f42_w_0); (try clear l42_w_0); (try clear k42_w_1_0 k42_w_1_1 k42_w_1_2 k42_w_1_3 f42_w_1); (try clear l42_w_1); (try clear k42_w6_0_0 k42_w6_0_1 k42_w6_0_2 k42_w6_0_3 f42_w6_0); (try clear l42_w6_0); (try clear k43_w_0_0 k43_w_0_1 f43_w_0); (try clear l43_w_0); (try clear k43_w_1_0 k43_w_1_1 k43_w_1_2 k43_w_1_3 f43_w_1); (try clear l43_w_1); (try clear k43_w6_0_0 k43_w6_0_1 k43_w6_0_2 k43_w6_0_3 f43_w6_0); (try clear l43_w6_0); (try clear k44_w_0_0 k44_w_0_1 f44_w_0); (try clear l44_w_0); (try clear k44_w_1_0 k44_w_1_1 k44_w_1_2 k44_w_1_3 f44_w_1); (try clear l44_w_1); (try clear k44_w6_0_0 k44_w6_0_1 k44_w6_0_2 k44_w6_0_3 f44_w6_0); (try clear l44_w6_0); (try clear k45_w_0_0 k45_w_0_1 f45_w_0); (try clear l45_w_0); (try clear k45_w_1_0 k45_w_1_1 k45_w_1_2 k45_w_1_3 f45_w_1); (try clear l45_w_1); (try clear k45_w6_0_0 k45_w6_0_1 k45_w6_0_2 k45_w6_0_3 f45_w6_0); (try clear l45_w6_0))))
      all_goals
        go_wp2_with fail
        go_meet
        refine ⟨rfl, ?_⟩
        repeat' first | (with_reducible first | apply zRf | assumption | apply zDn | apply zDr | apply zAl | apply zSt | refine zVi (by assumption) ?_ ?_) | go_size
    case rest =>
    obtain ⟨rfl, hbd⟩ := hcut
    go_upto_region 13 with fail
    have hx3c := hx3.below hbd
    have hx4c := hx4.below hbd
    have hoc := how.below hbd
    have hb41c := below_via hbd hb41 hb41.size
    have hBc := below_via hbd hB44 hB44.size
    have hCc := (hbd.block _ (by have := l_C_44; omega)).trans H_C_44.out
    have hRc := (hbd.block _ l_R_44).trans H_R_44.out
    have hXc := (hbd.block _ l_X_44).trans H_X_44.out
    have hszc := hbd.size
    replace H_C_44 := H_C_44.out
    replace H_R_44 := H_R_44.out
    replace H_X_44 := H_X_44.out
    refine chk (fun W => Below w.heap.size w W ∧ W.heap[w.heap.size]? = some (.cells #[.int .i64 A, .int .i64 B] 23 (0, 0)) ∧ W.heap[w.heap.size + 1]? = some (.cells #[.bool b, .slice a n c, .bool b2, .slice a2 n2 c2] 28 (0, 0)) ∧ W.heap[w6.heap.size]? = some (.cells #[.bool b, .slice a3 n n, .bool b2, .slice a4 n2 n2] 37 (0, 0)) ∧ Below wa.heap.size wa W ∧ OwS W wa.heap.size a3 n n zs ∧ OwS W wa.heap.size a4 n2 n2 ys ∧ OwnW W w42.heap.size u11 L.length M9 ∧ w42.heap.size ≤ W.heap.size) (by refine ⟨?_, ?_, ?_, ?_, ?_, ?_, ?_, ?_, ?_⟩ <;> (repeat' first | (with_reducible first | assumption | (apply Ne.symm; assumption) | apply Nat.le_refl | apply Nat.le_add_right | apply zL | apply zRf | apply Wx.box | apply Wx.box4 | apply zWa | apply Wx.drew | apply zWn | apply bx_drew | apply bx_drewN | apply bx_set3 | apply bx_set2 | apply bx_set4 | apply bx_set1) | ((with_reducible apply bx_new); (focus (go_size; done))) | (with_reducible first | apply bx_set4a | apply bx_set4b | (refine (blkVia (by assumption) ?_).trans ?_) | (refine Wx.below ?_ (by assumption)) | apply OwS.setLow | apply OwS.alloc | apply OwS.drew | apply OwS.drewN | (refine OwS.low (by assumption) ?_) | (refine OwS.below ?_ (by assumption)) | apply OwnW.setLow | apply zOl | apply zFa | apply zDn | apply zDr | apply zAl | apply zSt | refine zVi (by assumption) ?_ ?_) | go_size | omega)) ?_
    clear k_C_44_0 k_C_44_1 f_C_44 H_C_44
    clear k_R_44_0 k_R_44_1 k_R_44_2 k_R_44_3 f_R_44 H_R_44
    clear k_X_44_0 k_X_44_1 k_X_44_2 k_X_44_3 f_X_44 H_X_44
    clear hB44
    rintro w47 ⟨hB47, H_C_47, H_R_47, H_X_47, hb41, hx3, hx4, how, hsz⟩
    obtain ⟨k_C_47_0, k_C_47_1, f_C_47, l_C_47⟩ := bk2 H_C_47
    replace H_C_47 := Lib.hid H_C_47
    obtain ⟨k_R_47_0, k_R_47_1, k_R_47_2, k_R_47_3, f_R_47, l_R_47⟩ := bk4 H_R_47
    replace H_R_47 := Lib.hid H_R_47
    obtain ⟨k_X_47_0, k_X_47_1, k_X_47_2, k_X_47_3, f_X_47, l_X_47⟩ := bk4 H_X_47
    replace H_X_47 := Lib.hid H_X_47
    clear hx3c hx4c hoc hb41c hBc hCc hRc hXc hszc hbd hs3 hs4 TQ
    have TM : ∀ k' : Int, k' = 1 → Calls Try.prog 11 #[.agg #[.bool b, .slice a3 n n, .bool b2, .slice a4 n2 n2], .int .i64 k'] w47 fun e w' => e = .returned (.int .i64 (1 + n + n2)) ∧ Kept wa.heap.size w6.heap.size w47 w' := fun k' e => by
      subst e
      exact markRatio_any hx3 hx4 hC3 hC4 hf34 (by omega) (by omega) (by omega) (by omega)
    replace TM := TM 1 rfl
    go_upto_region 14 with (first | (first | (go_at_call 11; (with_reducible refine ((TM)).mono ?_); rintro e w48 ⟨rfl, hkp⟩)))
    have hs47 := hb41.size
    have hb48 : Below wa.heap.size w47 w48 := hkp.below hs47
    have hb41c := hb41.trans hb48
    have hC48 := (hb48.block _ lC41).trans H_C_47.out
    have hR48 := (hb48.block _ lR41).trans H_R_47.out
    have hoc := hkp.ownW how (by omega)
    have hBc := hB47.trans (hb48.mono s41)
    have hsc := hkp.size
    replace H_C_47 := H_C_47.out
    replace H_R_47 := H_R_47.out
    replace H_X_47 := H_X_47.out
    refine chk (fun W => Below w.heap.size w W ∧ W.heap[w.heap.size]? = some (.cells #[.int .i64 A, .int .i64 B] 23 (0, 0)) ∧ W.heap[w.heap.size + 1]? = some (.cells #[.bool b, .slice a n c, .bool b2, .slice a2 n2 c2] 28 (0, 0)) ∧ Below wa.heap.size wa W ∧ OwnW W w42.heap.size u11 L.length M9 ∧ w42.heap.size ≤ W.heap.size) (by refine ⟨?_, ?_, ?_, ?_, ?_, ?_⟩ <;> (repeat' first | (with_reducible first | assumption | (apply Ne.symm; assumption) | apply Nat.le_refl | apply Nat.le_add_right | apply zL | apply zRf | apply Wx.box | apply Wx.box4 | apply zWa | apply Wx.drew | apply zWn | apply bx_drew | apply bx_drewN | apply bx_set3 | apply bx_set2 | apply bx_set4 | apply bx_set1) | ((with_reducible apply bx_new); (focus (go_size; done))) | (with_reducible first | apply bx_set4a | apply bx_set4b | (refine (blkVia (by assumption) ?_).trans ?_) | (refine Wx.below ?_ (by assumption)) | apply OwS.setLow | apply OwS.alloc | apply OwS.drew | apply OwS.drewN | (refine OwS.low (by assumption) ?_) | (refine OwS.below ?_ (by assumption)) | apply OwnW.setLow | apply zOl | apply zFa | apply zDn | apply zDr | apply zAl | apply zSt | refine zVi (by assumption) ?_ ?_) | go_size | omega)) ?_
    clear k_C_47_0 k_C_47_1 f_C_47 H_C_47
    clear k_R_47_0 k_R_47_1 k_R_47_2 k_R_47_3 f_R_47 H_R_47
    clear k_X_47_0 k_X_47_1 k_X_47_2 k_X_47_3 f_X_47 H_X_47
    clear hB47
    rintro w15 ⟨hB15, H_C_15, H_R_15, hb41, how, hsz⟩
    obtain ⟨k_C_15_0, k_C_15_1, f_C_15, l_C_15⟩ := bk2 H_C_15
    replace H_C_15 := Lib.hid H_C_15
    obtain ⟨k_R_15_0, k_R_15_1, k_R_15_2, k_R_15_3, f_R_15, l_R_15⟩ := bk4 H_R_15
    replace H_R_15 := Lib.hid H_R_15
    clear hkp hb48 hb41c hC48 hR48 hoc hBc hsc TM hx3 hx4
    have hg0 := how.rd.congr hv9
    have hr0 := hrc.below hb41
    go_upto_region 17 with (first | (first | (have _t := tok49; go_at_call 9; (with_reducible refine ((TE _ _ _ hg0 hr0)).mono ?_); rintro e w49 ⟨rfl, hb49⟩; clear tok49 _t; have hz49 := hb49.size; (try simp only [World.size_alloc, World.size_setCell, World.size_drew, World.size_drewN'] at hz49); (try (have kq := cellAt hb49 (w.heap.size) (by go_size); have k49_w_0_0 := kq 0; have k49_w_0_1 := kq 1; clear kq; have f49_w_0 := frozAt hb49 (w.heap.size) (by go_size); simp [go_sem, *] at k49_w_0_0 k49_w_0_1 f49_w_0)); (try have l49_w_0 : w.heap.size < w49.heap.size := by omega); (try (have kq := cellAt hb49 (w.heap.size + 1) (by go_size); have k49_w_1_0 := kq 0; have k49_w_1_1 := kq 1; have k49_w_1_2 := kq 2; have k49_w_1_3 := kq 3; clear kq; have f49_w_1 := frozAt hb49 (w.heap.size + 1) (by go_size); simp [go_sem, *] at k49_w_1_0 k49_w_1_1 k49_w_1_2 k49_w_1_3 f49_w_1)); (try have l49_w_1 : w.heap.size + 1 < w49.heap.size := by omega); (try clear k45_w_0_0 k45_w_0_1 f45_w_0); (try clear l45_w_0); (try clear k45_w_1_0 k45_w_1_1 k45_w_1_2 k45_w_1_3 f45_w_1); (try clear l45_w_1); (try clear k46_w_0_0 k46_w_0_1 f46_w_0); (try clear l46_w_0); (try clear k46_w_1_0 k46_w_1_1 k46_w_1_2 k46_w_1_3 f46_w_1); (try clear l46_w_1); (try clear k47_w_0_0 k47_w_0_1 f47_w_0); (try clear l47_w_0); (try clear k47_w_1_0 k47_w_1_1 k47_w_1_2 k47_w_1_3 f47_w_1); (try clear l47_w_1); (try clear k48_w_0_0 k48_w_0_1 f48_w_0); (try clear l48_w_0); (try clear k48_w_1_0 k48_w_1_1 k48_w_1_2 k48_w_1_3 f48_w_1); (try clear l48_w_1))))
    have H_C_49 := (hb49.block (w.heap.size) (blk_lt' H_C_15.out)).trans H_C_15.out
    clear k_C_15_0 k_C_15_1 f_C_15 H_C_15
    obtain ⟨k_C_49_0, k_C_49_1, f_C_49, l_C_49⟩ := bk2 H_C_49
    replace H_C_49 := Lib.hid H_C_49
    have H_R_49 := (hb49.block (w.heap.size + 1) (blk_lt' H_R_15.out)).trans H_R_15.out
    clear k_R_15_0 k_R_15_1 k_R_15_2 k_R_15_3 f_R_15 H_R_15
    obtain ⟨k_R_49_0, k_R_49_1, k_R_49_2, k_R_49_3, f_R_49, l_R_49⟩ := bk4 H_R_49
    replace H_R_49 := Lib.hid H_R_49
    have hB49 : Below w.heap.size w w49 := below_via hb49 (by assumption) (by first | exact hB15.size | go_size)
    replace how := how.below hb49
    replace hb41 := below_via hb49 hb41 hb41.size
    have hz49 := hb49.size
    clear hg0 hr0
    have hle : ∀ j, j < M9.length → (M9[j]?.getD wv0).len ≤ 80 := fun j hj => by
      have h1 := (how.own j hj).len
      have h2 := hv9 j (by have := how.cnt; omega)
      have h3 := hbd.2 j (by have := how.cnt; omega)
      rw [← h2] at h3
      unfold wvL at h3
      simp only at h3
      omega
    have TS := markRatioS_any (k := 1) how (by omega) (by omega) hbd.1 (fun j hj => Nat.le_trans (hle j hj) (by omega))
    have hlm : ∀ j, j < 2 * L.length → lenM M9 j ≤ 1000 := fun j hj => Nat.le_trans (hle j (by have := how.cnt; omega)) (by omega)
    have hV0 := mkK_pos (k := 1) (l := lenM M9) (by omega) (2 * L.length)
    have hV1 := mkK_le (k := 1) (l := lenM M9) (C := 1000) (m := 2 * L.length) hlm (2 * L.length) (Nat.le_refl _)
    have hV2 : mkK 1 (lenM M9) (2 * L.length) ≤ 100000 := by
      have := hbd.1
      omega
    have TH : ∀ (W : World), RdR W u11 L.length (mkL 1 (lenM M9)) → Calls Try.prog 13 #[u11, .int .i64 1] W fun e w' => e = .returned (.int .i64 (mkK 1 (lenM M9) (2 * L.length))) ∧ Below W.heap.size W w' := fun W g => heldRatioS_any g (by omega) (by omega) hbd.1 hlm
    have HLM := Lib.hid hlm
    have HLE := Lib.hid hle
    clear hlm hle hV1
    generalize mkK 1 (lenM M9) (2 * L.length) = V at *
    have hd0 : decide (V < 0) = false := by simp; omega
    have hqq : (V != V) = false := by simp
    go_upto_region 18 with (first | (first | (go_at_call 12; (with_reducible refine ((TS)).mono ?_); rintro e w50 ⟨rfl, ⟨M10, ho10, hv10⟩, hb50⟩)))
    have hb50c : Below wa.heap.size w49 w50 := hb50.mono (by omega)
    have hb41c := hb41.trans hb50c
    have hC50 := (hb50c.block _ lC41).trans H_C_49.out
    have hR50 := (hb50c.block _ lR41).trans H_R_49.out
    have hBc := hB49.trans (hb50c.mono s41)
    have hsc := hb50.size
    clear how
    replace H_C_49 := H_C_49.out
    replace H_R_49 := H_R_49.out
    refine chk (fun W => Below w.heap.size w W ∧ W.heap[w.heap.size]? = some (.cells #[.int .i64 A, .int .i64 B] 23 (0, 0)) ∧ W.heap[w.heap.size + 1]? = some (.cells #[.bool b, .slice a n c, .bool b2, .slice a2 n2 c2] 28 (0, 0)) ∧ Below wa.heap.size wa W ∧ OwnW W w42.heap.size u11 L.length M10 ∧ w42.heap.size ≤ W.heap.size) (by refine ⟨?_, ?_, ?_, ?_, ?_, ?_⟩ <;> (repeat' first | (with_reducible first | assumption | (apply Ne.symm; assumption) | apply Nat.le_refl | apply Nat.le_add_right | apply zL | apply zRf | apply Wx.box | apply Wx.box4 | apply zWa | apply Wx.drew | apply zWn | apply bx_drew | apply bx_drewN | apply bx_set3 | apply bx_set2 | apply bx_set4 | apply bx_set1) | ((with_reducible apply bx_new); (focus (go_size; done))) | (with_reducible first | apply bx_set4a | apply bx_set4b | (refine (blkVia (by assumption) ?_).trans ?_) | (refine Wx.below ?_ (by assumption)) | apply OwS.setLow | apply OwS.alloc | apply OwS.drew | apply OwS.drewN | (refine OwS.low (by assumption) ?_) | (refine OwS.below ?_ (by assumption)) | apply OwnW.setLow | apply zOl | apply zFa | apply zDn | apply zDr | apply zAl | apply zSt | refine zVi (by assumption) ?_ ?_) | go_size | omega)) ?_
    clear k_C_49_0 k_C_49_1 f_C_49 H_C_49
    clear k_R_49_0 k_R_49_1 k_R_49_2 k_R_49_3 f_R_49 H_R_49
    clear hB49
    rintro w16 ⟨hB16, H_C_16, H_R_16, hb41, how, hsz⟩
    obtain ⟨k_C_16_0, k_C_16_1, f_C_16, l_C_16⟩ := bk2 H_C_16
    replace H_C_16 := Lib.hid H_C_16
    obtain ⟨k_R_16_0, k_R_16_1, k_R_16_2, k_R_16_3, f_R_16, l_R_16⟩ := bk4 H_R_16
    replace H_R_16 := Lib.hid H_R_16
    clear hb50c hb41c hC50 hR50 hBc hsc ho10 TS
    have hm0 := how.rd.congr hv10
    go_upto_region 24 with (first | (first | (have _t := tok51; go_at_call 13; (with_reducible refine ((TH _ hm0)).mono ?_); rintro e w51 ⟨rfl, hb51⟩; clear tok51 _t; have hz51 := hb51.size; (try simp only [World.size_alloc, World.size_setCell, World.size_drew, World.size_drewN'] at hz51); (try (have kq := cellAt hb51 (w.heap.size) (by go_size); have k51_w_0_0 := kq 0; have k51_w_0_1 := kq 1; clear kq; have f51_w_0 := frozAt hb51 (w.heap.size) (by go_size); simp [go_sem, *] at k51_w_0_0 k51_w_0_1 f51_w_0)); (try have l51_w_0 : w.heap.size < w51.heap.size := by omega); (try (have kq := cellAt hb51 (w.heap.size + 1) (by go_size); have k51_w_1_0 := kq 0; have k51_w_1_1 := kq 1; have k51_w_1_2 := kq 2; have k51_w_1_3 := kq 3; clear kq; have f51_w_1 := frozAt hb51 (w.heap.size + 1) (by go_size); simp [go_sem, *] at k51_w_1_0 k51_w_1_1 k51_w_1_2 k51_w_1_3 f51_w_1)); (try have l51_w_1 : w.heap.size + 1 < w51.heap.size := by omega); (try clear k47_w_0_0 k47_w_0_1 f47_w_0); (try clear l47_w_0); (try clear k47_w_1_0 k47_w_1_1 k47_w_1_2 k47_w_1_3 f47_w_1); (try clear l47_w_1); (try clear k48_w_0_0 k48_w_0_1 f48_w_0); (try clear l48_w_0); (try clear k48_w_1_0 k48_w_1_1 k48_w_1_2 k48_w_1_3 f48_w_1); (try clear l48_w_1); (try clear k49_w_0_0 k49_w_0_1 f49_w_0); (try clear l49_w_0); (try clear k49_w_1_0 k49_w_1_1 k49_w_1_2 k49_w_1_3 f49_w_1); (try clear l49_w_1); (try clear k50_w_0_0 k50_w_0_1 f50_w_0); (try clear l50_w_0); (try clear k50_w_1_0 k50_w_1_1 k50_w_1_2 k50_w_1_3 f50_w_1); (try clear l50_w_1))))
    have H_C_51 := (hb51.block (w.heap.size) (blk_lt' H_C_16.out)).trans H_C_16.out
    clear k_C_16_0 k_C_16_1 f_C_16 H_C_16
    obtain ⟨k_C_51_0, k_C_51_1, f_C_51, l_C_51⟩ := bk2 H_C_51
    replace H_C_51 := Lib.hid H_C_51
    have H_R_51 := (hb51.block (w.heap.size + 1) (blk_lt' H_R_16.out)).trans H_R_16.out
    clear k_R_16_0 k_R_16_1 k_R_16_2 k_R_16_3 f_R_16 H_R_16
    obtain ⟨k_R_51_0, k_R_51_1, k_R_51_2, k_R_51_3, f_R_51, l_R_51⟩ := bk4 H_R_51
    replace H_R_51 := Lib.hid H_R_51
    have hB51 : Below w.heap.size w w51 := below_via hb51 (by assumption) (by first | exact hB16.size | go_size)
    replace hm0 := hm0.below hb51
    replace hb41 := below_via hb51 hb41 hb41.size
    clear how
    go_cut [16, 17] (fun s16 s17 wx => ∃ v, s16 = v ∧ s17 = .bool ok ∧ RdR wx v L.length (rvL L) ∧ Below w51.heap.size w51 wx)
    case first =>
      go_region_with (first | (first | (have _t := tok53; go_at_call 6; refine (toCurve_any _ _ _).mono ?_; rintro e w53 ⟨rfl, hb53⟩; clear tok53 _t; have hz53 := hb53.size; (try simp only [World.size_alloc, World.size_setCell, World.size_drew, World.size_drewN'] at hz53); (try (have kq := cellAt hb53 (w.heap.size) (by go_size); have k53_w_0_0 := kq 0; have k53_w_0_1 := kq 1; clear kq; have f53_w_0 := frozAt hb53 (w.heap.size) (by go_size); simp [go_sem, *] at k53_w_0_0 k53_w_0_1 f53_w_0)); (try have l53_w_0 : w.heap.size < w53.heap.size := by omega); (try (have kq := cellAt hb53 (w.heap.size + 1) (by go_size); have k53_w_1_0 := kq 0; have k53_w_1_1 := kq 1; have k53_w_1_2 := kq 2; have k53_w_1_3 := kq 3; clear kq; have f53_w_1 := frozAt hb53 (w.heap.size + 1) (by go_size); simp [go_sem, *] at k53_w_1_0 k53_w_1_1 k53_w_1_2 k53_w_1_3 f53_w_1)); (try have l53_w_1 : w.heap.size + 1 < w53.heap.size := by omega); (try clear k49_w_0_0 k49_w_0_1 f49_w_0); (try clear l49_w_0); (try clear k49_w_1_0 k49_w_1_1 k49_w_1_2 k49_w_1_3 f49_w_1); (try clear l49_w_1); (try clear k50_w_0_0 k50_w_0_1 f50_w_0); (try clear l50_w_0); (try clear k50_w_1_0 k50_w_1_1 k50_w_1_2 k50_w_1_3 f50_w_1); (try clear l50_w_1); (try clear k51_w_0_0 k51_w_0_1 f51_w_0); (try clear l51_w_0); (try clear k51_w_1_0 k51_w_1_1 k51_w_1_2 k51_w_1_3 f51_w_1); (try clear l51_w_1); (try clear k52_w_0_0 k52_w_0_1 f52_w_0); (try clear l52_w_0); (try clear k52_w_1_0 k52_w_1_1 k52_w_1_2 k52_w_1_3 f52_w_1); (try clear l52_w_1)) | (have _t := tok54; go_at_call 7; (with_reducible refine ((TR _ (by repeat' first | (with_reducible first | apply zRf | assumption | apply zDn | apply zDr | apply zAl | apply zSt | refine zVi (by assumption) ?_ ?_) | go_size))).mono ?_); rintro e w54 ⟨a7, a8, rfl, ho7, ho8, hf78, hb54⟩; clear tok54 _t; have hz54 := hb54.size; (try simp only [World.size_alloc, World.size_setCell, World.size_drew, World.size_drewN'] at hz54); (try (have kq := cellAt hb54 (w.heap.size) (by go_size); have k54_w_0_0 := kq 0; have k54_w_0_1 := kq 1; clear kq; have f54_w_0 := frozAt hb54 (w.heap.size) (by go_size); simp [go_sem, *] at k54_w_0_0 k54_w_0_1 f54_w_0)); (try have l54_w_0 : w.heap.size < w54.heap.size := by omega); (try (have kq := cellAt hb54 (w.heap.size + 1) (by go_size); have k54_w_1_0 := kq 0; have k54_w_1_1 := kq 1; have k54_w_1_2 := kq 2; have k54_w_1_3 := kq 3; clear kq; have f54_w_1 := frozAt hb54 (w.heap.size + 1) (by go_size); simp [go_sem, *] at k54_w_1_0 k54_w_1_1 k54_w_1_2 k54_w_1_3 f54_w_1)); (try have l54_w_1 : w.heap.size + 1 < w54.heap.size := by omega); (try clear k50_w_0_0 k50_w_0_1 f50_w_0); (try clear l50_w_0); (try clear k50_w_1_0 k50_w_1_1 k50_w_1_2 k50_w_1_3 f50_w_1); (try clear l50_w_1); (try clear k51_w_0_0 k51_w_0_1 f51_w_0); (try clear l51_w_0); (try clear k51_w_1_0 k51_w_1_1 k51_w_1_2 k51_w_1_3 f51_w_1); (try clear l51_w_1); (try clear k52_w_0_0 k52_w_0_1 f52_w_0); (try clear l52_w_0); (try clear k52_w_1_0 k52_w_1_1 k52_w_1_2 k52_w_1_3 f52_w_1); (try clear l52_w_1); (try clear k53_w_0_0 k53_w_0_1 f53_w_0); (try clear l53_w_0); (try clear k53_w_1_0 k53_w_1_1 k53_w_1_2 k53_w_1_3 f53_w_1); (try clear l53_w_1)) | (have _t := tok55; go_at_call 8; (with_reducible refine ((CI _ _ _ (ho7.sx.below (by repeat' first | (with_reducible first | apply zRf | assumption | apply zDn | apply zDr | apply zAl | apply zSt | refine zVi (by assumption) ?_ ?_) | go_size)) (ho8.sx.below (by repeat' first | (with_reducible first | apply zRf | assumption | apply zDn | apply zDr | apply zAl | apply zSt | refine zVi (by assumption) ?_ ?_) | go_size)))).mono ?_); rintro e w55 ⟨v55, M55, rfl, ho55, hv55, hb55⟩; clear tok55 _t; have hz55 := hb55.size; (try simp only [World.size_alloc, World.size_setCell, World.size_drew, World.size_drewN'] at hz55); (try (have kq := cellAt hb55 (w.heap.size) (by go_size); have k55_w_0_0 := kq 0; have k55_w_0_1 := kq 1; clear kq; have f55_w_0 := frozAt hb55 (w.heap.size) (by go_size); simp [go_sem, *] at k55_w_0_0 k55_w_0_1 f55_w_0)); (try have l55_w_0 : w.heap.size < w55.heap.size := by omega); (try (have kq := cellAt hb55 (w.heap.size + 1) (by go_size); have k55_w_1_0 := kq 0; have k55_w_1_1 := kq 1; have k55_w_1_2 := kq 2; have k55_w_1_3 := kq 3; clear kq; have f55_w_1 := frozAt hb55 (w.heap.size + 1) (by go_size); simp [go_sem, *] at k55_w_1_0 k55_w_1_1 k55_w_1_2 k55_w_1_3 f55_w_1)); (try have l55_w_1 : w.heap.size + 1 < w55.heap.size := by omega); (try clear k51_w_0_0 k51_w_0_1 f51_w_0); (try clear l51_w_0); (try clear k51_w_1_0 k51_w_1_1 k51_w_1_2 k51_w_1_3 f51_w_1); (try clear l51_w_1); (try clear k52_w_0_0 k52_w_0_1 f52_w_0); (try clear l52_w_0); (try clear k52_w_1_0 k52_w_1_1 k52_w_1_2 k52_w_1_3 f52_w_1); (try clear l52_w_1); (try clear k53_w_0_0 k53_w_0_1 f53_w_0); (try clear l53_w_0); (try clear k53_w_1_0 k53_w_1_1 k53_w_1_2 k53_w_1_3 f53_w_1); (try clear l53_w_1); (try clear k54_w_0_0 k54_w_0_1 f54_w_0); (try clear l54_w_0); (try clear k54_w_1_0 k54_w_1_1 k54_w_1_2 k54_w_1_3 f54_w_1); (try clear l54_w_1))))
      all_goals
        go_wp2_with fail
        go_meet
        refine ⟨_, rfl, rfl, ho55.rd.congr hv55, ?_⟩
        repeat' first | (with_reducible first | apply zRf | assumption | apply zDn | apply zDr | apply zAl | apply zSt | refine zVi (by assumption) ?_ ?_) | go_size
    case rest =>
    obtain ⟨v55, rfl, rfl, hg0, hbd5⟩ := hcut
    go_upto_region 25 with fail
    replace hm0 := hm0.below hbd5
    have hr0 := hrc.below (below_via hbd5 hb41 hb41.size)
    have hBc := below_via hbd5 hB51 hB51.size
    have hsz5 := hBc.size
    clear TR CI
    go_wp2_with (first | (first | (have _t := tok56; go_at_call 9; (with_reducible refine ((TE _ _ _ hg0 hr0)).mono ?_); rintro e w56 ⟨rfl, hb56⟩; clear tok56 _t; have hz56 := hb56.size; (try simp only [World.size_alloc, World.size_setCell, World.size_drew, World.size_drewN'] at hz56); (try (have kq := cellAt hb56 (w.heap.size) (by go_size); have k56_w_0_0 := kq 0; have k56_w_0_1 := kq 1; clear kq; have f56_w_0 := frozAt hb56 (w.heap.size) (by go_size); simp [go_sem, *] at k56_w_0_0 k56_w_0_1 f56_w_0)); (try have l56_w_0 : w.heap.size < w56.heap.size := by omega); (try (have kq := cellAt hb56 (w.heap.size + 1) (by go_size); have k56_w_1_0 := kq 0; have k56_w_1_1 := kq 1; have k56_w_1_2 := kq 2; have k56_w_1_3 := kq 3; clear kq; have f56_w_1 := frozAt hb56 (w.heap.size + 1) (by go_size); simp [go_sem, *] at k56_w_1_0 k56_w_1_1 k56_w_1_2 k56_w_1_3 f56_w_1)); (try have l56_w_1 : w.heap.size + 1 < w56.heap.size := by omega); (try clear k52_w_0_0 k52_w_0_1 f52_w_0); (try clear l52_w_0); (try clear k52_w_1_0 k52_w_1_1 k52_w_1_2 k52_w_1_3 f52_w_1); (try clear l52_w_1); (try clear k53_w_0_0 k53_w_0_1 f53_w_0); (try clear l53_w_0); (try clear k53_w_1_0 k53_w_1_1 k53_w_1_2 k53_w_1_3 f53_w_1); (try clear l53_w_1); (try clear k54_w_0_0 k54_w_0_1 f54_w_0); (try clear l54_w_0); (try clear k54_w_1_0 k54_w_1_1 k54_w_1_2 k54_w_1_3 f54_w_1); (try clear l54_w_1); (try clear k55_w_0_0 k55_w_0_1 f55_w_0); (try clear l55_w_0); (try clear k55_w_1_0 k55_w_1_1 k55_w_1_2 k55_w_1_3 f55_w_1); (try clear l55_w_1)) | (have _t := tok57; go_at_call 13; (with_reducible refine ((TH _ (hm0.below hb56))).mono ?_); rintro e w57 ⟨rfl, hb57⟩; clear tok57 _t; have hz57 := hb57.size; (try simp only [World.size_alloc, World.size_setCell, World.size_drew, World.size_drewN'] at hz57); (try (have kq := cellAt hb57 (w.heap.size) (by go_size); have k57_w_0_0 := kq 0; have k57_w_0_1 := kq 1; clear kq; have f57_w_0 := frozAt hb57 (w.heap.size) (by go_size); simp [go_sem, *] at k57_w_0_0 k57_w_0_1 f57_w_0)); (try have l57_w_0 : w.heap.size < w57.heap.size := by omega); (try (have kq := cellAt hb57 (w.heap.size + 1) (by go_size); have k57_w_1_0 := kq 0; have k57_w_1_1 := kq 1; have k57_w_1_2 := kq 2; have k57_w_1_3 := kq 3; clear kq; have f57_w_1 := frozAt hb57 (w.heap.size + 1) (by go_size); simp [go_sem, *] at k57_w_1_0 k57_w_1_1 k57_w_1_2 k57_w_1_3 f57_w_1)); (try have l57_w_1 : w.heap.size + 1 < w57.heap.size := by omega); (try clear k53_w_0_0 k53_w_0_1 f53_w_0); (try clear l53_w_0); (try clear k53_w_1_0 k53_w_1_1 k53_w_1_2 k53_w_1_3 f53_w_1); (try clear l53_w_1); (try clear k54_w_0_0 k54_w_0_1 f54_w_0); (try clear l54_w_0); (try clear k54_w_1_0 k54_w_1_1 k54_w_1_2 k54_w_1_3 f54_w_1); (try clear l54_w_1); (try clear k55_w_0_0 k55_w_0_1 f55_w_0); (try clear l55_w_0); (try clear k55_w_1_0 k55_w_1_1 k55_w_1_2 k55_w_1_3 f55_w_1); (try clear l55_w_1); (try clear k56_w_0_0 k56_w_0_1 f56_w_0); (try clear l56_w_0); (try clear k56_w_1_0 k56_w_1_1 k56_w_1_2 k56_w_1_3 f56_w_1); (try clear l56_w_1))))
    go_ret
    refine ⟨rfl, ?_⟩
    exact below_via hb57 (below_via hb56 hBc hsz5) (by have := hb56.size; omega)
end Go.Proofs.Ytijpfnkhaldfeaa
