/- Sums of multiples of points, arguments tested: the program. -/
import Derived.Test.YtgjppinjapdbeaaPtZ5
namespace Go.Proofs.Ytgjppinjapdbeaa
open Go.RowKit
set_option linter.unusedVariables false
set_option maxHeartbeats 16000000
set_option maxRecDepth 20000
set_option linter.unusedSimpArgs false
attribute [local go_sem] openAt openUpon
theorem CombinePoints_any (A B : Int) (a0 b0 : Option Addr) (n c0 m d0 : Nat) (zs ns : List Int) (w : World) (hp : Px w a0 n c0 zs) (hs : Sx w b0 m d0 ns) :
    Calls Try.prog 11 #[.agg #[.int .i64 A, .int .i64 B], .slice a0 n c0, .slice b0 m d0] w fun r w' =>
      r = .returned (.tuple #[.agg #[.int .i64 (cmV A B zs n ns m).1, .int .i64 (cmV A B zs n ns m).2.1, .int .i64 (cmV A B zs n ns m).2.2.1], .bool (cmV A B zs n ns m).2.2.2]) ∧ Below w.heap.size w w' := by
  have hnm := hp.cap
  have hnm2 := hp.max
  have T1 := fun (W : World) (hW : Below w.heap.size w W) => Lib.hid (pointList_any A B a0 n c0 zs W (hp.below hW))
  have T2 := fun (W : World) (hW : Below w.heap.size w W) => Lib.hid (factorsFit_any (a := a0) (n := n) (c := c0) W (hs.below hW) (by omega))
  unfold maxLen at hnm2
  rcases cmV_cases A B zs n ns m with ⟨h1, e1⟩ | ⟨h1, ⟨h2, e1⟩ | ⟨h2, e1⟩⟩
  · rw [e1]
    rw [h1] at T1
    clear h1 e1
    have tok1 : True := trivial
    go_enter Try.func11, Try.ntmps11
    go_upto_region 2 with (first | (have _t := tok1; go_at_call 27; (with_reducible refine ((T1 _ (by repeat' first | (with_reducible first | apply zRf | assumption | apply zDn | apply zDr | apply zAl | apply zSt | refine zVi (by assumption) ?_ ?_) | go_size)).out).mono ?_); rintro e w1 ⟨rfl, hb1⟩; clear tok1 _t; have hz1 := hb1.size; (try simp only [World.size_alloc, World.size_setCell, World.size_drew, World.size_drewN'] at hz1); (try (have kq := cellAt hb1 (w.heap.size) (by go_size); have k1_w_0_0 := kq 0; have k1_w_0_1 := kq 1; clear kq; have f1_w_0 := frozAt hb1 (w.heap.size) (by go_size); simp [go_sem, *] at k1_w_0_0 k1_w_0_1 f1_w_0)); (try have l1_w_0 : w.heap.size < w1.heap.size := by omega); (try (have kq := cellAt hb1 (w.heap.size + 1) (by go_size); have k1_w_1_0 := kq 0; have k1_w_1_1 := kq 1; have k1_w_1_2 := kq 2; clear kq; have f1_w_1 := frozAt hb1 (w.heap.size + 1) (by go_size); simp [go_sem, *] at k1_w_1_0 k1_w_1_1 k1_w_1_2 f1_w_1)); (try have l1_w_1 : w.heap.size + 1 < w1.heap.size := by omega)) | (go_at_call 28; (with_reducible refine ((T2 _ (by repeat' first | (with_reducible first | apply zRf | assumption | apply zDn | apply zDr | apply zAl | apply zSt | refine zVi (by assumption) ?_ ?_) | go_size)).out).mono ?_); rintro e w' ⟨rfl, rfl⟩))
    iterate 40 (first | (with_reducible show bodyPost _ _ _ _ _ _) | (with_reducible refine wp_ret ?_) | go_values | go_skip | go_guarded | go_step | go_upon | go_back | skip)
    refine bodyPost_ret (v := _) (by simp [results, Try.results11, go_sem, *]) rfl ⟨rfl, ?_⟩
    repeat' first | (with_reducible first | apply zRf | assumption | apply zDn | apply zDr | apply zAl | apply zSt | refine zVi (by assumption) ?_ ?_) | go_size
  · rw [e1]
    rw [h1] at T1
    rw [h2] at T2
    clear h1 h2 e1
    have tok1 : True := trivial
    go_enter Try.func11, Try.ntmps11
    go_upto_region 2 with (first | (have _t := tok1; go_at_call 27; (with_reducible refine ((T1 _ (by repeat' first | (with_reducible first | apply zRf | assumption | apply zDn | apply zDr | apply zAl | apply zSt | refine zVi (by assumption) ?_ ?_) | go_size)).out).mono ?_); rintro e w1 ⟨rfl, hb1⟩; clear tok1 _t; have hz1 := hb1.size; (try simp only [World.size_alloc, World.size_setCell, World.size_drew, World.size_drewN'] at hz1); (try (have kq := cellAt hb1 (w.heap.size) (by go_size); have k1_w_0_0 := kq 0; have k1_w_0_1 := kq 1; clear kq; have f1_w_0 := frozAt hb1 (w.heap.size) (by go_size); simp [go_sem, *] at k1_w_0_0 k1_w_0_1 f1_w_0)); (try have l1_w_0 : w.heap.size < w1.heap.size := by omega); (try (have kq := cellAt hb1 (w.heap.size + 1) (by go_size); have k1_w_1_0 := kq 0; have k1_w_1_1 := kq 1; have k1_w_1_2 := kq 2; clear kq; have f1_w_1 := frozAt hb1 (w.heap.size + 1) (by go_size); simp [go_sem, *] at k1_w_1_0 k1_w_1_1 k1_w_1_2 f1_w_1)); (try have l1_w_1 : w.heap.size + 1 < w1.heap.size := by omega)) | (go_at_call 28; (with_reducible refine ((T2 _ (by repeat' first | (with_reducible first | apply zRf | assumption | apply zDn | apply zDr | apply zAl | apply zSt | refine zVi (by assumption) ?_ ?_) | go_size)).out).mono ?_); rintro e w' ⟨rfl, rfl⟩))
    iterate 40 (first | (with_reducible show bodyPost _ _ _ _ _ _) | (with_reducible refine wp_ret ?_) | go_values | go_skip | go_guarded | go_step | go_upon | go_back | skip)
    refine bodyPost_ret (v := _) (by simp [results, Try.results11, go_sem, *]) rfl ⟨rfl, ?_⟩
    repeat' first | (with_reducible first | apply zRf | assumption | apply zDn | apply zDr | apply zAl | apply zSt | refine zVi (by assumption) ?_ ?_) | go_size
  · rw [e1]
    clear e1
    obtain ⟨hcv, hn4, hpt⟩ := plB_out h1
    obtain ⟨rfl, hfit⟩ := fitB_out h2
    rw [h1] at T1
    rw [h2] at T2
    clear h1 h2
    have hcb := cvB_bd hcv
    have TC := fun (W : World) (hW : Below w.heap.size w W) => combine_any A B a0 b0 m c0 d0 zs ns W (hp.below hW) (hs.below hW) hcv (by omega) (by omega) hn4 hpt hfit
    obtain ⟨r1, r2, r3, r4, hr⟩ := pt4 (cmS A zs ns m)
    simp only [hr] at TC ⊢
    clear hr hpt hfit hcv
    have tok1 : True := trivial
    have tok2 : True := trivial
    have tok3 : True := trivial
    go_enter Try.func11, Try.ntmps11
    go_upto_region 1 with fail
    refine chk (fun W => Below w.heap.size w W ∧ W.heap[w.heap.size]? = some (.cells #[.int .i64 A, .int .i64 B] 31 (0, 0)) ∧ W.heap[w.heap.size + 1]? = some (.cells #[.int .i64 0, .int .i64 0, .int .i64 0] 28 (0, 0))) (by refine ⟨?_, ?_, ?_⟩ <;> (repeat' first | (with_reducible first | assumption | (apply Ne.symm; assumption) | apply Nat.le_refl | apply Nat.le_add_right | apply zL | apply zRf | apply Wx.box | apply Wx.box4 | apply zWa | apply Wx.drew | apply zWn | apply bx_drew | apply bx_drewN | apply bx_set3 | apply bx_set2 | apply bx_set4 | apply bx_set1) | ((with_reducible apply bx_new); (focus (go_size; done))) | (with_reducible first | apply zOl | apply zFa | apply zDn | apply zDr | apply zAl | apply zSt | refine zVi (by assumption) ?_ ?_) | go_size | omega)) ?_
    rintro w40 ⟨hB40, H_C_40, H_O_40⟩
    obtain ⟨k_C_40_0, k_C_40_1, f_C_40, l_C_40⟩ := bk2 H_C_40
    replace H_C_40 := Lib.hid H_C_40
    obtain ⟨k_O_40_0, k_O_40_1, k_O_40_2, f_O_40, l_O_40⟩ := bk3 H_O_40
    replace H_O_40 := Lib.hid H_O_40
    go_upto_region 3 with (first | (have _t := tok1; go_at_call 27; (with_reducible refine ((T1 _ (by repeat' first | (with_reducible first | apply zRf | assumption | apply zDn | apply zDr | apply zAl | apply zSt | refine zVi (by assumption) ?_ ?_) | go_size)).out).mono ?_); rintro e w1 ⟨rfl, hb1⟩; clear tok1 _t; have hz1 := hb1.size; (try simp only [World.size_alloc, World.size_setCell, World.size_drew, World.size_drewN'] at hz1); (try (have kq := cellAt hb1 (w.heap.size) (by go_size); have k1_w_0_0 := kq 0; have k1_w_0_1 := kq 1; clear kq; have f1_w_0 := frozAt hb1 (w.heap.size) (by go_size); simp [go_sem, *] at k1_w_0_0 k1_w_0_1 f1_w_0)); (try have l1_w_0 : w.heap.size < w1.heap.size := by omega); (try (have kq := cellAt hb1 (w.heap.size + 1) (by go_size); have k1_w_1_0 := kq 0; have k1_w_1_1 := kq 1; have k1_w_1_2 := kq 2; clear kq; have f1_w_1 := frozAt hb1 (w.heap.size + 1) (by go_size); simp [go_sem, *] at k1_w_1_0 k1_w_1_1 k1_w_1_2 f1_w_1)); (try have l1_w_1 : w.heap.size + 1 < w1.heap.size := by omega)) | (go_at_call 28; (with_reducible refine ((T2 _ (by repeat' first | (with_reducible first | apply zRf | assumption | apply zDn | apply zDr | apply zAl | apply zSt | refine zVi (by assumption) ?_ ?_) | go_size)).out).mono ?_); rintro e w' ⟨rfl, rfl⟩))
    have H_C_1 := (hb1.block (w.heap.size) (blk_lt' H_C_40.out)).trans H_C_40.out
    clear k_C_40_0 k_C_40_1 f_C_40 H_C_40
    obtain ⟨k_C_1_0, k_C_1_1, f_C_1, l_C_1⟩ := bk2 H_C_1
    replace H_C_1 := Lib.hid H_C_1
    have H_O_1 := (hb1.block (w.heap.size + 1) (blk_lt' H_O_40.out)).trans H_O_40.out
    clear k_O_40_0 k_O_40_1 k_O_40_2 f_O_40 H_O_40
    obtain ⟨k_O_1_0, k_O_1_1, k_O_1_2, f_O_1, l_O_1⟩ := bk3 H_O_1
    replace H_O_1 := Lib.hid H_O_1
    have hB1 : Below w.heap.size w w1 := below_via hb1 (by assumption) (by go_size)
    clear T1 T2
    replace H_C_1 := H_C_1.out
    replace H_O_1 := H_O_1.out
    refine chk (fun W => Below w.heap.size w W ∧ W.heap[w.heap.size]? = some (.cells #[.int .i64 A, .int .i64 B] 31 (0, 0)) ∧ W.heap[w.heap.size + 1]? = some (.cells #[.int .i64 0, .int .i64 0, .int .i64 0] 28 (0, 0))) (by refine ⟨?_, ?_, ?_⟩ <;> (repeat' first | (with_reducible first | assumption | (apply Ne.symm; assumption) | apply Nat.le_refl | apply Nat.le_add_right | apply zL | apply zRf | apply Wx.box | apply Wx.box4 | apply zWa | apply Wx.drew | apply zWn | apply bx_drew | apply bx_drewN | apply bx_set3 | apply bx_set2 | apply bx_set4 | apply bx_set1) | ((with_reducible apply bx_new); (focus (go_size; done))) | (with_reducible first | apply zOl | apply zFa | apply zDn | apply zDr | apply zAl | apply zSt | refine zVi (by assumption) ?_ ?_) | go_size | omega)) ?_
    clear k_C_1_0 k_C_1_1 f_C_1 H_C_1
    clear k_O_1_0 k_O_1_1 k_O_1_2 f_O_1 H_O_1
    clear hB1
    rintro w2 ⟨hB2, H_C_2, H_O_2⟩
    obtain ⟨k_C_2_0, k_C_2_1, f_C_2, l_C_2⟩ := bk2 H_C_2
    replace H_C_2 := Lib.hid H_C_2
    obtain ⟨k_O_2_0, k_O_2_1, k_O_2_2, f_O_2, l_O_2⟩ := bk3 H_O_2
    replace H_O_2 := Lib.hid H_O_2
    go_wp2_with fail
    (first | (have _t := tok3; go_at_call 29; (with_reducible refine ((TC _ (by repeat' first | (with_reducible first | apply zRf | assumption | apply zDn | apply zDr | apply zAl | apply zSt | refine zVi (by assumption) ?_ ?_) | go_size))).mono ?_); rintro e w3 ⟨rfl, hb3⟩; clear tok3 _t; have hz3 := hb3.size; (try simp only [World.size_alloc, World.size_setCell, World.size_drew, World.size_drewN'] at hz3)))
    dsimp only
    have H_C_3 := (hb3.block (w.heap.size) (blk_lt' H_C_2.out)).trans H_C_2.out
    clear k_C_2_0 k_C_2_1 f_C_2 H_C_2
    obtain ⟨k_C_3_0, k_C_3_1, f_C_3, l_C_3⟩ := bk2 H_C_3
    replace H_C_3 := Lib.hid H_C_3
    have H_O_3 := (hb3.block (w.heap.size + 1) (blk_lt' H_O_2.out)).trans H_O_2.out
    clear k_O_2_0 k_O_2_1 k_O_2_2 f_O_2 H_O_2
    obtain ⟨k_O_3_0, k_O_3_1, k_O_3_2, f_O_3, l_O_3⟩ := bk3 H_O_3
    replace H_O_3 := Lib.hid H_O_3
    have hB3 : Below w.heap.size w w3 := below_via hb3 (by assumption) (by go_size)
    iterate 40 (first | (with_reducible show bodyPost _ _ _ _ _ _) | (with_reducible refine wp_ret ?_) | go_values | go_skip | go_guarded | go_step | go_upon | go_back | skip)
    refine bodyPost_ret (v := .tuple #[.agg #[.int .i64 r1, .int .i64 r2, .int .i64 r3], .bool r4]) (by simp [results, Try.results11, go_sem, k_O_3_0, k_O_3_1, k_O_3_2]) rfl ⟨rfl, ?_⟩
    have HO := H_O_3.out
    (repeat' first | (with_reducible first | assumption | (apply Ne.symm; assumption) | apply Nat.le_refl | apply Nat.le_add_right | apply zL | apply zRf | apply Wx.box | apply Wx.box4 | apply zWa | apply Wx.drew | apply zWn | apply bx_drew | apply bx_drewN | apply bx_set3 | apply bx_set2 | apply bx_set4 | apply bx_set1) | ((with_reducible apply bx_new); (focus (go_size; done))) | (with_reducible first | apply zOl | apply zFa | apply zDn | apply zDr | apply zAl | apply zSt | refine zVi (by assumption) ?_ ?_) | go_size | omega)
end Go.Proofs.Ytgjppinjapdbeaa
