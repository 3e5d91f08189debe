/- Texts of cubics: contracts of both sides. -/
import Derived.Test.YtdcbpgpjiacomaaDoorFq2
import Derived.Test.YtdcbpgpjiacomaaDoorTx6
namespace Go.Proofs.YtdcbpgpjiacomaaDoor
open Go.RowKit
set_option linter.unusedVariables false
set_option maxHeartbeats 4000000
set_option maxRecDepth 20000
set_option linter.unusedSimpArgs false

def ctT (a b c d : Int) : List UInt8 := Lib.itoa a ++ [32] ++ Lib.itoa b ++ [32] ++ Lib.itoa c ++ [32] ++ Lib.itoa d
def ctS (a b c d : Int) : List UInt8 := if cuB a b c d = true then ctT a b c d else []
theorem join_four (x y z u : List UInt8) : Lib.join [x, y, z, u] [32] = x ++ [32] ++ y ++ [32] ++ z ++ [32] ++ u := by
  rw [Lib.join_cons]; simp [Lib.joinTail]
theorem cat7 (D E F G : List UInt8) : Value.string ((⟨D.toArray⟩ : ByteArray) ++ ⟨#[32]⟩ ++ ⟨E.toArray⟩ ++ ⟨#[32]⟩ ++ ⟨F.toArray⟩ ++ ⟨#[32]⟩ ++ ⟨G.toArray⟩) = Value.string ⟨(D ++ [32] ++ E ++ [32] ++ F ++ [32] ++ G).toArray⟩ := by
  rw [show (#[32] : Array UInt8) = [32].toArray from rfl, bcat, bcat, bcat, bcat, bcat, bcat]
theorem sCubicText_any (a b c d : Int) (w : World) : Calls Tryd.prog 19 #[.agg #[.int .i64 a, .int .i64 b, .int .i64 c, .int .i64 d]] w fun r w' =>
    r = .returned (.tuple #[.string ⟨(ctS a b c d).toArray⟩, .bool (cuB a b c d)]) ∧ Below w.heap.size w w' := by
  have T1 := fun W : World => Lib.hid (cuGood_any a b c d W)
  rcases h1 : cuB a b c d with _ | _
  · rw [h1] at T1
    rw [show ctS a b c d = [] from if_neg (by simp [h1])]
    clear h1
    have tok1 : True := trivial
    go_enter Tryd.func19, Tryd.ntmps19
    go_wp2_with (first | (have _t := tok1; go_at_call 43; (with_reducible refine ((T1 _).out).mono ?_); rintro e w1 ⟨rfl, hb1⟩; clear tok1 _t; have hz1 := hb1.size; (try simp only [World.size_alloc, World.size_setCell, World.size_drew, World.size_drewN'] at hz1); (try (have kq := cellAt hb1 (w.heap.size) (by go_size); have k1_w_0_0 := kq 0; have k1_w_0_1 := kq 1; have k1_w_0_2 := kq 2; have k1_w_0_3 := kq 3; clear kq; have f1_w_0 := frozAt hb1 (w.heap.size) (by go_size); simp [go_sem, *] at k1_w_0_0 k1_w_0_1 k1_w_0_2 k1_w_0_3 f1_w_0)); (try have l1_w_0 : w.heap.size < w1.heap.size := by omega); (try (have kq := cellAt hb1 (w.heap.size) (by go_size); have k1_w_0_0 := kq 0; have k1_w_0_1 := kq 1; have k1_w_0_2 := kq 2; have k1_w_0_3 := kq 3; clear kq; have f1_w_0 := frozAt hb1 (w.heap.size) (by go_size); simp [go_sem, *] at k1_w_0_0 k1_w_0_1 k1_w_0_2 k1_w_0_3 f1_w_0)); (try have l1_w_0 : w.heap.size < w1.heap.size := by omega)))
    go_ret2
    refine ⟨rfl, ?_⟩
    repeat' first | (with_reducible first | apply zRf | assumption | apply zDn | apply zDr | apply zAl | apply zSt | refine zVi (by assumption) ?_ ?_) | go_size
  · rw [h1] at T1
    obtain ⟨_, b1, b2, b3, b4⟩ := cuB_bd h1
    have I1 := fun W : World => Lib.hid (l1Int_any a (by omega) (by omega) W)
    have I2 := fun W : World => Lib.hid (l1Int_any b (by omega) (by omega) W)
    have I3 := fun W : World => Lib.hid (l1Int_any c (by omega) (by omega) W)
    have I4 := fun W : World => Lib.hid (l1Int_any d (by omega) (by omega) W)
    have l1 := Lib.itoa_length_le a (by omega) (by omega)
    have l2 := Lib.itoa_length_le b (by omega) (by omega)
    have l3 := Lib.itoa_length_le c (by omega) (by omega)
    have l4 := Lib.itoa_length_le d (by omega) (by omega)
    rw [show ctS a b c d = ctT a b c d from if_pos h1]
    unfold ctT
    rw [← cat7]
    clear h1
    generalize Lib.itoa a = D at *
    generalize Lib.itoa b = E at *
    generalize Lib.itoa c = F at *
    generalize Lib.itoa d = G at *
    have tok1 : True := trivial
    go_enter Tryd.func19, Tryd.ntmps19
    go_upto_region 3 with (first | (have _t := tok1; go_at_call 43; (with_reducible refine ((T1 _).out).mono ?_); rintro e w1 ⟨rfl, hb1⟩; clear tok1 _t; have hz1 := hb1.size; (try simp only [World.size_alloc, World.size_setCell, World.size_drew, World.size_drewN'] at hz1); (try (have kq := cellAt hb1 (w.heap.size) (by go_size); have k1_w_0_0 := kq 0; have k1_w_0_1 := kq 1; have k1_w_0_2 := kq 2; have k1_w_0_3 := kq 3; clear kq; have f1_w_0 := frozAt hb1 (w.heap.size) (by go_size); simp [go_sem, *] at k1_w_0_0 k1_w_0_1 k1_w_0_2 k1_w_0_3 f1_w_0)); (try have l1_w_0 : w.heap.size < w1.heap.size := by omega); (try (have kq := cellAt hb1 (w.heap.size) (by go_size); have k1_w_0_0 := kq 0; have k1_w_0_1 := kq 1; have k1_w_0_2 := kq 2; have k1_w_0_3 := kq 3; clear kq; have f1_w_0 := frozAt hb1 (w.heap.size) (by go_size); simp [go_sem, *] at k1_w_0_0 k1_w_0_1 k1_w_0_2 k1_w_0_3 f1_w_0)); (try have l1_w_0 : w.heap.size < w1.heap.size := by omega)))
    refine wp_drawn' (n := 19) (by kernel_rfl) (by kernel_rfl) (by kernel_rfl) ?_
    apply Exists.intro
    refine ⟨?_, ?_⟩
    · intro W hW
      try (have kx_w_0_0 := fun x => xcell hW (w.heap.size) (by go_size) x 0; simp [go_sem, *] at kx_w_0_0)
      try (have kx_w_0_1 := fun x => xcell hW (w.heap.size) (by go_size) x 1; simp [go_sem, *] at kx_w_0_1)
      try (have kx_w_0_2 := fun x => xcell hW (w.heap.size) (by go_size) x 2; simp [go_sem, *] at kx_w_0_2)
      try (have kx_w_0_3 := fun x => xcell hW (w.heap.size) (by go_size) x 3; simp [go_sem, *] at kx_w_0_3)
      try (have kx_w_0_0 := fun x => xcell hW (w.heap.size) (by go_size) x 0; simp [go_sem, *] at kx_w_0_0)
      try (have kx_w_0_1 := fun x => xcell hW (w.heap.size) (by go_size) x 1; simp [go_sem, *] at kx_w_0_1)
      try (have kx_w_0_2 := fun x => xcell hW (w.heap.size) (by go_size) x 2; simp [go_sem, *] at kx_w_0_2)
      try (have kx_w_0_3 := fun x => xcell hW (w.heap.size) (by go_size) x 3; simp [go_sem, *] at kx_w_0_3)
      simp only [List.take_succ_cons, List.take_zero]
      repeat (go_big_quiet_step ((first | (go_at_call 53; (with_reducible exact draw_of _ ((I1 _).out))) | (go_at_call 53; (with_reducible exact draw_of _ ((I2 _).out))) | (go_at_call 53; (with_reducible exact draw_of _ ((I3 _).out))) | (go_at_call 53; (with_reducible exact draw_of _ ((I4 _).out))))))
      exact wpQuiet_nil rfl
    intro w2 hb2
    simp only [List.drop_succ_cons, List.drop_zero, Act.put, List.setIfInBounds_toArray, List.set_cons_succ, List.set_cons_zero]
    have hz2 := hb2.size
    (try simp only [World.size_alloc, World.size_setCell, World.size_drew, World.size_drewN'] at hz2)
    (try (have kq := cellAt hb2 (w.heap.size) (by go_size); have k2_w_0_0 := kq 0; have k2_w_0_1 := kq 1; have k2_w_0_2 := kq 2; have k2_w_0_3 := kq 3; clear kq; have f2_w_0 := frozAt hb2 (w.heap.size) (by go_size); simp [go_sem, *] at k2_w_0_0 k2_w_0_1 k2_w_0_2 k2_w_0_3 f2_w_0))
    (try have l2_w_0 : w.heap.size < w2.heap.size := by omega)
    (try (have kq := cellAt hb2 (w.heap.size) (by go_size); have k2_w_0_0 := kq 0; have k2_w_0_1 := kq 1; have k2_w_0_2 := kq 2; have k2_w_0_3 := kq 3; clear kq; have f2_w_0 := frozAt hb2 (w.heap.size) (by go_size); simp [go_sem, *] at k2_w_0_0 k2_w_0_1 k2_w_0_2 k2_w_0_3 f2_w_0))
    (try have l2_w_0 : w.heap.size < w2.heap.size := by omega)
    (try clear k1_w_0_0 k1_w_0_1 k1_w_0_2 k1_w_0_3 f1_w_0)
    (try clear l1_w_0)
    (try clear k1_w_0_0 k1_w_0_1 k1_w_0_2 k1_w_0_3 f1_w_0)
    (try clear l1_w_0)
    go_wp2_with fail
    go_ret2
    refine ⟨rfl, ?_⟩
    repeat' first | (with_reducible first | apply zRf | assumption | apply zDn | apply zDr | apply zAl | apply zSt | refine zVi (by assumption) ?_ ?_) | go_size
theorem CubicText_any (a b c d : Int) (w0 w : World) (ht : Lib.TabIs Tryd.prog w0 "internal/strconv.uint64pow10" .u64 Lib.pow10Tab) (hb : Below w0.heap.size w0 w) : Calls Tryd.prog 18 #[.agg #[.int .i64 a, .int .i64 b, .int .i64 c, .int .i64 d]] w fun r w' =>
    r = .returned (.tuple #[.string ⟨(ctS a b c d).toArray⟩, .bool (cuB a b c d)]) ∧ Below w.heap.size w w' := by
  have hs0 := hb.size
  have T1 := fun W : World => Lib.hid (isCubic_any a b c d W)
  rcases h1 : cuB a b c d with _ | _
  · rw [h1] at T1
    rw [show ctS a b c d = [] from if_neg (by simp [h1])]
    have NT := T1
    clear h1 ht hb
    have tok1 : True := trivial
    have tok2 : True := trivial
    go_enter Tryd.func18, Tryd.ntmps18
    go_wp2_with (first | (have _t := tok1; go_at_call 40; (with_reducible refine ((T1 _).out).mono ?_); rintro e w1 ⟨rfl, hb1⟩; clear tok1 _t; have hz1 := hb1.size; (try simp only [World.size_alloc, World.size_setCell, World.size_drew, World.size_drewN'] at hz1); (try (have kq := cellAt hb1 (w.heap.size) (by go_size); have k1_w_0_0 := kq 0; have k1_w_0_1 := kq 1; have k1_w_0_2 := kq 2; have k1_w_0_3 := kq 3; clear kq; have f1_w_0 := frozAt hb1 (w.heap.size) (by go_size); simp [go_sem, *] at k1_w_0_0 k1_w_0_1 k1_w_0_2 k1_w_0_3 f1_w_0)); (try have l1_w_0 : w.heap.size < w1.heap.size := by omega); (try (have kq := cellAt hb1 (w.heap.size) (by go_size); have k1_w_0_0 := kq 0; have k1_w_0_1 := kq 1; have k1_w_0_2 := kq 2; have k1_w_0_3 := kq 3; clear kq; have f1_w_0 := frozAt hb1 (w.heap.size) (by go_size); simp [go_sem, *] at k1_w_0_0 k1_w_0_1 k1_w_0_2 k1_w_0_3 f1_w_0)); (try have l1_w_0 : w.heap.size < w1.heap.size := by omega)) | (have _t := tok2; go_at_call 52; refine (NT _ _ (by repeat' first | (with_reducible first | apply zRf | assumption | apply zDn | apply zDr | apply zAl | apply zSt | refine zVi (by assumption) ?_ ?_) | go_size) (heap_alloc_new _ _)).mono ?_; rintro e w2 ⟨rfl, hb2⟩; clear tok2 _t; have hz2 := hb2.size; (try simp only [World.size_alloc, World.size_setCell, World.size_drew, World.size_drewN'] at hz2); (try (have kq := cellAt hb2 (w.heap.size) (by go_size); have k2_w_0_0 := kq 0; have k2_w_0_1 := kq 1; have k2_w_0_2 := kq 2; have k2_w_0_3 := kq 3; clear kq; have f2_w_0 := frozAt hb2 (w.heap.size) (by go_size); simp [go_sem, *] at k2_w_0_0 k2_w_0_1 k2_w_0_2 k2_w_0_3 f2_w_0)); (try have l2_w_0 : w.heap.size < w2.heap.size := by omega); (try (have kq := cellAt hb2 (w.heap.size) (by go_size); have k2_w_0_0 := kq 0; have k2_w_0_1 := kq 1; have k2_w_0_2 := kq 2; have k2_w_0_3 := kq 3; clear kq; have f2_w_0 := frozAt hb2 (w.heap.size) (by go_size); simp [go_sem, *] at k2_w_0_0 k2_w_0_1 k2_w_0_2 k2_w_0_3 f2_w_0)); (try have l2_w_0 : w.heap.size < w2.heap.size := by omega); (try clear k1_w_0_0 k1_w_0_1 k1_w_0_2 k1_w_0_3 f1_w_0); (try clear l1_w_0); (try clear k1_w_0_0 k1_w_0_1 k1_w_0_2 k1_w_0_3 f1_w_0); (try clear l1_w_0)))
    go_ret2
    refine ⟨rfl, ?_⟩
    repeat' first | (with_reducible first | apply zRf | assumption | apply zDn | apply zDr | apply zAl | apply zSt | refine zVi (by assumption) ?_ ?_) | go_size
  · rw [h1] at T1
    obtain ⟨_, b1, b2, b3, b4⟩ := cuB_bd h1
    have NT : ∀ (W : World) (g : Nat), Below w.heap.size w W → W.heap[g]? = some (.cells #[.int .i64 a, .int .i64 b, .int .i64 c, .int .i64 d] 3 (0, 0)) → Calls Tryd.prog 52 #[.slice (some ⟨g, 0, none⟩) 4 4] W fun e w' => e = .returned (.string ⟨(ctT a b c d).toArray⟩) ∧ Below W.heap.size W w' := fun W g hW hk => by
      have := numbersText_any (some ⟨g, 0, none⟩) 4 4 [a, b, c, d] w0 W (Sx.of_row hk rfl (by omega) (by decide) (fun j hj => by
        rcases (show j = 0 ∨ j = 1 ∨ j = 2 ∨ j = 3 by omega) with rfl | rfl | rfl | rfl <;> rfl)) (by omega) (by omega) (fun x hx => by
        simp at hx; rcases hx with rfl | rfl | rfl | rfl <;> omega) ht (below_via hW hb hs0)
      rw [show ([a, b, c, d].map Lib.itoa) = [Lib.itoa a, Lib.itoa b, Lib.itoa c, Lib.itoa d] from rfl, join_four] at this
      exact this
    rw [show ctS a b c d = ctT a b c d from if_pos h1]
    generalize ctT a b c d = D at *
    clear h1 ht hb
    have tok1 : True := trivial
    have tok2 : True := trivial
    go_enter Tryd.func18, Tryd.ntmps18
    go_wp2_with (first | (have _t := tok1; go_at_call 40; (with_reducible refine ((T1 _).out).mono ?_); rintro e w1 ⟨rfl, hb1⟩; clear tok1 _t; have hz1 := hb1.size; (try simp only [World.size_alloc, World.size_setCell, World.size_drew, World.size_drewN'] at hz1); (try (have kq := cellAt hb1 (w.heap.size) (by go_size); have k1_w_0_0 := kq 0; have k1_w_0_1 := kq 1; have k1_w_0_2 := kq 2; have k1_w_0_3 := kq 3; clear kq; have f1_w_0 := frozAt hb1 (w.heap.size) (by go_size); simp [go_sem, *] at k1_w_0_0 k1_w_0_1 k1_w_0_2 k1_w_0_3 f1_w_0)); (try have l1_w_0 : w.heap.size < w1.heap.size := by omega); (try (have kq := cellAt hb1 (w.heap.size) (by go_size); have k1_w_0_0 := kq 0; have k1_w_0_1 := kq 1; have k1_w_0_2 := kq 2; have k1_w_0_3 := kq 3; clear kq; have f1_w_0 := frozAt hb1 (w.heap.size) (by go_size); simp [go_sem, *] at k1_w_0_0 k1_w_0_1 k1_w_0_2 k1_w_0_3 f1_w_0)); (try have l1_w_0 : w.heap.size < w1.heap.size := by omega)) | (have _t := tok2; go_at_call 52; refine (NT _ _ (by repeat' first | (with_reducible first | apply zRf | assumption | apply zDn | apply zDr | apply zAl | apply zSt | refine zVi (by assumption) ?_ ?_) | go_size) (heap_alloc_new _ _)).mono ?_; rintro e w2 ⟨rfl, hb2⟩; clear tok2 _t; have hz2 := hb2.size; (try simp only [World.size_alloc, World.size_setCell, World.size_drew, World.size_drewN'] at hz2); (try (have kq := cellAt hb2 (w.heap.size) (by go_size); have k2_w_0_0 := kq 0; have k2_w_0_1 := kq 1; have k2_w_0_2 := kq 2; have k2_w_0_3 := kq 3; clear kq; have f2_w_0 := frozAt hb2 (w.heap.size) (by go_size); simp [go_sem, *] at k2_w_0_0 k2_w_0_1 k2_w_0_2 k2_w_0_3 f2_w_0)); (try have l2_w_0 : w.heap.size < w2.heap.size := by omega); (try (have kq := cellAt hb2 (w.heap.size) (by go_size); have k2_w_0_0 := kq 0; have k2_w_0_1 := kq 1; have k2_w_0_2 := kq 2; have k2_w_0_3 := kq 3; clear kq; have f2_w_0 := frozAt hb2 (w.heap.size) (by go_size); simp [go_sem, *] at k2_w_0_0 k2_w_0_1 k2_w_0_2 k2_w_0_3 f2_w_0)); (try have l2_w_0 : w.heap.size < w2.heap.size := by omega); (try clear k1_w_0_0 k1_w_0_1 k1_w_0_2 k1_w_0_3 f1_w_0); (try clear l1_w_0); (try clear k1_w_0_0 k1_w_0_1 k1_w_0_2 k1_w_0_3 f1_w_0); (try clear l1_w_0)))
    go_ret2
    refine ⟨rfl, ?_⟩
    repeat' first | (with_reducible first | apply zRf | assumption | apply zDn | apply zDr | apply zAl | apply zSt | refine zVi (by assumption) ?_ ?_) | go_size
end Go.Proofs.YtdcbpgpjiacomaaDoor
