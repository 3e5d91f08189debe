/- Points of curves: contracts of both sides. -/
import Derived.Test.YtdcbpgpjiacomaaDoorEc1
namespace Go.Proofs.YtdcbpgpjiacomaaDoor
open Go.RowKit
set_option linter.unusedVariables false
set_option maxHeartbeats 2000000
set_option maxRecDepth 20000
set_option linter.unusedSimpArgs false
attribute [local go_sem] openAt openUpon
def evV (A B x e : Int) : Int := x * x * x + A * x * e * e * e * e + B * e * e * e * e * e * e
theorem evV_spec (A B x e : Int) : x * x * x + A * x * (e * e) * (e * e) + B * (e * e) * (e * e) * (e * e) = evV A B x e := by unfold evV; grind
theorem evV_bd {A B x e : Int} (hA : -1000 ≤ A ∧ A ≤ 1000) (hB : -10000 ≤ B ∧ B ≤ 10000) (hx : -10000 ≤ x ∧ x ≤ 10000) (he : -20 ≤ e ∧ e ≤ 20) : -3240000000000 ≤ evV A B x e ∧ evV A B x e ≤ 3240000000000 := by
  have m1 := mul_bd (a := x) (b := x) (A := 10000) (B := 10000) (by omega) (by omega)
  have m2 := mul_bd (a := x * x) (b := x) (A := 100000000) (B := 10000) (by omega) (by omega)
  have n1 := mul_bd (a := A) (b := x) (A := 1000) (B := 10000) (by omega) (by omega)
  have n2 := mul_bd (a := A * x) (b := e) (A := 10000000) (B := 20) (by omega) (by omega)
  have n3 := mul_bd (a := A * x * e) (b := e) (A := 200000000) (B := 20) (by omega) (by omega)
  have n4 := mul_bd (a := A * x * e * e) (b := e) (A := 4000000000) (B := 20) (by omega) (by omega)
  have n5 := mul_bd (a := A * x * e * e * e) (b := e) (A := 80000000000) (B := 20) (by omega) (by omega)
  have l1 := mul_bd (a := B) (b := e) (A := 10000) (B := 20) (by omega) (by omega)
  have l2 := mul_bd (a := B * e) (b := e) (A := 200000) (B := 20) (by omega) (by omega)
  have l3 := mul_bd (a := B * e * e) (b := e) (A := 4000000) (B := 20) (by omega) (by omega)
  have l4 := mul_bd (a := B * e * e * e) (b := e) (A := 80000000) (B := 20) (by omega) (by omega)
  have l5 := mul_bd (a := B * e * e * e * e) (b := e) (A := 1600000000) (B := 20) (by omega) (by omega)
  have l6 := mul_bd (a := B * e * e * e * e * e) (b := e) (A := 32000000000) (B := 20) (by omega) (by omega)
  unfold evV; omega
theorem root_bd {y v : Int} (h : y * y = v) (hv : v ≤ 3240000000000) : -3000000 ≤ y ∧ y ≤ 3000000 := by
  constructor
  · refine Int.not_lt.1 fun h2 => ?_
    have this : 3000001 * 3000001 ≤ -y * -y := Int.mul_le_mul (by omega) (by omega) (by omega) (by omega)
    rw [Int.neg_mul_neg, h] at this
    omega
  · refine Int.not_lt.1 fun h2 => ?_
    have this : 3000001 * 3000001 ≤ y * y := Int.mul_le_mul (by omega) (by omega) (by omega) (by omega)
    rw [h] at this
    omega
def ptB (A B x y e : Int) : Bool := if e = 0 then decide (x = 0) && decide (y = 0) else inB x (-10000) 10000 && (inB e 1 20 && (decide (gcdI x e = 1) && decide (y * y = evV A B x e)))
theorem ptB_far {A B x y e L : Int} (hL : 3000000 ≤ L) (hA : -1000 ≤ A ∧ A ≤ 1000) (hB : -10000 ≤ B ∧ B ≤ 10000) (hx : inB x (-10000) 10000 = true) (he : inB e 1 20 = true) (hy : inB y (-L) L = false) : decide (y * y = evV A B x e) = false := by
  simp only [decide_eq_false_iff_not]
  intro h
  have h1 := inB_iff.1 hx
  have h2 := inB_iff.1 he
  have h3 := evV_bd hA hB h1 (e := e) (by omega)
  have h4 := root_bd h h3.2
  have h5 := inB_false.1 hy
  omega
theorem ptValue_any (A B x e : Int) (w : World) (hA : -1000 ≤ A ∧ A ≤ 1000) (hB : -10000 ≤ B ∧ B ≤ 10000) (hx : -10000 ≤ x ∧ x ≤ 10000) (he : 1 ≤ e ∧ e ≤ 20) : Calls Tryd.prog 105 #[.agg #[.int .i64 A, .int .i64 B], .int .i64 x, .int .i64 e] w fun r w' => r = .returned (.int .i64 (evV A B x e)) ∧ Below w.heap.size w w' := by
  have HV := Lib.hid (evV_spec A B x e)
  have m1 := mul_bd (a := x) (b := x) (A := 10000) (B := 10000) (by omega) (by omega)
  have m2 := mul_bd (a := x * x) (b := x) (A := 100000000) (B := 10000) (by omega) (by omega)
  have n1 := mul_bd (a := A) (b := x) (A := 1000) (B := 10000) (by omega) (by omega)
  have n0 := mul_bd (a := e) (b := e) (A := 20) (B := 20) (by omega) (by omega)
  have n2 := mul_bd (a := A * x) (b := e * e) (A := 10000000) (B := 400) (by omega) (by omega)
  have n3 := mul_bd (a := A * x * (e * e)) (b := e * e) (A := 4000000000) (B := 400) (by omega) (by omega)
  have l1 := mul_bd (a := B) (b := e * e) (A := 10000) (B := 400) (by omega) (by omega)
  have l2 := mul_bd (a := B * (e * e)) (b := e * e) (A := 4000000) (B := 400) (by omega) (by omega)
  have l3 := mul_bd (a := B * (e * e) * (e * e)) (b := e * e) (A := 1600000000) (B := 400) (by omega) (by omega)
  go_enter Tryd.func105, Tryd.ntmps105
  go_wp2_with fail
  go_ret
  refine ⟨ret_int HV.out, ?_⟩
  repeat' first | (with_reducible first | apply zRf | assumption | apply zDn | apply zDr | apply zAl | apply zSt | refine zVi (by assumption) ?_ ?_) | go_size
theorem curveValue_any (A B x e : Int) (w : World) (hA : -1000 ≤ A ∧ A ≤ 1000) (hB : -10000 ≤ B ∧ B ≤ 10000) (hx : -10000 ≤ x ∧ x ≤ 10000) (he : -20 ≤ e ∧ e ≤ 20) : Calls Tryd.prog 93 #[.agg #[.int .i64 A, .int .i64 B], .int .i64 x, .int .i64 e] w fun r w' => r = .returned (.int .i64 (evV A B x e)) ∧ Below w.heap.size w w' := by
  have m1 := mul_bd (a := x) (b := x) (A := 10000) (B := 10000) (by omega) (by omega)
  have m2 := mul_bd (a := x * x) (b := x) (A := 100000000) (B := 10000) (by omega) (by omega)
  have n1 := mul_bd (a := A) (b := x) (A := 1000) (B := 10000) (by omega) (by omega)
  have n2 := mul_bd (a := A * x) (b := e) (A := 10000000) (B := 20) (by omega) (by omega)
  have n3 := mul_bd (a := A * x * e) (b := e) (A := 200000000) (B := 20) (by omega) (by omega)
  have n4 := mul_bd (a := A * x * e * e) (b := e) (A := 4000000000) (B := 20) (by omega) (by omega)
  have n5 := mul_bd (a := A * x * e * e * e) (b := e) (A := 80000000000) (B := 20) (by omega) (by omega)
  have l1 := mul_bd (a := B) (b := e) (A := 10000) (B := 20) (by omega) (by omega)
  have l2 := mul_bd (a := B * e) (b := e) (A := 200000) (B := 20) (by omega) (by omega)
  have l3 := mul_bd (a := B * e * e) (b := e) (A := 4000000) (B := 20) (by omega) (by omega)
  have l4 := mul_bd (a := B * e * e * e) (b := e) (A := 80000000) (B := 20) (by omega) (by omega)
  have l5 := mul_bd (a := B * e * e * e * e) (b := e) (A := 1600000000) (B := 20) (by omega) (by omega)
  have l6 := mul_bd (a := B * e * e * e * e * e) (b := e) (A := 32000000000) (B := 20) (by omega) (by omega)
  go_enter Tryd.func93, Tryd.ntmps93
  go_wp2_with fail
  go_ret
  refine ⟨rfl, ?_⟩
  repeat' first | (with_reducible first | apply zRf | assumption | apply zDn | apply zDr | apply zAl | apply zSt | refine zVi (by assumption) ?_ ?_) | go_size
theorem ptOn_any (A B x y e : Int) (w : World) (hA : -1000 ≤ A ∧ A ≤ 1000) (hB : -10000 ≤ B ∧ B ≤ 10000) : Calls Tryd.prog 97 #[.agg #[.int .i64 A, .int .i64 B], .agg #[.int .i64 x, .int .i64 y, .int .i64 e]] w fun r w' => r = .returned (.bool (ptB A B x y e)) ∧ Below w.heap.size w w' := by
  by_cases he : e = 0
  · subst he
    have HP := Lib.hid (show ptB A B x y 0 = (decide (x = 0) && decide (y = 0)) by simp [ptB])
    by_cases hx : x = 0
    · subst hx
      go_enter Tryd.func97, Tryd.ntmps97
      go_wp2_with fail
      go_ret
      refine ⟨ret_bool (by rw [HP.out]; by_cases hy : y = 0 <;> simp [hy]), ?_⟩
      repeat' first | (with_reducible first | apply zRf | assumption | apply zDn | apply zDr | apply zAl | apply zSt | refine zVi (by assumption) ?_ ?_) | go_size
    · go_enter Tryd.func97, Tryd.ntmps97
      go_wp2_with fail
      go_ret
      refine ⟨ret_bool (by rw [HP.out]; simp [hx]), ?_⟩
      repeat' first | (with_reducible first | apply zRf | assumption | apply zDn | apply zDr | apply zAl | apply zSt | refine zVi (by assumption) ?_ ?_) | go_size
  · have HP := Lib.hid (show ptB A B x y e = (inB x (-10000) 10000 && (inB e 1 20 && (decide (gcdI x e = 1) && decide (y * y = evV A B x e)))) by simp [ptB, he])
    cases h1 : inB x (-10000) 10000
    · rw [h1] at HP
      go_enter Tryd.func97, Tryd.ntmps97
      go_wp2_with fail
      go_quiet ((go_at_call 44; exact Calls.quiet_of_same ((l1In_any _ _ _ _).mono fun _ _ ⟨a, b⟩ => ⟨a, b.symm⟩)))
      go_wp2_with fail
      go_ret
      refine ⟨ret_bool (by rw [HP.out]; simp), ?_⟩
      repeat' first | (with_reducible first | apply zRf | assumption | apply zDn | apply zDr | apply zAl | apply zSt | refine zVi (by assumption) ?_ ?_) | go_size
    · cases h2 : inB e 1 20
      · rw [h1, h2] at HP
        go_enter Tryd.func97, Tryd.ntmps97
        go_wp2_with fail
        go_quiet ((go_at_call 44; exact Calls.quiet_of_same ((l1In_any _ _ _ _).mono fun _ _ ⟨a, b⟩ => ⟨a, b.symm⟩)))
        go_wp2_with fail
        go_ret
        refine ⟨ret_bool (by rw [HP.out]; simp), ?_⟩
        repeat' first | (with_reducible first | apply zRf | assumption | apply zDn | apply zDr | apply zAl | apply zSt | refine zVi (by assumption) ?_ ?_) | go_size
      · cases h3 : inB y (-10000000) 10000000
        · rw [ptB_far (L := 10000000) (by omega) hA hB h1 h2 h3] at HP
          go_enter Tryd.func97, Tryd.ntmps97
          go_wp2_with fail
          go_quiet ((go_at_call 44; exact Calls.quiet_of_same ((l1In_any _ _ _ _).mono fun _ _ ⟨a, b⟩ => ⟨a, b.symm⟩)))
          go_wp2_with fail
          go_ret
          refine ⟨ret_bool (by rw [HP.out]; simp), ?_⟩
          repeat' first | (with_reducible first | apply zRf | assumption | apply zDn | apply zDr | apply zAl | apply zSt | refine zVi (by assumption) ?_ ?_) | go_size
        · have b1 := inB_iff.1 h1
          have b2 := inB_iff.1 h2
          have b3 := inB_iff.1 h3
          have h5 := absI_nonneg x
          have h6 : absI x ≤ 10000 := absI_le (by omega) (by omega)
          have m := mul_bd (a := y) (b := y) (A := 10000000) (B := 10000000) (by omega) (by omega)
          have T5 := fun W : World => Lib.hid (ptValue_any A B x e W hA hB b1 b2)
          rw [h1, h2, ← gcdI_abs] at HP
          by_cases h4 : gcdI (absI x) e = 1
          · rw [h4] at HP
            go_enter Tryd.func97, Tryd.ntmps97
            go_wp2_with fail
            go_quiet ((first | (go_at_call 44; exact Calls.quiet_of_same ((l1In_any _ _ _ _).mono fun _ _ ⟨a, b⟩ => ⟨a, b.symm⟩)) | (go_at_call 51; exact Calls.quiet_of_same ((l1Abs_any _ _ (by omega) (by omega)).mono fun _ _ ⟨a, b⟩ => ⟨a, b.symm⟩)) | (go_at_call 50; exact Calls.quiet_of_same ((common_any _ _ _ (by omega) (by omega) (by omega) (by omega)).mono fun _ _ ⟨a, b⟩ => ⟨a, b.symm⟩))))
            go_wp2_with fail
            simp only [h1, h2, h3, h4]
            clear h1 h2 h3 h4
            refine wp_open (n := 12) (by kernel_rfl) (by kernel_rfl) (by kernel_rfl) (by kernel_rfl) ?_
            simp only [List.take_succ_cons, List.take_zero]
            apply wpS_quiet
            · intro γ W hW hp
              refine ⟨rfl, ?_⟩
              go_big_quiet_op
              first | exact rfl
            · exact locS_const _
            try simp only [Act.put, List.setIfInBounds_toArray, List.set_cons_succ, List.set_cons_zero, Nat.reduceAdd]
            apply wpS_quiet
            · intro γ W hW hp
              have hs := hW.size
              (try simp only [World.size_alloc, World.size_setCell, World.size_drew, World.size_drewN'] at hs)
              try (have kx_w_0_0 := fun x : Over W => (cellAt x.lies (w.heap.size) (by omega) 0).trans (cellAt hW (w.heap.size) (by go_size) 0); simp [go_sem, *] at kx_w_0_0)
              try (have kx_w_0_1 := fun x : Over W => (cellAt x.lies (w.heap.size) (by omega) 1).trans (cellAt hW (w.heap.size) (by go_size) 1); simp [go_sem, *] at kx_w_0_1)
              try (have kx_w_1_0 := fun x : Over W => (cellAt x.lies (w.heap.size + 1) (by omega) 0).trans (cellAt hW (w.heap.size + 1) (by go_size) 0); simp [go_sem, *] at kx_w_1_0)
              try (have kx_w_1_1 := fun x : Over W => (cellAt x.lies (w.heap.size + 1) (by omega) 1).trans (cellAt hW (w.heap.size + 1) (by go_size) 1); simp [go_sem, *] at kx_w_1_1)
              try (have kx_w_1_2 := fun x : Over W => (cellAt x.lies (w.heap.size + 1) (by omega) 2).trans (cellAt hW (w.heap.size + 1) (by go_size) 2); simp [go_sem, *] at kx_w_1_2)
              clear hW hp
              refine ⟨rfl, ?_⟩
              go_big_quiet_op
              first | exact rfl
            · exact locS_const _
            try simp only [Act.put, List.setIfInBounds_toArray, List.set_cons_succ, List.set_cons_zero, Nat.reduceAdd]
            apply wpS_quiet
            · intro γ W hW hp
              refine ⟨rfl, ?_⟩
              go_big_quiet_op
              first | exact rfl
            · exact locS_const _
            try simp only [Act.put, List.setIfInBounds_toArray, List.set_cons_succ, List.set_cons_zero, Nat.reduceAdd]
            apply wpS_quiet
            · intro γ W hW hp
              have hs := hW.size
              (try simp only [World.size_alloc, World.size_setCell, World.size_drew, World.size_drewN'] at hs)
              try (have kx_w_0_0 := fun x : Over W => (cellAt x.lies (w.heap.size) (by omega) 0).trans (cellAt hW (w.heap.size) (by go_size) 0); simp [go_sem, *] at kx_w_0_0)
              try (have kx_w_0_1 := fun x : Over W => (cellAt x.lies (w.heap.size) (by omega) 1).trans (cellAt hW (w.heap.size) (by go_size) 1); simp [go_sem, *] at kx_w_0_1)
              try (have kx_w_1_0 := fun x : Over W => (cellAt x.lies (w.heap.size + 1) (by omega) 0).trans (cellAt hW (w.heap.size + 1) (by go_size) 0); simp [go_sem, *] at kx_w_1_0)
              try (have kx_w_1_1 := fun x : Over W => (cellAt x.lies (w.heap.size + 1) (by omega) 1).trans (cellAt hW (w.heap.size + 1) (by go_size) 1); simp [go_sem, *] at kx_w_1_1)
              try (have kx_w_1_2 := fun x : Over W => (cellAt x.lies (w.heap.size + 1) (by omega) 2).trans (cellAt hW (w.heap.size + 1) (by go_size) 2); simp [go_sem, *] at kx_w_1_2)
              clear hW hp
              refine ⟨rfl, ?_⟩
              go_big_quiet_op
              first | exact rfl
            · exact locS_const _
            try simp only [Act.put, List.setIfInBounds_toArray, List.set_cons_succ, List.set_cons_zero, Nat.reduceAdd]
            apply wpS_quiet
            · intro γ W hW hp
              refine ⟨rfl, ?_⟩
              go_big_quiet_op
              first | exact rfl
            · exact locS_const _
            try simp only [Act.put, List.setIfInBounds_toArray, List.set_cons_succ, List.set_cons_zero, Nat.reduceAdd]
            apply wpS_quiet
            · intro γ W hW hp
              have hs := hW.size
              (try simp only [World.size_alloc, World.size_setCell, World.size_drew, World.size_drewN'] at hs)
              try (have kx_w_0_0 := fun x : Over W => (cellAt x.lies (w.heap.size) (by omega) 0).trans (cellAt hW (w.heap.size) (by go_size) 0); simp [go_sem, *] at kx_w_0_0)
              try (have kx_w_0_1 := fun x : Over W => (cellAt x.lies (w.heap.size) (by omega) 1).trans (cellAt hW (w.heap.size) (by go_size) 1); simp [go_sem, *] at kx_w_0_1)
              try (have kx_w_1_0 := fun x : Over W => (cellAt x.lies (w.heap.size + 1) (by omega) 0).trans (cellAt hW (w.heap.size + 1) (by go_size) 0); simp [go_sem, *] at kx_w_1_0)
              try (have kx_w_1_1 := fun x : Over W => (cellAt x.lies (w.heap.size + 1) (by omega) 1).trans (cellAt hW (w.heap.size + 1) (by go_size) 1); simp [go_sem, *] at kx_w_1_1)
              try (have kx_w_1_2 := fun x : Over W => (cellAt x.lies (w.heap.size + 1) (by omega) 2).trans (cellAt hW (w.heap.size + 1) (by go_size) 2); simp [go_sem, *] at kx_w_1_2)
              clear hW hp
              refine ⟨rfl, ?_⟩
              go_big_quiet_op
              first | exact rfl
            · exact locS_const _
            try simp only [Act.put, List.setIfInBounds_toArray, List.set_cons_succ, List.set_cons_zero, Nat.reduceAdd]
            apply wpS_quiet
            · intro γ W hW hp
              refine ⟨rfl, ?_⟩
              go_big_quiet_op
              first | exact rfl
            · exact locS_const _
            try simp only [Act.put, List.setIfInBounds_toArray, List.set_cons_succ, List.set_cons_zero, Nat.reduceAdd]
            apply wpS_quiet
            · intro γ W hW hp
              have hs := hW.size
              (try simp only [World.size_alloc, World.size_setCell, World.size_drew, World.size_drewN'] at hs)
              try (have kx_w_0_0 := fun x : Over W => (cellAt x.lies (w.heap.size) (by omega) 0).trans (cellAt hW (w.heap.size) (by go_size) 0); simp [go_sem, *] at kx_w_0_0)
              try (have kx_w_0_1 := fun x : Over W => (cellAt x.lies (w.heap.size) (by omega) 1).trans (cellAt hW (w.heap.size) (by go_size) 1); simp [go_sem, *] at kx_w_0_1)
              try (have kx_w_1_0 := fun x : Over W => (cellAt x.lies (w.heap.size + 1) (by omega) 0).trans (cellAt hW (w.heap.size + 1) (by go_size) 0); simp [go_sem, *] at kx_w_1_0)
              try (have kx_w_1_1 := fun x : Over W => (cellAt x.lies (w.heap.size + 1) (by omega) 1).trans (cellAt hW (w.heap.size + 1) (by go_size) 1); simp [go_sem, *] at kx_w_1_1)
              try (have kx_w_1_2 := fun x : Over W => (cellAt x.lies (w.heap.size + 1) (by omega) 2).trans (cellAt hW (w.heap.size + 1) (by go_size) 2); simp [go_sem, *] at kx_w_1_2)
              clear hW hp
              refine ⟨rfl, ?_⟩
              go_big_quiet_op
              first | exact rfl
            · exact locS_const _
            try simp only [Act.put, List.setIfInBounds_toArray, List.set_cons_succ, List.set_cons_zero, Nat.reduceAdd]
            apply wpS_quiet
            · intro γ W hW hp
              refine ⟨rfl, ?_⟩
              go_big_quiet_op
              first | exact rfl
            · exact locS_const _
            try simp only [Act.put, List.setIfInBounds_toArray, List.set_cons_succ, List.set_cons_zero, Nat.reduceAdd]
            apply wpS_quiet
            · intro γ W hW hp
              have hs := hW.size
              (try simp only [World.size_alloc, World.size_setCell, World.size_drew, World.size_drewN'] at hs)
              try (have kx_w_0_0 := fun x : Over W => (cellAt x.lies (w.heap.size) (by omega) 0).trans (cellAt hW (w.heap.size) (by go_size) 0); simp [go_sem, *] at kx_w_0_0)
              try (have kx_w_0_1 := fun x : Over W => (cellAt x.lies (w.heap.size) (by omega) 1).trans (cellAt hW (w.heap.size) (by go_size) 1); simp [go_sem, *] at kx_w_0_1)
              try (have kx_w_1_0 := fun x : Over W => (cellAt x.lies (w.heap.size + 1) (by omega) 0).trans (cellAt hW (w.heap.size + 1) (by go_size) 0); simp [go_sem, *] at kx_w_1_0)
              try (have kx_w_1_1 := fun x : Over W => (cellAt x.lies (w.heap.size + 1) (by omega) 1).trans (cellAt hW (w.heap.size + 1) (by go_size) 1); simp [go_sem, *] at kx_w_1_1)
              try (have kx_w_1_2 := fun x : Over W => (cellAt x.lies (w.heap.size + 1) (by omega) 2).trans (cellAt hW (w.heap.size + 1) (by go_size) 2); simp [go_sem, *] at kx_w_1_2)
              clear hW hp
              refine ⟨rfl, ?_⟩
              go_big_quiet_op
              first | exact rfl
            · exact locS_const _
            try simp only [Act.put, List.setIfInBounds_toArray, List.set_cons_succ, List.set_cons_zero, Nat.reduceAdd]
            apply wpS_quiet
            · intro γ W hW hp
              refine ⟨rfl, ?_⟩
              go_big_quiet_op
              apply Exists.intro
              refine ⟨fun x => ?_, ?_⟩
              · (first | (go_at_call 105; (with_reducible exact draw_of _ ((T5 _).out))))
              exact rfl
            · exact locS_const _
            try simp only [Act.put, List.setIfInBounds_toArray, List.set_cons_succ, List.set_cons_zero, Nat.reduceAdd]
            apply wpS_quiet
            · intro γ W hW hp
              refine ⟨rfl, ?_⟩
              go_big_quiet_op
              first | exact rfl
            · exact locS_const _
            try simp only [Act.put, List.setIfInBounds_toArray, List.set_cons_succ, List.set_cons_zero, Nat.reduceAdd]
            apply wpS_end
            intro γ w1 hb1 hG1 hA1
            clear hG1 hA1
            simp only [List.drop_succ_cons, List.drop_zero]
            have hz1 := hb1.size
            (try simp only [World.size_alloc, World.size_setCell, World.size_drew, World.size_drewN'] at hz1)
            (try (have kq := cellAt hb1 (w.heap.size) (by go_size); have k1_w_0_0 := kq 0; have k1_w_0_1 := kq 1; clear kq; have f1_w_0 := frozAt hb1 (w.heap.size) (by go_size); simp [go_sem, *] at k1_w_0_0 k1_w_0_1 f1_w_0))
            (try have l1_w_0 : w.heap.size < w1.heap.size := by omega)
            (try (have kq := cellAt hb1 (w.heap.size + 1) (by go_size); have k1_w_1_0 := kq 0; have k1_w_1_1 := kq 1; have k1_w_1_2 := kq 2; clear kq; have f1_w_1 := frozAt hb1 (w.heap.size + 1) (by go_size); simp [go_sem, *] at k1_w_1_0 k1_w_1_1 k1_w_1_2 f1_w_1))
            (try have l1_w_1 : w.heap.size + 1 < w1.heap.size := by omega)
            go_wp2_with fail
            go_ret
            refine ⟨ret_bool (by rw [HP.out]; by_cases hv : y * y = evV A B x e <;> simp [hv]), ?_⟩
            repeat' first | (with_reducible first | apply zRf | assumption | apply zDn | apply zDr | apply zAl | apply zSt | refine zVi (by assumption) ?_ ?_) | go_size
          · go_enter Tryd.func97, Tryd.ntmps97
            go_wp2_with fail
            go_quiet ((first | (go_at_call 44; exact Calls.quiet_of_same ((l1In_any _ _ _ _).mono fun _ _ ⟨a, b⟩ => ⟨a, b.symm⟩)) | (go_at_call 51; exact Calls.quiet_of_same ((l1Abs_any _ _ (by omega) (by omega)).mono fun _ _ ⟨a, b⟩ => ⟨a, b.symm⟩)) | (go_at_call 50; exact Calls.quiet_of_same ((common_any _ _ _ (by omega) (by omega) (by omega) (by omega)).mono fun _ _ ⟨a, b⟩ => ⟨a, b.symm⟩))))
            go_wp2_with fail
            go_ret
            refine ⟨ret_bool (by rw [HP.out]; simp [h4]), ?_⟩
            repeat' first | (with_reducible first | apply zRf | assumption | apply zDn | apply zDr | apply zAl | apply zSt | refine zVi (by assumption) ?_ ?_) | go_size
theorem IsPointOf_any (A B x y e : Int) (w : World) : Calls Tryd.prog 89 #[.agg #[.int .i64 A, .int .i64 B], .agg #[.int .i64 x, .int .i64 y, .int .i64 e]] w fun r w' => r = .returned (.bool (cvB A B && ptB A B x y e)) ∧ Below w.heap.size w w' := by
  have T1 := fun W : World => Lib.hid (ecGood_any A B W)
  cases h1 : cvB A B
  · rw [h1] at T1
    have T2 := T1
    clear h1
    have tok1 : True := trivial
    have tok2 : True := trivial
    go_enter Tryd.func89, Tryd.ntmps89
    go_wp2_with (first | (have _t := tok1; go_at_call 90; (with_reducible refine ((T1 _).out).mono ?_); rintro e w1 ⟨rfl, hb1⟩; clear tok1 _t; have hz1 := hb1.size; (try simp only [World.size_alloc, World.size_setCell, World.size_drew, World.size_drewN'] at hz1); (try (have kq := cellAt hb1 (w.heap.size) (by go_size); have k1_w_0_0 := kq 0; have k1_w_0_1 := kq 1; clear kq; have f1_w_0 := frozAt hb1 (w.heap.size) (by go_size); simp [go_sem, *] at k1_w_0_0 k1_w_0_1 f1_w_0)); (try have l1_w_0 : w.heap.size < w1.heap.size := by omega); (try (have kq := cellAt hb1 (w.heap.size + 1) (by go_size); have k1_w_1_0 := kq 0; have k1_w_1_1 := kq 1; have k1_w_1_2 := kq 2; clear kq; have f1_w_1 := frozAt hb1 (w.heap.size + 1) (by go_size); simp [go_sem, *] at k1_w_1_0 k1_w_1_1 k1_w_1_2 f1_w_1)); (try have l1_w_1 : w.heap.size + 1 < w1.heap.size := by omega)) | (have _t := tok2; go_at_call 97; (with_reducible refine ((T2 _).out).mono ?_); rintro e w2 ⟨rfl, hb2⟩; clear tok2 _t; have hz2 := hb2.size; (try simp only [World.size_alloc, World.size_setCell, World.size_drew, World.size_drewN'] at hz2); (try (have kq := cellAt hb2 (w.heap.size) (by go_size); have k2_w_0_0 := kq 0; have k2_w_0_1 := kq 1; clear kq; have f2_w_0 := frozAt hb2 (w.heap.size) (by go_size); simp [go_sem, *] at k2_w_0_0 k2_w_0_1 f2_w_0)); (try have l2_w_0 : w.heap.size < w2.heap.size := by omega); (try (have kq := cellAt hb2 (w.heap.size + 1) (by go_size); have k2_w_1_0 := kq 0; have k2_w_1_1 := kq 1; have k2_w_1_2 := kq 2; clear kq; have f2_w_1 := frozAt hb2 (w.heap.size + 1) (by go_size); simp [go_sem, *] at k2_w_1_0 k2_w_1_1 k2_w_1_2 f2_w_1)); (try have l2_w_1 : w.heap.size + 1 < w2.heap.size := by omega); (try clear k1_w_0_0 k1_w_0_1 f1_w_0); (try clear l1_w_0); (try clear k1_w_1_0 k1_w_1_1 k1_w_1_2 f1_w_1); (try clear l1_w_1)))
    go_ret
    refine ⟨rfl, ?_⟩
    repeat' first | (with_reducible first | apply zRf | assumption | apply zDn | apply zDr | apply zAl | apply zSt | refine zVi (by assumption) ?_ ?_) | go_size
  · have hc := cvB_bd h1
    have T2 := fun W : World => Lib.hid (ptOn_any A B x y e W hc.1 hc.2.1)
    rw [h1] at T1
    clear h1 hc
    generalize ptB A B x y e = v at *
    have tok1 : True := trivial
    have tok2 : True := trivial
    go_enter Tryd.func89, Tryd.ntmps89
    go_wp2_with (first | (have _t := tok1; go_at_call 90; (with_reducible refine ((T1 _).out).mono ?_); rintro e w1 ⟨rfl, hb1⟩; clear tok1 _t; have hz1 := hb1.size; (try simp only [World.size_alloc, World.size_setCell, World.size_drew, World.size_drewN'] at hz1); (try (have kq := cellAt hb1 (w.heap.size) (by go_size); have k1_w_0_0 := kq 0; have k1_w_0_1 := kq 1; clear kq; have f1_w_0 := frozAt hb1 (w.heap.size) (by go_size); simp [go_sem, *] at k1_w_0_0 k1_w_0_1 f1_w_0)); (try have l1_w_0 : w.heap.size < w1.heap.size := by omega); (try (have kq := cellAt hb1 (w.heap.size + 1) (by go_size); have k1_w_1_0 := kq 0; have k1_w_1_1 := kq 1; have k1_w_1_2 := kq 2; clear kq; have f1_w_1 := frozAt hb1 (w.heap.size + 1) (by go_size); simp [go_sem, *] at k1_w_1_0 k1_w_1_1 k1_w_1_2 f1_w_1)); (try have l1_w_1 : w.heap.size + 1 < w1.heap.size := by omega)) | (have _t := tok2; go_at_call 97; (with_reducible refine ((T2 _).out).mono ?_); rintro e w2 ⟨rfl, hb2⟩; clear tok2 _t; have hz2 := hb2.size; (try simp only [World.size_alloc, World.size_setCell, World.size_drew, World.size_drewN'] at hz2); (try (have kq := cellAt hb2 (w.heap.size) (by go_size); have k2_w_0_0 := kq 0; have k2_w_0_1 := kq 1; clear kq; have f2_w_0 := frozAt hb2 (w.heap.size) (by go_size); simp [go_sem, *] at k2_w_0_0 k2_w_0_1 f2_w_0)); (try have l2_w_0 : w.heap.size < w2.heap.size := by omega); (try (have kq := cellAt hb2 (w.heap.size + 1) (by go_size); have k2_w_1_0 := kq 0; have k2_w_1_1 := kq 1; have k2_w_1_2 := kq 2; clear kq; have f2_w_1 := frozAt hb2 (w.heap.size + 1) (by go_size); simp [go_sem, *] at k2_w_1_0 k2_w_1_1 k2_w_1_2 f2_w_1)); (try have l2_w_1 : w.heap.size + 1 < w2.heap.size := by omega); (try clear k1_w_0_0 k1_w_0_1 f1_w_0); (try clear l1_w_0); (try clear k1_w_1_0 k1_w_1_1 k1_w_1_2 f1_w_1); (try clear l1_w_1)))
    go_ret
    refine ⟨by rw [Bool.true_and]; rfl, ?_⟩
    repeat' first | (with_reducible first | apply zRf | assumption | apply zDn | apply zDr | apply zAl | apply zSt | refine zVi (by assumption) ?_ ?_) | go_size
theorem eql_point (x y e : Int) (W : World) : (binOp .eql 93 (.agg #[.int .i64 x, .int .i64 y, .int .i64 e]) (.agg #[.int .i64 0, .int .i64 0, .int .i64 0])).run Tryd.prog W = .ok (.bool (decide (x = 0 ∧ y = 0 ∧ e = 0))) W := by
  by_cases hx : x = 0
  · by_cases hy : y = 0
    · by_cases he : e = 0 <;> simp [go_sem, hx, hy, he]
    · simp [go_sem, hx, hy]
  · simp [go_sem, hx]
theorem isPoint_any (A B x y e : Int) (w : World) : Calls Tryd.prog 83 #[.agg #[.int .i64 A, .int .i64 B], .agg #[.int .i64 x, .int .i64 y, .int .i64 e]] w fun r w' => r = .returned (.bool (cvB A B && ptB A B x y e)) ∧ Below w.heap.size w w' := by
  have T1 := fun W : World => Lib.hid (isCurve_any A B W)
  have T2 := fun W : World => Lib.hid (inside_any x (-10000) 10000 W)
  have T3 := fun W : World => Lib.hid (inside_any e 1 20 W)
  have T4 := fun W : World => Lib.hid (inside_any y (-3000000) 3000000 W)
  cases h0 : cvB A B
  · rw [h0] at T1
    clear h0
    have tok1 : True := trivial
    go_enter Tryd.func83, Tryd.ntmps83
    go_wp2_with (first | (have _t := tok1; go_at_call 80; (with_reducible refine ((T1 _).out).mono ?_); rintro e w1 ⟨rfl, hb1⟩; clear tok1 _t; have hz1 := hb1.size; (try simp only [World.size_alloc, World.size_setCell, World.size_drew, World.size_drewN'] at hz1); (try (have kq := cellAt hb1 (w.heap.size) (by go_size); have k1_w_0_0 := kq 0; have k1_w_0_1 := kq 1; clear kq; have f1_w_0 := frozAt hb1 (w.heap.size) (by go_size); simp [go_sem, *] at k1_w_0_0 k1_w_0_1 f1_w_0)); (try have l1_w_0 : w.heap.size < w1.heap.size := by omega); (try (have kq := cellAt hb1 (w.heap.size + 1) (by go_size); have k1_w_1_0 := kq 0; have k1_w_1_1 := kq 1; have k1_w_1_2 := kq 2; clear kq; have f1_w_1 := frozAt hb1 (w.heap.size + 1) (by go_size); simp [go_sem, *] at k1_w_1_0 k1_w_1_1 k1_w_1_2 f1_w_1)); (try have l1_w_1 : w.heap.size + 1 < w1.heap.size := by omega)) | (go_at_call 41; (with_reducible refine ((T2 _).out).mono ?_); rintro e w' ⟨rfl, rfl⟩) | (go_at_call 41; (with_reducible refine ((T3 _).out).mono ?_); rintro e w' ⟨rfl, rfl⟩) | (go_at_call 41; (with_reducible refine ((T4 _).out).mono ?_); rintro e w' ⟨rfl, rfl⟩) | (go_at_call 49; refine (gcd_any _ _ _ (by omega) (by omega) (by omega) (by omega)).mono ?_; rintro e w' ⟨rfl, nq, rfl⟩))
    go_ret
    refine ⟨rfl, ?_⟩
    repeat' first | (with_reducible first | apply zRf | assumption | apply zDn | apply zDr | apply zAl | apply zSt | refine zVi (by assumption) ?_ ?_) | go_size
  · rw [h0] at T1
    have hc := cvB_bd h0
    have hA := hc.1
    have hB := hc.2.1
    clear hc h0
    rw [Bool.true_and]
    by_cases hz : x = 0 ∧ y = 0 ∧ e = 0
    · obtain ⟨rfl, rfl, rfl⟩ := hz
      have tok1 : True := trivial
      go_enter Tryd.func83, Tryd.ntmps83
      go_wp2_with (first | (have _t := tok1; go_at_call 80; (with_reducible refine ((T1 _).out).mono ?_); rintro e w1 ⟨rfl, hb1⟩; clear tok1 _t; have hz1 := hb1.size; (try simp only [World.size_alloc, World.size_setCell, World.size_drew, World.size_drewN'] at hz1); (try (have kq := cellAt hb1 (w.heap.size) (by go_size); have k1_w_0_0 := kq 0; have k1_w_0_1 := kq 1; clear kq; have f1_w_0 := frozAt hb1 (w.heap.size) (by go_size); simp [go_sem, *] at k1_w_0_0 k1_w_0_1 f1_w_0)); (try have l1_w_0 : w.heap.size < w1.heap.size := by omega); (try (have kq := cellAt hb1 (w.heap.size + 1) (by go_size); have k1_w_1_0 := kq 0; have k1_w_1_1 := kq 1; have k1_w_1_2 := kq 2; clear kq; have f1_w_1 := frozAt hb1 (w.heap.size + 1) (by go_size); simp [go_sem, *] at k1_w_1_0 k1_w_1_1 k1_w_1_2 f1_w_1)); (try have l1_w_1 : w.heap.size + 1 < w1.heap.size := by omega)) | (go_at_call 41; (with_reducible refine ((T2 _).out).mono ?_); rintro e w' ⟨rfl, rfl⟩) | (go_at_call 41; (with_reducible refine ((T3 _).out).mono ?_); rintro e w' ⟨rfl, rfl⟩) | (go_at_call 41; (with_reducible refine ((T4 _).out).mono ?_); rintro e w' ⟨rfl, rfl⟩) | (go_at_call 49; refine (gcd_any _ _ _ (by omega) (by omega) (by omega) (by omega)).mono ?_; rintro e w' ⟨rfl, nq, rfl⟩))
      go_ret
      refine ⟨ret_bool (by simp [ptB]), ?_⟩
      repeat' first | (with_reducible first | apply zRf | assumption | apply zDn | apply zDr | apply zAl | apply zSt | refine zVi (by assumption) ?_ ?_) | go_size
    · have hq := fun (W : World) => eql_point x y e W
      rw [show decide (x = 0 ∧ y = 0 ∧ e = 0) = false by simpa using hz] at hq
      cases h1 : inB x (-10000) 10000
      · have HP := Lib.hid (show ptB A B x y e = false by unfold ptB; have := inB_false.1 h1; split <;> simp [h1]; omega)
        rw [h1] at T2
        clear h1 hz
        have tok1 : True := trivial
        go_enter Tryd.func83, Tryd.ntmps83
        go_wp2_with (first | (have _t := tok1; go_at_call 80; (with_reducible refine ((T1 _).out).mono ?_); rintro e w1 ⟨rfl, hb1⟩; clear tok1 _t; have hz1 := hb1.size; (try simp only [World.size_alloc, World.size_setCell, World.size_drew, World.size_drewN'] at hz1); (try (have kq := cellAt hb1 (w.heap.size) (by go_size); have k1_w_0_0 := kq 0; have k1_w_0_1 := kq 1; clear kq; have f1_w_0 := frozAt hb1 (w.heap.size) (by go_size); simp [go_sem, *] at k1_w_0_0 k1_w_0_1 f1_w_0)); (try have l1_w_0 : w.heap.size < w1.heap.size := by omega); (try (have kq := cellAt hb1 (w.heap.size + 1) (by go_size); have k1_w_1_0 := kq 0; have k1_w_1_1 := kq 1; have k1_w_1_2 := kq 2; clear kq; have f1_w_1 := frozAt hb1 (w.heap.size + 1) (by go_size); simp [go_sem, *] at k1_w_1_0 k1_w_1_1 k1_w_1_2 f1_w_1)); (try have l1_w_1 : w.heap.size + 1 < w1.heap.size := by omega)) | (go_at_call 41; (with_reducible refine ((T2 _).out).mono ?_); rintro e w' ⟨rfl, rfl⟩) | (go_at_call 41; (with_reducible refine ((T3 _).out).mono ?_); rintro e w' ⟨rfl, rfl⟩) | (go_at_call 41; (with_reducible refine ((T4 _).out).mono ?_); rintro e w' ⟨rfl, rfl⟩) | (go_at_call 49; refine (gcd_any _ _ _ (by omega) (by omega) (by omega) (by omega)).mono ?_; rintro e w' ⟨rfl, nq, rfl⟩))
        go_ret
        refine ⟨ret_bool HP.out.symm, ?_⟩
        repeat' first | (with_reducible first | apply zRf | assumption | apply zDn | apply zDr | apply zAl | apply zSt | refine zVi (by assumption) ?_ ?_) | go_size
      · rw [h1] at T2
        cases h2 : inB e 1 20
        · have HP := Lib.hid (show ptB A B x y e = false by unfold ptB; split <;> simp [h2]; omega)
          rw [h2] at T3
          clear h1 h2 hz
          have tok1 : True := trivial
          go_enter Tryd.func83, Tryd.ntmps83
          go_wp2_with (first | (have _t := tok1; go_at_call 80; (with_reducible refine ((T1 _).out).mono ?_); rintro e w1 ⟨rfl, hb1⟩; clear tok1 _t; have hz1 := hb1.size; (try simp only [World.size_alloc, World.size_setCell, World.size_drew, World.size_drewN'] at hz1); (try (have kq := cellAt hb1 (w.heap.size) (by go_size); have k1_w_0_0 := kq 0; have k1_w_0_1 := kq 1; clear kq; have f1_w_0 := frozAt hb1 (w.heap.size) (by go_size); simp [go_sem, *] at k1_w_0_0 k1_w_0_1 f1_w_0)); (try have l1_w_0 : w.heap.size < w1.heap.size := by omega); (try (have kq := cellAt hb1 (w.heap.size + 1) (by go_size); have k1_w_1_0 := kq 0; have k1_w_1_1 := kq 1; have k1_w_1_2 := kq 2; clear kq; have f1_w_1 := frozAt hb1 (w.heap.size + 1) (by go_size); simp [go_sem, *] at k1_w_1_0 k1_w_1_1 k1_w_1_2 f1_w_1)); (try have l1_w_1 : w.heap.size + 1 < w1.heap.size := by omega)) | (go_at_call 41; (with_reducible refine ((T2 _).out).mono ?_); rintro e w' ⟨rfl, rfl⟩) | (go_at_call 41; (with_reducible refine ((T3 _).out).mono ?_); rintro e w' ⟨rfl, rfl⟩) | (go_at_call 41; (with_reducible refine ((T4 _).out).mono ?_); rintro e w' ⟨rfl, rfl⟩) | (go_at_call 49; refine (gcd_any _ _ _ (by omega) (by omega) (by omega) (by omega)).mono ?_; rintro e w' ⟨rfl, nq, rfl⟩))
          go_ret
          refine ⟨ret_bool HP.out.symm, ?_⟩
          repeat' first | (with_reducible first | apply zRf | assumption | apply zDn | apply zDr | apply zAl | apply zSt | refine zVi (by assumption) ?_ ?_) | go_size
        · rw [h2] at T3
          have b1 := inB_iff.1 h1
          have b2 := inB_iff.1 h2
          have HP := Lib.hid (show ptB A B x y e = (decide (gcdI x e = 1) && decide (y * y = evV A B x e)) by unfold ptB; rw [if_neg (by omega), h1, h2, Bool.true_and, Bool.true_and])
          by_cases h4 : gcdI x e = 1
          · rw [h4] at HP
            cases h3 : inB y (-3000000) 3000000
            · rw [h3] at T4
              rw [ptB_far (L := 3000000) (by omega) hA hB h1 h2 h3] at HP
              clear h1 h2 h3 hz
              have tok1 : True := trivial
              go_enter Tryd.func83, Tryd.ntmps83
              go_wp2_with (first | (have _t := tok1; go_at_call 80; (with_reducible refine ((T1 _).out).mono ?_); rintro e w1 ⟨rfl, hb1⟩; clear tok1 _t; have hz1 := hb1.size; (try simp only [World.size_alloc, World.size_setCell, World.size_drew, World.size_drewN'] at hz1); (try (have kq := cellAt hb1 (w.heap.size) (by go_size); have k1_w_0_0 := kq 0; have k1_w_0_1 := kq 1; clear kq; have f1_w_0 := frozAt hb1 (w.heap.size) (by go_size); simp [go_sem, *] at k1_w_0_0 k1_w_0_1 f1_w_0)); (try have l1_w_0 : w.heap.size < w1.heap.size := by omega); (try (have kq := cellAt hb1 (w.heap.size + 1) (by go_size); have k1_w_1_0 := kq 0; have k1_w_1_1 := kq 1; have k1_w_1_2 := kq 2; clear kq; have f1_w_1 := frozAt hb1 (w.heap.size + 1) (by go_size); simp [go_sem, *] at k1_w_1_0 k1_w_1_1 k1_w_1_2 f1_w_1)); (try have l1_w_1 : w.heap.size + 1 < w1.heap.size := by omega)) | (go_at_call 41; (with_reducible refine ((T2 _).out).mono ?_); rintro e w' ⟨rfl, rfl⟩) | (go_at_call 41; (with_reducible refine ((T3 _).out).mono ?_); rintro e w' ⟨rfl, rfl⟩) | (go_at_call 41; (with_reducible refine ((T4 _).out).mono ?_); rintro e w' ⟨rfl, rfl⟩) | (go_at_call 49; refine (gcd_any _ _ _ (by omega) (by omega) (by omega) (by omega)).mono ?_; rintro e w' ⟨rfl, nq, rfl⟩))
              go_ret
              refine ⟨ret_bool (by rw [HP.out]; simp), ?_⟩
              repeat' first | (with_reducible first | apply zRf | assumption | apply zDn | apply zDr | apply zAl | apply zSt | refine zVi (by assumption) ?_ ?_) | go_size
            · rw [h3] at T4
              have b3 := inB_iff.1 h3
              have m := mul_bd (a := y) (b := y) (A := 3000000) (B := 3000000) (by omega) (by omega)
              have T5 := fun W : World => Lib.hid (curveValue_any A B x e W hA hB b1 (by omega))
              clear h1 h2 h3 hz
              have tok1 : True := trivial
              go_enter Tryd.func83, Tryd.ntmps83
              go_wp2_with (first | (have _t := tok1; go_at_call 80; (with_reducible refine ((T1 _).out).mono ?_); rintro e w1 ⟨rfl, hb1⟩; clear tok1 _t; have hz1 := hb1.size; (try simp only [World.size_alloc, World.size_setCell, World.size_drew, World.size_drewN'] at hz1); (try (have kq := cellAt hb1 (w.heap.size) (by go_size); have k1_w_0_0 := kq 0; have k1_w_0_1 := kq 1; clear kq; have f1_w_0 := frozAt hb1 (w.heap.size) (by go_size); simp [go_sem, *] at k1_w_0_0 k1_w_0_1 f1_w_0)); (try have l1_w_0 : w.heap.size < w1.heap.size := by omega); (try (have kq := cellAt hb1 (w.heap.size + 1) (by go_size); have k1_w_1_0 := kq 0; have k1_w_1_1 := kq 1; have k1_w_1_2 := kq 2; clear kq; have f1_w_1 := frozAt hb1 (w.heap.size + 1) (by go_size); simp [go_sem, *] at k1_w_1_0 k1_w_1_1 k1_w_1_2 f1_w_1)); (try have l1_w_1 : w.heap.size + 1 < w1.heap.size := by omega)) | (go_at_call 41; (with_reducible refine ((T2 _).out).mono ?_); rintro e w' ⟨rfl, rfl⟩) | (go_at_call 41; (with_reducible refine ((T3 _).out).mono ?_); rintro e w' ⟨rfl, rfl⟩) | (go_at_call 41; (with_reducible refine ((T4 _).out).mono ?_); rintro e w' ⟨rfl, rfl⟩) | (go_at_call 49; refine (gcd_any _ _ _ (by omega) (by omega) (by omega) (by omega)).mono ?_; rintro e w' ⟨rfl, nq, rfl⟩))
              refine wp_open (n := 12) (by kernel_rfl) (by kernel_rfl) (by kernel_rfl) (by kernel_rfl) ?_
              simp only [List.take_succ_cons, List.take_zero]
              apply wpS_quiet
              · intro γ W hW hp
                refine ⟨rfl, ?_⟩
                go_big_quiet_op
                first | exact rfl
              · exact locS_const _
              try simp only [Act.put, List.setIfInBounds_toArray, List.set_cons_succ, List.set_cons_zero, Nat.reduceAdd]
              apply wpS_quiet
              · intro γ W hW hp
                have hs := hW.size
                (try simp only [World.size_alloc, World.size_setCell, World.size_drew, World.size_drewN'] at hs)
                try (have kx_w_0_0 := fun x : Over W => (cellAt x.lies (w.heap.size) (by omega) 0).trans (cellAt hW (w.heap.size) (by go_size) 0); simp [go_sem, *] at kx_w_0_0)
                try (have kx_w_0_1 := fun x : Over W => (cellAt x.lies (w.heap.size) (by omega) 1).trans (cellAt hW (w.heap.size) (by go_size) 1); simp [go_sem, *] at kx_w_0_1)
                try (have kx_w_1_0 := fun x : Over W => (cellAt x.lies (w.heap.size + 1) (by omega) 0).trans (cellAt hW (w.heap.size + 1) (by go_size) 0); simp [go_sem, *] at kx_w_1_0)
                try (have kx_w_1_1 := fun x : Over W => (cellAt x.lies (w.heap.size + 1) (by omega) 1).trans (cellAt hW (w.heap.size + 1) (by go_size) 1); simp [go_sem, *] at kx_w_1_1)
                try (have kx_w_1_2 := fun x : Over W => (cellAt x.lies (w.heap.size + 1) (by omega) 2).trans (cellAt hW (w.heap.size + 1) (by go_size) 2); simp [go_sem, *] at kx_w_1_2)
                clear hW hp
                refine ⟨rfl, ?_⟩
                go_big_quiet_op
                first | exact rfl
              · exact locS_const _
              try simp only [Act.put, List.setIfInBounds_toArray, List.set_cons_succ, List.set_cons_zero, Nat.reduceAdd]
              apply wpS_quiet
              · intro γ W hW hp
                refine ⟨rfl, ?_⟩
                go_big_quiet_op
                first | exact rfl
              · exact locS_const _
              try simp only [Act.put, List.setIfInBounds_toArray, List.set_cons_succ, List.set_cons_zero, Nat.reduceAdd]
              apply wpS_quiet
              · intro γ W hW hp
                have hs := hW.size
                (try simp only [World.size_alloc, World.size_setCell, World.size_drew, World.size_drewN'] at hs)
                try (have kx_w_0_0 := fun x : Over W => (cellAt x.lies (w.heap.size) (by omega) 0).trans (cellAt hW (w.heap.size) (by go_size) 0); simp [go_sem, *] at kx_w_0_0)
                try (have kx_w_0_1 := fun x : Over W => (cellAt x.lies (w.heap.size) (by omega) 1).trans (cellAt hW (w.heap.size) (by go_size) 1); simp [go_sem, *] at kx_w_0_1)
                try (have kx_w_1_0 := fun x : Over W => (cellAt x.lies (w.heap.size + 1) (by omega) 0).trans (cellAt hW (w.heap.size + 1) (by go_size) 0); simp [go_sem, *] at kx_w_1_0)
                try (have kx_w_1_1 := fun x : Over W => (cellAt x.lies (w.heap.size + 1) (by omega) 1).trans (cellAt hW (w.heap.size + 1) (by go_size) 1); simp [go_sem, *] at kx_w_1_1)
                try (have kx_w_1_2 := fun x : Over W => (cellAt x.lies (w.heap.size + 1) (by omega) 2).trans (cellAt hW (w.heap.size + 1) (by go_size) 2); simp [go_sem, *] at kx_w_1_2)
                clear hW hp
                refine ⟨rfl, ?_⟩
                go_big_quiet_op
                first | exact rfl
              · exact locS_const _
              try simp only [Act.put, List.setIfInBounds_toArray, List.set_cons_succ, List.set_cons_zero, Nat.reduceAdd]
              apply wpS_quiet
              · intro γ W hW hp
                refine ⟨rfl, ?_⟩
                go_big_quiet_op
                first | exact rfl
              · exact locS_const _
              try simp only [Act.put, List.setIfInBounds_toArray, List.set_cons_succ, List.set_cons_zero, Nat.reduceAdd]
              apply wpS_quiet
              · intro γ W hW hp
                have hs := hW.size
                (try simp only [World.size_alloc, World.size_setCell, World.size_drew, World.size_drewN'] at hs)
                try (have kx_w_0_0 := fun x : Over W => (cellAt x.lies (w.heap.size) (by omega) 0).trans (cellAt hW (w.heap.size) (by go_size) 0); simp [go_sem, *] at kx_w_0_0)
                try (have kx_w_0_1 := fun x : Over W => (cellAt x.lies (w.heap.size) (by omega) 1).trans (cellAt hW (w.heap.size) (by go_size) 1); simp [go_sem, *] at kx_w_0_1)
                try (have kx_w_1_0 := fun x : Over W => (cellAt x.lies (w.heap.size + 1) (by omega) 0).trans (cellAt hW (w.heap.size + 1) (by go_size) 0); simp [go_sem, *] at kx_w_1_0)
                try (have kx_w_1_1 := fun x : Over W => (cellAt x.lies (w.heap.size + 1) (by omega) 1).trans (cellAt hW (w.heap.size + 1) (by go_size) 1); simp [go_sem, *] at kx_w_1_1)
                try (have kx_w_1_2 := fun x : Over W => (cellAt x.lies (w.heap.size + 1) (by omega) 2).trans (cellAt hW (w.heap.size + 1) (by go_size) 2); simp [go_sem, *] at kx_w_1_2)
                clear hW hp
                refine ⟨rfl, ?_⟩
                go_big_quiet_op
                first | exact rfl
              · exact locS_const _
              try simp only [Act.put, List.setIfInBounds_toArray, List.set_cons_succ, List.set_cons_zero, Nat.reduceAdd]
              apply wpS_quiet
              · intro γ W hW hp
                refine ⟨rfl, ?_⟩
                go_big_quiet_op
                first | exact rfl
              · exact locS_const _
              try simp only [Act.put, List.setIfInBounds_toArray, List.set_cons_succ, List.set_cons_zero, Nat.reduceAdd]
              apply wpS_quiet
              · intro γ W hW hp
                have hs := hW.size
                (try simp only [World.size_alloc, World.size_setCell, World.size_drew, World.size_drewN'] at hs)
                try (have kx_w_0_0 := fun x : Over W => (cellAt x.lies (w.heap.size) (by omega) 0).trans (cellAt hW (w.heap.size) (by go_size) 0); simp [go_sem, *] at kx_w_0_0)
                try (have kx_w_0_1 := fun x : Over W => (cellAt x.lies (w.heap.size) (by omega) 1).trans (cellAt hW (w.heap.size) (by go_size) 1); simp [go_sem, *] at kx_w_0_1)
                try (have kx_w_1_0 := fun x : Over W => (cellAt x.lies (w.heap.size + 1) (by omega) 0).trans (cellAt hW (w.heap.size + 1) (by go_size) 0); simp [go_sem, *] at kx_w_1_0)
                try (have kx_w_1_1 := fun x : Over W => (cellAt x.lies (w.heap.size + 1) (by omega) 1).trans (cellAt hW (w.heap.size + 1) (by go_size) 1); simp [go_sem, *] at kx_w_1_1)
                try (have kx_w_1_2 := fun x : Over W => (cellAt x.lies (w.heap.size + 1) (by omega) 2).trans (cellAt hW (w.heap.size + 1) (by go_size) 2); simp [go_sem, *] at kx_w_1_2)
                clear hW hp
                refine ⟨rfl, ?_⟩
                go_big_quiet_op
                first | exact rfl
              · exact locS_const _
              try simp only [Act.put, List.setIfInBounds_toArray, List.set_cons_succ, List.set_cons_zero, Nat.reduceAdd]
              apply wpS_quiet
              · intro γ W hW hp
                refine ⟨rfl, ?_⟩
                go_big_quiet_op
                first | exact rfl
              · exact locS_const _
              try simp only [Act.put, List.setIfInBounds_toArray, List.set_cons_succ, List.set_cons_zero, Nat.reduceAdd]
              apply wpS_quiet
              · intro γ W hW hp
                have hs := hW.size
                (try simp only [World.size_alloc, World.size_setCell, World.size_drew, World.size_drewN'] at hs)
                try (have kx_w_0_0 := fun x : Over W => (cellAt x.lies (w.heap.size) (by omega) 0).trans (cellAt hW (w.heap.size) (by go_size) 0); simp [go_sem, *] at kx_w_0_0)
                try (have kx_w_0_1 := fun x : Over W => (cellAt x.lies (w.heap.size) (by omega) 1).trans (cellAt hW (w.heap.size) (by go_size) 1); simp [go_sem, *] at kx_w_0_1)
                try (have kx_w_1_0 := fun x : Over W => (cellAt x.lies (w.heap.size + 1) (by omega) 0).trans (cellAt hW (w.heap.size + 1) (by go_size) 0); simp [go_sem, *] at kx_w_1_0)
                try (have kx_w_1_1 := fun x : Over W => (cellAt x.lies (w.heap.size + 1) (by omega) 1).trans (cellAt hW (w.heap.size + 1) (by go_size) 1); simp [go_sem, *] at kx_w_1_1)
                try (have kx_w_1_2 := fun x : Over W => (cellAt x.lies (w.heap.size + 1) (by omega) 2).trans (cellAt hW (w.heap.size + 1) (by go_size) 2); simp [go_sem, *] at kx_w_1_2)
                clear hW hp
                refine ⟨rfl, ?_⟩
                go_big_quiet_op
                first | exact rfl
              · exact locS_const _
              try simp only [Act.put, List.setIfInBounds_toArray, List.set_cons_succ, List.set_cons_zero, Nat.reduceAdd]
              apply wpS_quiet
              · intro γ W hW hp
                refine ⟨rfl, ?_⟩
                go_big_quiet_op
                apply Exists.intro
                refine ⟨fun x => ?_, ?_⟩
                · (first | (go_at_call 93; (with_reducible exact draw_of _ ((T5 _).out))))
                exact rfl
              · exact locS_const _
              try simp only [Act.put, List.setIfInBounds_toArray, List.set_cons_succ, List.set_cons_zero, Nat.reduceAdd]
              apply wpS_quiet
              · intro γ W hW hp
                refine ⟨rfl, ?_⟩
                go_big_quiet_op
                first | exact rfl
              · exact locS_const _
              try simp only [Act.put, List.setIfInBounds_toArray, List.set_cons_succ, List.set_cons_zero, Nat.reduceAdd]
              apply wpS_end
              intro γ w2 hb2 hG2 hA2
              clear hG2 hA2
              simp only [List.drop_succ_cons, List.drop_zero]
              have hz2 := hb2.size
              (try simp only [World.size_alloc, World.size_setCell, World.size_drew, World.size_drewN'] at hz2)
              (try (have kq := cellAt hb2 (w.heap.size) (by go_size); have k2_w_0_0 := kq 0; have k2_w_0_1 := kq 1; clear kq; have f2_w_0 := frozAt hb2 (w.heap.size) (by go_size); simp [go_sem, *] at k2_w_0_0 k2_w_0_1 f2_w_0))
              (try have l2_w_0 : w.heap.size < w2.heap.size := by omega)
              (try (have kq := cellAt hb2 (w.heap.size + 1) (by go_size); have k2_w_1_0 := kq 0; have k2_w_1_1 := kq 1; have k2_w_1_2 := kq 2; clear kq; have f2_w_1 := frozAt hb2 (w.heap.size + 1) (by go_size); simp [go_sem, *] at k2_w_1_0 k2_w_1_1 k2_w_1_2 f2_w_1))
              (try have l2_w_1 : w.heap.size + 1 < w2.heap.size := by omega)
              (try clear k1_w_0_0 k1_w_0_1 f1_w_0)
              (try clear l1_w_0)
              (try clear k1_w_1_0 k1_w_1_1 k1_w_1_2 f1_w_1)
              (try clear l1_w_1)
              go_wp2_with fail
              go_ret
              refine ⟨ret_bool (by rw [HP.out]; by_cases hv : y * y = evV A B x e <;> simp [hv]), ?_⟩
              repeat' first | (with_reducible first | apply zRf | assumption | apply zDn | apply zDr | apply zAl | apply zSt | refine zVi (by assumption) ?_ ?_) | go_size
          · clear h1 h2 hz
            have tok1 : True := trivial
            go_enter Tryd.func83, Tryd.ntmps83
            go_wp2_with (first | (have _t := tok1; go_at_call 80; (with_reducible refine ((T1 _).out).mono ?_); rintro e w1 ⟨rfl, hb1⟩; clear tok1 _t; have hz1 := hb1.size; (try simp only [World.size_alloc, World.size_setCell, World.size_drew, World.size_drewN'] at hz1); (try (have kq := cellAt hb1 (w.heap.size) (by go_size); have k1_w_0_0 := kq 0; have k1_w_0_1 := kq 1; clear kq; have f1_w_0 := frozAt hb1 (w.heap.size) (by go_size); simp [go_sem, *] at k1_w_0_0 k1_w_0_1 f1_w_0)); (try have l1_w_0 : w.heap.size < w1.heap.size := by omega); (try (have kq := cellAt hb1 (w.heap.size + 1) (by go_size); have k1_w_1_0 := kq 0; have k1_w_1_1 := kq 1; have k1_w_1_2 := kq 2; clear kq; have f1_w_1 := frozAt hb1 (w.heap.size + 1) (by go_size); simp [go_sem, *] at k1_w_1_0 k1_w_1_1 k1_w_1_2 f1_w_1)); (try have l1_w_1 : w.heap.size + 1 < w1.heap.size := by omega)) | (go_at_call 41; (with_reducible refine ((T2 _).out).mono ?_); rintro e w' ⟨rfl, rfl⟩) | (go_at_call 41; (with_reducible refine ((T3 _).out).mono ?_); rintro e w' ⟨rfl, rfl⟩) | (go_at_call 41; (with_reducible refine ((T4 _).out).mono ?_); rintro e w' ⟨rfl, rfl⟩) | (go_at_call 49; refine (gcd_any _ _ _ (by omega) (by omega) (by omega) (by omega)).mono ?_; rintro e w' ⟨rfl, nq, rfl⟩))
            go_ret
            refine ⟨ret_bool (by rw [HP.out]; simp [h4]), ?_⟩
            repeat' first | (with_reducible first | apply zRf | assumption | apply zDn | apply zDr | apply zAl | apply zSt | refine zVi (by assumption) ?_ ?_) | go_size
end Go.Proofs.YtdcbpgpjiacomaaDoor
