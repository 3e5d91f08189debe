/- Lemmas and contracts of functions. No condition. -/
import Derived.Test.YtgjppinjapdbeaaGreatPk9
namespace Go.Proofs.YtgjppinjapdbeaaGreat
open Go.RowKit
set_option linter.unusedVariables false
set_option maxHeartbeats 2000000
set_option maxRecDepth 20000
set_option linter.unusedSimpArgs false
attribute [local go_sem] openAt openUpon
def dbM (a b : Int) : Int := most (1 + 2 * a + 8 * b + a * a) (4 * (1 + a + b))
def dbP (a b : Int) : Int := 15 + 21 * a + 27 * b
def dbQ (a b d : Int) : Int := 4 * d + 5 * a * a * b + 4 * a * (3 * a * a * a + 22 * b * b) + 12 * b * (a * a * a + 8 * b * b) + (a * (5 * a * a * a + 32 * b * b) + 2 * b * (13 * a * a * a + 96 * b * b) + 3 * a * a * (a * a * a + 8 * b * b))
def dbK (a b d : Int) : Int := most (dbP a b) (dbQ a b d)
theorem most_bd {x y M : Int} (hx : 0 ≤ x ∧ x ≤ M) (hy : 0 ≤ y ∧ y ≤ M) : 0 ≤ most x y ∧ most x y ≤ M := by rw [most_eq]; omega
theorem htDoubling_any (A B : Int) (w : World) (hA : -1000 ≤ A ∧ A ≤ 1000) (hB : -10000 ≤ B ∧ B ≤ 10000) : Calls Tryz.prog 106 #[.agg #[.int .i64 A, .int .i64 B]] w fun e w' =>
    e = .returned (.tuple #[.int .i64 (dbM (absI A) (absI B)), .int .i64 (dbK (absI A) (absI B) (absI (coV A B)))]) ∧ Below w.heap.size w w' := by
  have hc := coV_bd hA hB
  have T1 := fun W : World => Lib.hid (l1Abs_any A W (by omega) (by omega))
  have T2 := fun W : World => Lib.hid (l1Abs_any B W (by omega) (by omega))
  have T3 := fun W : World => Lib.hid (l1Abs_any (coV A B) W (by omega) (by omega))
  have T4 := fun W : World => Lib.hid (ecDisc_any A B W hA hB)
  have ha0 := absI_nonneg A
  have hb0 := absI_nonneg B
  have hd0 := absI_nonneg (coV A B)
  have ha1 := absI_le hA.1 hA.2
  have hb1 := absI_le hB.1 hB.2
  have hd1 := absI_le hc.1 hc.2
  have HM := Lib.hid (show dbM (absI A) (absI B) = most (1 + 2 * absI A + 8 * absI B + absI A * absI A) (4 * (1 + absI A + absI B)) from rfl)
  have HK := Lib.hid (show dbK (absI A) (absI B) (absI (coV A B)) = most (dbP (absI A) (absI B)) (dbQ (absI A) (absI B) (absI (coV A B))) from rfl)
  unfold dbP dbQ at HK
  generalize coV A B = C at *
  generalize absI A = a at *
  generalize absI B = b at *
  generalize absI C = d at *
  go_enter Tryz.func106, Tryz.ntmps106
  go_wp2_with fail
  refine wp_open (n := 11) (by kernel_rfl) (by kernel_rfl) (by kernel_rfl) (by kernel_rfl) ?_
  simp only [List.take_succ_cons, List.take_zero]
  apply wpS_quiet
  · intro γ W hW hp
    refine ⟨rfl, ?_⟩
    go_big_quiet_op
    first | exact rfl
  · exact locS_const _
  try simp only [Act.put, List.setIfInBounds_toArray, List.set_cons_succ, List.set_cons_zero, Nat.reduceAdd]
  apply wpS_quiet
  · intro γ W hW hp
    have hs := hW.size
    (try simp only [World.size_alloc, World.size_setCell, World.size_drew, World.size_drewN'] at hs)
    try (have kx_w_0_0 := fun x : Over W => (cellAt x.lies (w.heap.size) (by omega) 0).trans (cellAt hW (w.heap.size) (by go_size) 0); simp [go_sem, *] at kx_w_0_0)
    try (have kx_w_0_1 := fun x : Over W => (cellAt x.lies (w.heap.size) (by omega) 1).trans (cellAt hW (w.heap.size) (by go_size) 1); simp [go_sem, *] at kx_w_0_1)
    clear hW hp
    refine ⟨rfl, ?_⟩
    go_big_quiet_op
    first | exact rfl
  · exact locS_const _
  try simp only [Act.put, List.setIfInBounds_toArray, List.set_cons_succ, List.set_cons_zero, Nat.reduceAdd]
  apply wpS_quiet
  · intro γ W hW hp
    refine ⟨rfl, ?_⟩
    go_big_quiet_op
    apply Exists.intro
    refine ⟨fun x => ?_, ?_⟩
    · (first | (go_at_call 51; (with_reducible exact draw_of_same _ ((T1 _).out))) | (go_at_call 51; (with_reducible exact draw_of_same _ ((T2 _).out))) | (go_at_call 51; (with_reducible exact draw_of_same _ ((T3 _).out))) | (go_at_call 70; (with_reducible exact draw_of _ ((T4 _).out))))
    exact rfl
  · exact locS_const _
  try simp only [Act.put, List.setIfInBounds_toArray, List.set_cons_succ, List.set_cons_zero, Nat.reduceAdd]
  apply wpS_quiet
  · intro γ W hW hp
    refine ⟨rfl, ?_⟩
    go_big_quiet_op
    first | exact rfl
  · exact locS_const _
  try simp only [Act.put, List.setIfInBounds_toArray, List.set_cons_succ, List.set_cons_zero, Nat.reduceAdd]
  apply wpS_quiet
  · intro γ W hW hp
    have hs := hW.size
    (try simp only [World.size_alloc, World.size_setCell, World.size_drew, World.size_drewN'] at hs)
    try (have kx_w_0_0 := fun x : Over W => (cellAt x.lies (w.heap.size) (by omega) 0).trans (cellAt hW (w.heap.size) (by go_size) 0); simp [go_sem, *] at kx_w_0_0)
    try (have kx_w_0_1 := fun x : Over W => (cellAt x.lies (w.heap.size) (by omega) 1).trans (cellAt hW (w.heap.size) (by go_size) 1); simp [go_sem, *] at kx_w_0_1)
    clear hW hp
    refine ⟨rfl, ?_⟩
    go_big_quiet_op
    first | exact rfl
  · exact locS_const _
  try simp only [Act.put, List.setIfInBounds_toArray, List.set_cons_succ, List.set_cons_zero, Nat.reduceAdd]
  apply wpS_quiet
  · intro γ W hW hp
    refine ⟨rfl, ?_⟩
    go_big_quiet_op
    apply Exists.intro
    refine ⟨fun x => ?_, ?_⟩
    · (first | (go_at_call 51; (with_reducible exact draw_of_same _ ((T1 _).out))) | (go_at_call 51; (with_reducible exact draw_of_same _ ((T2 _).out))) | (go_at_call 51; (with_reducible exact draw_of_same _ ((T3 _).out))) | (go_at_call 70; (with_reducible exact draw_of _ ((T4 _).out))))
    exact rfl
  · exact locS_const _
  try simp only [Act.put, List.setIfInBounds_toArray, List.set_cons_succ, List.set_cons_zero, Nat.reduceAdd]
  apply wpS_quiet
  · intro γ W hW hp
    have hs := hW.size
    (try simp only [World.size_alloc, World.size_setCell, World.size_drew, World.size_drewN'] at hs)
    try (have kx_w_0_0 := fun x : Over W => (cellAt x.lies (w.heap.size) (by omega) 0).trans (cellAt hW (w.heap.size) (by go_size) 0); simp [go_sem, *] at kx_w_0_0)
    try (have kx_w_0_1 := fun x : Over W => (cellAt x.lies (w.heap.size) (by omega) 1).trans (cellAt hW (w.heap.size) (by go_size) 1); simp [go_sem, *] at kx_w_0_1)
    clear hW hp
    refine ⟨rfl, ?_⟩
    go_big_quiet_op
    first | exact rfl
  · exact locS_const _
  try simp only [Act.put, List.setIfInBounds_toArray, List.set_cons_succ, List.set_cons_zero, Nat.reduceAdd]
  apply wpS_quiet
  · intro γ W hW hp
    refine ⟨rfl, ?_⟩
    go_big_quiet_op
    apply Exists.intro
    refine ⟨fun x => ?_, ?_⟩
    · (first | (go_at_call 51; (with_reducible exact draw_of_same _ ((T1 _).out))) | (go_at_call 51; (with_reducible exact draw_of_same _ ((T2 _).out))) | (go_at_call 51; (with_reducible exact draw_of_same _ ((T3 _).out))) | (go_at_call 70; (with_reducible exact draw_of _ ((T4 _).out))))
    exact rfl
  · exact locS_const _
  try simp only [Act.put, List.setIfInBounds_toArray, List.set_cons_succ, List.set_cons_zero, Nat.reduceAdd]
  apply wpS_quiet
  · intro γ W hW hp
    refine ⟨rfl, ?_⟩
    go_big_quiet_op
    apply Exists.intro
    refine ⟨fun x => ?_, ?_⟩
    · (first | (go_at_call 51; (with_reducible exact draw_of_same _ ((T1 _).out))) | (go_at_call 51; (with_reducible exact draw_of_same _ ((T2 _).out))) | (go_at_call 51; (with_reducible exact draw_of_same _ ((T3 _).out))) | (go_at_call 70; (with_reducible exact draw_of _ ((T4 _).out))))
    exact rfl
  · exact locS_const _
  try simp only [Act.put, List.setIfInBounds_toArray, List.set_cons_succ, List.set_cons_zero, Nat.reduceAdd]
  apply wpS_quiet
  · intro γ W hW hp
    refine ⟨rfl, ?_⟩
    go_big_quiet_op
    first | exact rfl
  · exact locS_const _
  try simp only [Act.put, List.setIfInBounds_toArray, List.set_cons_succ, List.set_cons_zero, Nat.reduceAdd]
  apply wpS_quiet
  · intro γ W hW hp
    refine ⟨rfl, ?_⟩
    go_big_quiet_op
    first | exact rfl
  · exact locS_const _
  try simp only [Act.put, List.setIfInBounds_toArray, List.set_cons_succ, List.set_cons_zero, Nat.reduceAdd]
  apply wpS_end
  intro γ w1 hb1 hG1 hA1
  clear hG1 hA1
  simp only [List.drop_succ_cons, List.drop_zero]
  have hz1 := hb1.size
  (try simp only [World.size_alloc, World.size_setCell, World.size_drew, World.size_drewN'] at hz1)
  (try (have kq := cellAt hb1 (w.heap.size) (by go_size); have k1_w_0_0 := kq 0; have k1_w_0_1 := kq 1; clear kq; have f1_w_0 := frozAt hb1 (w.heap.size) (by go_size); simp [go_sem, *] at k1_w_0_0 k1_w_0_1 f1_w_0))
  (try have l1_w_0 : w.heap.size < w1.heap.size := by omega)
  clear T1 T2 T3 T4
  have hm2_1 : 0 ≤ (a * a) ∧ (a * a) ≤ 1000000 := by have := pB (x := a) (y := a) (X := 1000) (Y := 1000) (by omega) (by omega); omega
  have hm4_1 : 0 ≤ ((5 * a) * a) ∧ ((5 * a) * a) ≤ 5000000 := by have := pB (x := (5 * a)) (y := a) (X := 5000) (Y := 1000) (by omega) (by omega); omega
  have hm4_2 : 0 ≤ (((5 * a) * a) * b) ∧ (((5 * a) * a) * b) ≤ 50000000000 := by have := pB (x := ((5 * a) * a)) (y := b) (X := 5000000) (Y := 10000) (by omega) (by omega); omega
  have hm4_3 : 0 ≤ ((3 * a) * a) ∧ ((3 * a) * a) ≤ 3000000 := by have := pB (x := (3 * a)) (y := a) (X := 3000) (Y := 1000) (by omega) (by omega); omega
  have hm4_4 : 0 ≤ (((3 * a) * a) * a) ∧ (((3 * a) * a) * a) ≤ 3000000000 := by have := pB (x := ((3 * a) * a)) (y := a) (X := 3000000) (Y := 1000) (by omega) (by omega); omega
  have hm4_5 : 0 ≤ ((22 * b) * b) ∧ ((22 * b) * b) ≤ 2200000000 := by have := pB (x := (22 * b)) (y := b) (X := 220000) (Y := 10000) (by omega) (by omega); omega
  have hm4_6 : 0 ≤ ((4 * a) * ((((3 * a) * a) * a) + ((22 * b) * b))) ∧ ((4 * a) * ((((3 * a) * a) * a) + ((22 * b) * b))) ≤ 20800000000000 := by have := pB (x := (4 * a)) (y := ((((3 * a) * a) * a) + ((22 * b) * b))) (X := 4000) (Y := 5200000000) (by omega) (by omega); omega
  have hm4_7 : 0 ≤ (a * a) ∧ (a * a) ≤ 1000000 := by have := pB (x := a) (y := a) (X := 1000) (Y := 1000) (by omega) (by omega); omega
  have hm4_8 : 0 ≤ ((a * a) * a) ∧ ((a * a) * a) ≤ 1000000000 := by have := pB (x := (a * a)) (y := a) (X := 1000000) (Y := 1000) (by omega) (by omega); omega
  have hm4_9 : 0 ≤ ((8 * b) * b) ∧ ((8 * b) * b) ≤ 800000000 := by have := pB (x := (8 * b)) (y := b) (X := 80000) (Y := 10000) (by omega) (by omega); omega
  have hm4_10 : 0 ≤ ((12 * b) * (((a * a) * a) + ((8 * b) * b))) ∧ ((12 * b) * (((a * a) * a) + ((8 * b) * b))) ≤ 216000000000000 := by have := pB (x := (12 * b)) (y := (((a * a) * a) + ((8 * b) * b))) (X := 120000) (Y := 1800000000) (by omega) (by omega); omega
  have hm5_1 : 0 ≤ ((5 * a) * a) ∧ ((5 * a) * a) ≤ 5000000 := by have := pB (x := (5 * a)) (y := a) (X := 5000) (Y := 1000) (by omega) (by omega); omega
  have hm5_2 : 0 ≤ (((5 * a) * a) * a) ∧ (((5 * a) * a) * a) ≤ 5000000000 := by have := pB (x := ((5 * a) * a)) (y := a) (X := 5000000) (Y := 1000) (by omega) (by omega); omega
  have hm5_3 : 0 ≤ ((32 * b) * b) ∧ ((32 * b) * b) ≤ 3200000000 := by have := pB (x := (32 * b)) (y := b) (X := 320000) (Y := 10000) (by omega) (by omega); omega
  have hm5_4 : 0 ≤ (a * ((((5 * a) * a) * a) + ((32 * b) * b))) ∧ (a * ((((5 * a) * a) * a) + ((32 * b) * b))) ≤ 8200000000000 := by have := pB (x := a) (y := ((((5 * a) * a) * a) + ((32 * b) * b))) (X := 1000) (Y := 8200000000) (by omega) (by omega); omega
  have hm5_5 : 0 ≤ ((13 * a) * a) ∧ ((13 * a) * a) ≤ 13000000 := by have := pB (x := (13 * a)) (y := a) (X := 13000) (Y := 1000) (by omega) (by omega); omega
  have hm5_6 : 0 ≤ (((13 * a) * a) * a) ∧ (((13 * a) * a) * a) ≤ 13000000000 := by have := pB (x := ((13 * a) * a)) (y := a) (X := 13000000) (Y := 1000) (by omega) (by omega); omega
  have hm5_7 : 0 ≤ ((96 * b) * b) ∧ ((96 * b) * b) ≤ 9600000000 := by have := pB (x := (96 * b)) (y := b) (X := 960000) (Y := 10000) (by omega) (by omega); omega
  have hm5_8 : 0 ≤ ((2 * b) * ((((13 * a) * a) * a) + ((96 * b) * b))) ∧ ((2 * b) * ((((13 * a) * a) * a) + ((96 * b) * b))) ≤ 452000000000000 := by have := pB (x := (2 * b)) (y := ((((13 * a) * a) * a) + ((96 * b) * b))) (X := 20000) (Y := 22600000000) (by omega) (by omega); omega
  have hm5_9 : 0 ≤ ((3 * a) * a) ∧ ((3 * a) * a) ≤ 3000000 := by have := pB (x := (3 * a)) (y := a) (X := 3000) (Y := 1000) (by omega) (by omega); omega
  have hm5_10 : 0 ≤ (a * a) ∧ (a * a) ≤ 1000000 := by have := pB (x := a) (y := a) (X := 1000) (Y := 1000) (by omega) (by omega); omega
  have hm5_11 : 0 ≤ ((a * a) * a) ∧ ((a * a) * a) ≤ 1000000000 := by have := pB (x := (a * a)) (y := a) (X := 1000000) (Y := 1000) (by omega) (by omega); omega
  have hm5_12 : 0 ≤ ((8 * b) * b) ∧ ((8 * b) * b) ≤ 800000000 := by have := pB (x := (8 * b)) (y := b) (X := 80000) (Y := 10000) (by omega) (by omega); omega
  have hm5_13 : 0 ≤ (((3 * a) * a) * (((a * a) * a) + ((8 * b) * b))) ∧ (((3 * a) * a) * (((a * a) * a) + ((8 * b) * b))) ≤ 5400000000000000 := by have := pB (x := ((3 * a) * a)) (y := (((a * a) * a) + ((8 * b) * b))) (X := 3000000) (Y := 1800000000) (by omega) (by omega); omega
  go_wp2_with (first | (go_at_call 76; refine (l1Most_any _ _ _).mono ?_; rintro e w' ⟨rfl, rfl⟩))
  go_ret2
  refine ⟨by rw [HM.out, HK.out]; rfl, ?_⟩
  repeat' first | (with_reducible first | apply zRf | assumption | apply zDn | apply zDr | apply zAl | apply zSt | refine zVi (by assumption) ?_ ?_) | go_size
theorem max_most (w : World) (ts : Array TypeId) (t : TypeId) (x y : Int) : (Builtin.max_ ts t #[.int .i64 x, .int .i64 y]).run Tryz.prog w = .ok (.int .i64 (most x y)) w := by
  have h : (if y > x then y else x) = most x y := by unfold most; split <;> split <;> omega
  simp [Builtin.max_, Builtin.max2]
  simpa using h
theorem max_abs (w : World) (ts : Array TypeId) (t : TypeId) (x : Int) : (Builtin.max_ ts t #[.int .i64 x, .int .i64 (-x)]).run Tryz.prog w = .ok (.int .i64 (absI x)) w := by
  rw [max_most]
  congr 2; unfold most absI; split <;> omega
theorem doublingBounds_any (A B : Int) (w : World) (hA : -1000 ≤ A ∧ A ≤ 1000) (hB : -10000 ≤ B ∧ B ≤ 10000) : Calls Tryz.prog 112 #[.agg #[.int .i64 A, .int .i64 B]] w fun e w' =>
    e = .returned (.tuple #[.int .i64 (dbM (absI A) (absI B)), .int .i64 (dbK (absI A) (absI B) (absI (coV A B)))]) ∧ Below w.heap.size w w' := by
  have hc := coV_bd hA hB
  have T4 := fun W : World => Lib.hid (core_any A B W hA hB)
  have ha0 := absI_nonneg A
  have hb0 := absI_nonneg B
  have hd0 := absI_nonneg (coV A B)
  have ha1 := absI_le hA.1 hA.2
  have hb1 := absI_le hB.1 hB.2
  have hd1 := absI_le hc.1 hc.2
  have HM := Lib.hid (show dbM (absI A) (absI B) = most (1 + 2 * absI A + 8 * absI B + absI A * absI A) (4 * (1 + absI A + absI B)) from rfl)
  have HK := Lib.hid (show dbK (absI A) (absI B) (absI (coV A B)) = most (dbP (absI A) (absI B)) (dbQ (absI A) (absI B) (absI (coV A B))) from rfl)
  have hx1 := fun (w : World) (ts : Array TypeId) (t : TypeId) => max_abs w ts t A
  have hx2 := fun (w : World) (ts : Array TypeId) (t : TypeId) => max_abs w ts t B
  have hx3 := fun (w : World) (ts : Array TypeId) (t : TypeId) => max_abs w ts t (coV A B)
  generalize coV A B = C at *
  generalize absI A = a at *
  generalize absI B = b at *
  generalize absI C = d at *
  go_enter Tryz.func112, Tryz.ntmps112
  go_wp2_with fail
  refine wp_open (n := 20) (by kernel_rfl) (by kernel_rfl) (by kernel_rfl) (by kernel_rfl) ?_
  simp only [List.take_succ_cons, List.take_zero]
  apply wpS_quiet
  · intro γ W hW hp
    refine ⟨rfl, ?_⟩
    go_big_quiet_op
    first | exact rfl
  · exact locS_const _
  try simp only [Act.put, List.setIfInBounds_toArray, List.set_cons_succ, List.set_cons_zero, Nat.reduceAdd]
  apply wpS_quiet
  · intro γ W hW hp
    have hs := hW.size
    (try simp only [World.size_alloc, World.size_setCell, World.size_drew, World.size_drewN'] at hs)
    try (have kx_w_0_0 := fun x : Over W => (cellAt x.lies (w.heap.size) (by omega) 0).trans (cellAt hW (w.heap.size) (by go_size) 0); simp [go_sem, *] at kx_w_0_0)
    try (have kx_w_0_1 := fun x : Over W => (cellAt x.lies (w.heap.size) (by omega) 1).trans (cellAt hW (w.heap.size) (by go_size) 1); simp [go_sem, *] at kx_w_0_1)
    clear hW hp
    refine ⟨rfl, ?_⟩
    go_big_quiet_op
    first | exact rfl
  · exact locS_const _
  try simp only [Act.put, List.setIfInBounds_toArray, List.set_cons_succ, List.set_cons_zero, Nat.reduceAdd]
  apply wpS_quiet
  · intro γ W hW hp
    refine ⟨rfl, ?_⟩
    go_big_quiet_op
    first | exact rfl
  · exact locS_const _
  try simp only [Act.put, List.setIfInBounds_toArray, List.set_cons_succ, List.set_cons_zero, Nat.reduceAdd]
  apply wpS_quiet
  · intro γ W hW hp
    have hs := hW.size
    (try simp only [World.size_alloc, World.size_setCell, World.size_drew, World.size_drewN'] at hs)
    try (have kx_w_0_0 := fun x : Over W => (cellAt x.lies (w.heap.size) (by omega) 0).trans (cellAt hW (w.heap.size) (by go_size) 0); simp [go_sem, *] at kx_w_0_0)
    try (have kx_w_0_1 := fun x : Over W => (cellAt x.lies (w.heap.size) (by omega) 1).trans (cellAt hW (w.heap.size) (by go_size) 1); simp [go_sem, *] at kx_w_0_1)
    clear hW hp
    refine ⟨rfl, ?_⟩
    go_big_quiet_op
    first | exact rfl
  · exact locS_const _
  try simp only [Act.put, List.setIfInBounds_toArray, List.set_cons_succ, List.set_cons_zero, Nat.reduceAdd]
  apply wpS_quiet
  · intro γ W hW hp
    refine ⟨rfl, ?_⟩
    go_big_quiet_op
    first | exact rfl
  · exact locS_const _
  try simp only [Act.put, List.setIfInBounds_toArray, List.set_cons_succ, List.set_cons_zero, Nat.reduceAdd]
  apply wpS_quiet
  · intro γ W hW hp
    refine ⟨rfl, ?_⟩
    go_big_quiet_op
    first | exact rfl
  · exact locS_const _
  try simp only [Act.put, List.setIfInBounds_toArray, List.set_cons_succ, List.set_cons_zero, Nat.reduceAdd]
  apply wpS_quiet
  · intro γ W hW hp
    refine ⟨rfl, ?_⟩
    go_big_quiet_op
    first | exact rfl
  · exact locS_const _
  try simp only [Act.put, List.setIfInBounds_toArray, List.set_cons_succ, List.set_cons_zero, Nat.reduceAdd]
  apply wpS_quiet
  · intro γ W hW hp
    have hs := hW.size
    (try simp only [World.size_alloc, World.size_setCell, World.size_drew, World.size_drewN'] at hs)
    try (have kx_w_0_0 := fun x : Over W => (cellAt x.lies (w.heap.size) (by omega) 0).trans (cellAt hW (w.heap.size) (by go_size) 0); simp [go_sem, *] at kx_w_0_0)
    try (have kx_w_0_1 := fun x : Over W => (cellAt x.lies (w.heap.size) (by omega) 1).trans (cellAt hW (w.heap.size) (by go_size) 1); simp [go_sem, *] at kx_w_0_1)
    clear hW hp
    refine ⟨rfl, ?_⟩
    go_big_quiet_op
    first | exact rfl
  · exact locS_const _
  try simp only [Act.put, List.setIfInBounds_toArray, List.set_cons_succ, List.set_cons_zero, Nat.reduceAdd]
  apply wpS_quiet
  · intro γ W hW hp
    refine ⟨rfl, ?_⟩
    go_big_quiet_op
    first | exact rfl
  · exact locS_const _
  try simp only [Act.put, List.setIfInBounds_toArray, List.set_cons_succ, List.set_cons_zero, Nat.reduceAdd]
  apply wpS_quiet
  · intro γ W hW hp
    have hs := hW.size
    (try simp only [World.size_alloc, World.size_setCell, World.size_drew, World.size_drewN'] at hs)
    try (have kx_w_0_0 := fun x : Over W => (cellAt x.lies (w.heap.size) (by omega) 0).trans (cellAt hW (w.heap.size) (by go_size) 0); simp [go_sem, *] at kx_w_0_0)
    try (have kx_w_0_1 := fun x : Over W => (cellAt x.lies (w.heap.size) (by omega) 1).trans (cellAt hW (w.heap.size) (by go_size) 1); simp [go_sem, *] at kx_w_0_1)
    clear hW hp
    refine ⟨rfl, ?_⟩
    go_big_quiet_op
    first | exact rfl
  · exact locS_const _
  try simp only [Act.put, List.setIfInBounds_toArray, List.set_cons_succ, List.set_cons_zero, Nat.reduceAdd]
  apply wpS_quiet
  · intro γ W hW hp
    refine ⟨rfl, ?_⟩
    go_big_quiet_op
    first | exact rfl
  · exact locS_const _
  try simp only [Act.put, List.setIfInBounds_toArray, List.set_cons_succ, List.set_cons_zero, Nat.reduceAdd]
  apply wpS_quiet
  · intro γ W hW hp
    refine ⟨rfl, ?_⟩
    go_big_quiet_op
    first | exact rfl
  · exact locS_const _
  try simp only [Act.put, List.setIfInBounds_toArray, List.set_cons_succ, List.set_cons_zero, Nat.reduceAdd]
  apply wpS_quiet
  · intro γ W hW hp
    have hs := hW.size
    (try simp only [World.size_alloc, World.size_setCell, World.size_drew, World.size_drewN'] at hs)
    try (have kx_w_0_0 := fun x : Over W => (cellAt x.lies (w.heap.size) (by omega) 0).trans (cellAt hW (w.heap.size) (by go_size) 0); simp [go_sem, *] at kx_w_0_0)
    try (have kx_w_0_1 := fun x : Over W => (cellAt x.lies (w.heap.size) (by omega) 1).trans (cellAt hW (w.heap.size) (by go_size) 1); simp [go_sem, *] at kx_w_0_1)
    clear hW hp
    refine ⟨rfl, ?_⟩
    go_big_quiet_op
    first | exact rfl
  · exact locS_const _
  try simp only [Act.put, List.setIfInBounds_toArray, List.set_cons_succ, List.set_cons_zero, Nat.reduceAdd]
  apply wpS_quiet
  · intro γ W hW hp
    refine ⟨rfl, ?_⟩
    go_big_quiet_op
    apply Exists.intro
    refine ⟨fun x => ?_, ?_⟩
    · (first | (go_at_call 73; (with_reducible exact draw_of _ ((T4 _).out))))
    exact rfl
  · exact locS_const _
  try simp only [Act.put, List.setIfInBounds_toArray, List.set_cons_succ, List.set_cons_zero, Nat.reduceAdd]
  apply wpS_quiet
  · intro γ W hW hp
    have hs := hW.size
    (try simp only [World.size_alloc, World.size_setCell, World.size_drew, World.size_drewN'] at hs)
    try (have kx_w_0_0 := fun x : Over W => (cellAt x.lies (w.heap.size) (by omega) 0).trans (cellAt hW (w.heap.size) (by go_size) 0); simp [go_sem, *] at kx_w_0_0)
    try (have kx_w_0_1 := fun x : Over W => (cellAt x.lies (w.heap.size) (by omega) 1).trans (cellAt hW (w.heap.size) (by go_size) 1); simp [go_sem, *] at kx_w_0_1)
    clear hW hp
    refine ⟨rfl, ?_⟩
    go_big_quiet_op
    first | exact rfl
  · exact locS_const _
  try simp only [Act.put, List.setIfInBounds_toArray, List.set_cons_succ, List.set_cons_zero, Nat.reduceAdd]
  apply wpS_quiet
  · intro γ W hW hp
    refine ⟨rfl, ?_⟩
    go_big_quiet_op
    apply Exists.intro
    refine ⟨fun x => ?_, ?_⟩
    · (first | (go_at_call 73; (with_reducible exact draw_of _ ((T4 _).out))))
    exact rfl
  · exact locS_const _
  try simp only [Act.put, List.setIfInBounds_toArray, List.set_cons_succ, List.set_cons_zero, Nat.reduceAdd]
  apply wpS_quiet
  · intro γ W hW hp
    refine ⟨rfl, ?_⟩
    go_big_quiet_op
    first | exact rfl
  · exact locS_const _
  try simp only [Act.put, List.setIfInBounds_toArray, List.set_cons_succ, List.set_cons_zero, Nat.reduceAdd]
  apply wpS_quiet
  · intro γ W hW hp
    refine ⟨rfl, ?_⟩
    go_big_quiet_op
    first | exact rfl
  · exact locS_const _
  try simp only [Act.put, List.setIfInBounds_toArray, List.set_cons_succ, List.set_cons_zero, Nat.reduceAdd]
  apply wpS_quiet
  · intro γ W hW hp
    refine ⟨rfl, ?_⟩
    go_big_quiet_op
    first | exact rfl
  · exact locS_const _
  try simp only [Act.put, List.setIfInBounds_toArray, List.set_cons_succ, List.set_cons_zero, Nat.reduceAdd]
  apply wpS_quiet
  · intro γ W hW hp
    refine ⟨rfl, ?_⟩
    go_big_quiet_op
    first | exact rfl
  · exact locS_const _
  try simp only [Act.put, List.setIfInBounds_toArray, List.set_cons_succ, List.set_cons_zero, Nat.reduceAdd]
  apply wpS_end
  intro γ w1 hb1 hG1 hA1
  clear hG1 hA1
  simp only [List.drop_succ_cons, List.drop_zero]
  have hz1 := hb1.size
  (try simp only [World.size_alloc, World.size_setCell, World.size_drew, World.size_drewN'] at hz1)
  (try (have kq := cellAt hb1 (w.heap.size) (by go_size); have k1_w_0_0 := kq 0; have k1_w_0_1 := kq 1; clear kq; have f1_w_0 := frozAt hb1 (w.heap.size) (by go_size); simp [go_sem, *] at k1_w_0_0 k1_w_0_1 f1_w_0))
  (try have l1_w_0 : w.heap.size < w1.heap.size := by omega)
  clear T4 hx1 hx2 hx3
  have hmx := max_most
  have hm2_1 : 0 ≤ (a * a) ∧ (a * a) ≤ 1000000 := by have := pB (x := a) (y := a) (X := 1000) (Y := 1000) (by omega) (by omega); omega
  have hm4_1 : 0 ≤ ((4 * a) * a) ∧ ((4 * a) * a) ≤ 4000000 := by have := pB (x := (4 * a)) (y := a) (X := 4000) (Y := 1000) (by omega) (by omega); omega
  have hm4_2 : 0 ≤ (((4 * a) * a) * b) ∧ (((4 * a) * a) * b) ≤ 40000000000 := by have := pB (x := ((4 * a) * a)) (y := b) (X := 4000000) (Y := 10000) (by omega) (by omega); omega
  have hm4_3 : 0 ≤ ((3 * a) * a) ∧ ((3 * a) * a) ≤ 3000000 := by have := pB (x := (3 * a)) (y := a) (X := 3000) (Y := 1000) (by omega) (by omega); omega
  have hm4_4 : 0 ≤ (((3 * a) * a) * a) ∧ (((3 * a) * a) * a) ≤ 3000000000 := by have := pB (x := ((3 * a) * a)) (y := a) (X := 3000000) (Y := 1000) (by omega) (by omega); omega
  have hm4_5 : 0 ≤ ((22 * b) * b) ∧ ((22 * b) * b) ≤ 2200000000 := by have := pB (x := (22 * b)) (y := b) (X := 220000) (Y := 10000) (by omega) (by omega); omega
  have hm4_6 : 0 ≤ ((4 * a) * ((((3 * a) * a) * a) + ((22 * b) * b))) ∧ ((4 * a) * ((((3 * a) * a) * a) + ((22 * b) * b))) ≤ 20800000000000 := by have := pB (x := (4 * a)) (y := ((((3 * a) * a) * a) + ((22 * b) * b))) (X := 4000) (Y := 5200000000) (by omega) (by omega); omega
  have hm4_7 : 0 ≤ (a * a) ∧ (a * a) ≤ 1000000 := by have := pB (x := a) (y := a) (X := 1000) (Y := 1000) (by omega) (by omega); omega
  have hm4_8 : 0 ≤ ((a * a) * a) ∧ ((a * a) * a) ≤ 1000000000 := by have := pB (x := (a * a)) (y := a) (X := 1000000) (Y := 1000) (by omega) (by omega); omega
  have hm4_9 : 0 ≤ ((8 * b) * b) ∧ ((8 * b) * b) ≤ 800000000 := by have := pB (x := (8 * b)) (y := b) (X := 80000) (Y := 10000) (by omega) (by omega); omega
  have hm4_10 : 0 ≤ ((12 * b) * (((a * a) * a) + ((8 * b) * b))) ∧ ((12 * b) * (((a * a) * a) + ((8 * b) * b))) ≤ 216000000000000 := by have := pB (x := (12 * b)) (y := (((a * a) * a) + ((8 * b) * b))) (X := 120000) (Y := 1800000000) (by omega) (by omega); omega
  have hm5_1 : 0 ≤ (a * a) ∧ (a * a) ≤ 1000000 := by have := pB (x := a) (y := a) (X := 1000) (Y := 1000) (by omega) (by omega); omega
  have hm5_2 : 0 ≤ ((a * a) * b) ∧ ((a * a) * b) ≤ 10000000000 := by have := pB (x := (a * a)) (y := b) (X := 1000000) (Y := 10000) (by omega) (by omega); omega
  have hm5_3 : 0 ≤ ((5 * a) * a) ∧ ((5 * a) * a) ≤ 5000000 := by have := pB (x := (5 * a)) (y := a) (X := 5000) (Y := 1000) (by omega) (by omega); omega
  have hm5_4 : 0 ≤ (((5 * a) * a) * a) ∧ (((5 * a) * a) * a) ≤ 5000000000 := by have := pB (x := ((5 * a) * a)) (y := a) (X := 5000000) (Y := 1000) (by omega) (by omega); omega
  have hm5_5 : 0 ≤ ((32 * b) * b) ∧ ((32 * b) * b) ≤ 3200000000 := by have := pB (x := (32 * b)) (y := b) (X := 320000) (Y := 10000) (by omega) (by omega); omega
  have hm5_6 : 0 ≤ (a * ((((5 * a) * a) * a) + ((32 * b) * b))) ∧ (a * ((((5 * a) * a) * a) + ((32 * b) * b))) ≤ 8200000000000 := by have := pB (x := a) (y := ((((5 * a) * a) * a) + ((32 * b) * b))) (X := 1000) (Y := 8200000000) (by omega) (by omega); omega
  have hm5_7 : 0 ≤ ((13 * a) * a) ∧ ((13 * a) * a) ≤ 13000000 := by have := pB (x := (13 * a)) (y := a) (X := 13000) (Y := 1000) (by omega) (by omega); omega
  have hm5_8 : 0 ≤ (((13 * a) * a) * a) ∧ (((13 * a) * a) * a) ≤ 13000000000 := by have := pB (x := ((13 * a) * a)) (y := a) (X := 13000000) (Y := 1000) (by omega) (by omega); omega
  have hm5_9 : 0 ≤ ((96 * b) * b) ∧ ((96 * b) * b) ≤ 9600000000 := by have := pB (x := (96 * b)) (y := b) (X := 960000) (Y := 10000) (by omega) (by omega); omega
  have hm5_10 : 0 ≤ ((2 * b) * ((((13 * a) * a) * a) + ((96 * b) * b))) ∧ ((2 * b) * ((((13 * a) * a) * a) + ((96 * b) * b))) ≤ 452000000000000 := by have := pB (x := (2 * b)) (y := ((((13 * a) * a) * a) + ((96 * b) * b))) (X := 20000) (Y := 22600000000) (by omega) (by omega); omega
  have hm5_11 : 0 ≤ ((3 * a) * a) ∧ ((3 * a) * a) ≤ 3000000 := by have := pB (x := (3 * a)) (y := a) (X := 3000) (Y := 1000) (by omega) (by omega); omega
  have hm5_12 : 0 ≤ ((a * a) * a) ∧ ((a * a) * a) ≤ 1000000000 := by have := pB (x := (a * a)) (y := a) (X := 1000000) (Y := 1000) (by omega) (by omega); omega
  have hm5_13 : 0 ≤ ((8 * b) * b) ∧ ((8 * b) * b) ≤ 800000000 := by have := pB (x := (8 * b)) (y := b) (X := 80000) (Y := 10000) (by omega) (by omega); omega
  have hm5_14 : 0 ≤ (((3 * a) * a) * (((a * a) * a) + ((8 * b) * b))) ∧ (((3 * a) * a) * (((a * a) * a) + ((8 * b) * b))) ≤ 5400000000000000 := by have := pB (x := ((3 * a) * a)) (y := (((a * a) * a) + ((8 * b) * b))) (X := 3000000) (Y := 1800000000) (by omega) (by omega); omega
  go_wp2_with fail
  all_goals
    go_ret2
    refine ⟨?_, ?_⟩
    · have e1 : 12 + 16 * a + 3 + 5 * a + 27 * b = dbP a b := by unfold dbP; omega
      have e2 : 4 * d + 4 * a * a * b + 4 * a * (3 * a * a * a + 22 * b * b) + 12 * b * (a * a * a + 8 * b * b) + (a * a * b + a * (5 * a * a * a + 32 * b * b) + 2 * b * (13 * a * a * a + 96 * b * b) + 3 * a * a * (a * a * a + 8 * b * b)) = dbQ a b d := by unfold dbQ; grind
      rw [HM.out, HK.out, ← e1, ← e2]
      rfl
    repeat' first | (with_reducible first | apply zRf | assumption | apply zDn | apply zDr | apply zAl | apply zSt | refine zVi (by assumption) ?_ ?_) | go_size
end Go.Proofs.YtgjppinjapdbeaaGreat
