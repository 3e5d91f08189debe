/- The reference's square roots: what is found is a root. -/
import Derived.Test.YtegiddpakocodaaNum
import Derived.Test.YtegiddpakocodaaDrawn
namespace Go.Proofs.Ytegiddpakocodaa
open Go.RowKit
set_option linter.unusedVariables false
set_option maxHeartbeats 4000000
set_option maxRecDepth 20000
set_option linter.unusedSimpArgs false
def IsRt (n r : Int) : Prop := 0 ≤ r ∧ r * r ≤ n ∧ n < (r + 1) * (r + 1)
theorem le_sq {b c : Int} (hb : 0 ≤ b) (h : b ≤ c) : b * b ≤ c * c := Int.mul_le_mul h h hb (by omega)
theorem IsRt.det {n r s : Int} (h : IsRt n r) (k : IsRt n s) : r = s := by
  rcases Int.lt_trichotomy r s with t | t | t
  · have := le_sq (b := r + 1) (c := s) (by have := h.1; omega) (by omega)
    have := h.2.2; have := k.2.1; omega
  · exact t
  · have := le_sq (b := s + 1) (c := r) (by have := k.1; omega) (by omega)
    have := k.2.2; have := h.2.1; omega
theorem IsRt.exact {n r s : Int} (h : IsRt n r) (hs : 0 ≤ s) (hn : s * s = n) : r = s := by
  refine h.det ⟨hs, by omega, ?_⟩
  have : (s + 1) * (s + 1) = s * s + 2 * s + 1 := by grind
  omega
theorem IsRt.top {n r : Int} (h : IsRt n r) {M : Int} (hM : 0 ≤ M) (hn : n < (M + 1) * (M + 1)) : r ≤ M := by
  rcases (show r ≤ M ∨ M + 1 ≤ r by omega) with e | e
  · exact e
  · have := le_sq (b := M + 1) (c := r) (by omega) e
    have := h.2.1
    omega
def FrRtRel (n : Int) (x y : Value) : Prop := ∃ l h : Int, x = .int .i64 l ∧ y = .int .i64 h ∧ 0 ≤ l ∧ l < h ∧ h ≤ 2000000001 ∧ l * l ≤ n ∧ n < h * h
theorem frRoot_is (n : Int) (w : World) (h0 : 0 ≤ n) (h1 : n ≤ 4000000000000000000) :
    Calls Try.prog 54 #[.int .i64 n] w fun e w' => ∃ r : Int, e = .returned (.int .i64 r) ∧ IsRt n r ∧ w = w' := by
  go_enter Try.func54, Try.ntmps54
  go_wp2
  go_loop [3, 4] (fun x y => FrRtRel n x y) (fun x y => (intOf y - intOf x).natAbs)
  case atStart => exact ⟨0, 2000000001, rfl, rfl, by omega, by omega, by omega, by omega, by omega⟩
  case round =>
    obtain ⟨l, h, rfl, rfl, q1, q2, q3, q4, q5⟩ := hrel
    by_cases hc : 1 < h - l
    · have m1 : (l + h).tdiv 2 = (l + h) / 2 := Int.tdiv_eq_ediv_of_nonneg (by omega)
      have hm : l < (l + h) / 2 ∧ (l + h) / 2 < h := by omega
      have HM := Lib.hid m1
      have hb := mul_bd (a := (l + h) / 2) (b := (l + h) / 2) (A := 2000000000) (B := 2000000000) (by omega) (by omega)
      by_cases hle : (l + h) / 2 * ((l + h) / 2) ≤ n
      · go_wp2
        go_round
        case rel => exact ⟨(l + h) / 2, h, rfl, rfl, by omega, by omega, q3, hle, q5⟩
        case measure => simp [intOf]; omega
      · go_wp2
        go_round
        case rel => exact ⟨l, (l + h) / 2, rfl, rfl, by omega, by omega, by omega, q4, by omega⟩
        case measure => simp [intOf]; omega
    · have hh : h = l + 1 := by omega
      subst hh
      go_wp2
      go_ret
      exact ⟨l, rfl, ⟨q1, q4, q5⟩, rfl⟩
noncomputable def rtV (n : Int) : Int := Classical.epsilon (IsRt n)
theorem rtV_eq {n r : Int} (h : IsRt n r) : rtV n = r := IsRt.det (Classical.epsilon_spec (p := IsRt n) ⟨r, h⟩) h
theorem rt_some (n : Int) (h0 : 0 ≤ n) : ∃ r, IsRt n r := by
  have : ∀ (k : Nat) (n : Int), 0 ≤ n → n < ((k : Int) + 1) * ((k : Int) + 1) → ∃ r, IsRt n r := by
    intro k
    induction k with
    | zero => intro n h0 h; exact ⟨0, by omega, by omega, by simpa using h⟩
    | succ k ih =>
      intro n h0 h
      by_cases h2 : n < ((k : Int) + 1) * ((k : Int) + 1)
      · exact ih n h0 h2
      · exact ⟨(k : Int) + 1, by omega, by omega, by rw [Int.natCast_add] at h; exact h⟩
  refine this n.toNat n h0 ?_
  have h3 : ((n.toNat : Nat) : Int) = n := by omega
  rw [h3]
  have : (n + 1) * (n + 1) = n * n + 2 * n + 1 := by grind
  have := Int.mul_nonneg h0 h0
  omega
theorem rtV_is {n : Int} (h0 : 0 ≤ n) : IsRt n (rtV n) := by
  obtain ⟨r, hr⟩ := rt_some n h0
  rw [rtV_eq hr]; exact hr
theorem frRoot_any (n : Int) (w : World) (h0 : 0 ≤ n) (h1 : n ≤ 4000000000000000000) : Calls Try.prog 54 #[.int .i64 n] w fun e w' => e = .returned (.int .i64 (rtV n)) ∧ w = w' :=
  (frRoot_is n w h0 h1).mono fun e w' ⟨r, h2, h3, h4⟩ => ⟨by rw [rtV_eq h3]; exact h2, h4⟩
theorem frSquare_any (n : Int) (w : World) (h0 : 0 ≤ n) (h1 : n ≤ 4000000000000000000) : Calls Try.prog 53 #[.int .i64 n] w fun e w' => e = .returned (.bool (rtV n * rtV n == n)) ∧ w = w' := by
  have TR := fun W : World => Lib.hid (frRoot_any n W h0 h1)
  have hr := rtV_is h0
  have ht := hr.top (M := 2000000000) (by omega) (by omega)
  have hb := hr.1
  have hm := mul_bd (a := rtV n) (b := rtV n) (A := 2000000000) (B := 2000000000) (by omega) (by omega)
  generalize rtV n = r at *
  clear hr
  go_enter Try.func53, Try.ntmps53
  go_wp2_with (first | (go_at_call 54; (with_reducible refine ((TR _).out).mono ?_); rintro e w' ⟨rfl, rfl⟩))
  go_ret
  exact ⟨rfl, rfl⟩
theorem sSquareRootOf_some (n e : Int) (w : World) : Calls Try.prog 20 #[.agg #[.int .i64 n, .int .i64 e]] w fun r w' => ∃ (x y : Int) (o : Bool), r = .returned (.tuple #[.agg #[.int .i64 x, .int .i64 y], .bool o]) ∧ (o = true → 0 ≤ x ∧ x ≤ 31623 ∧ x * x = n) ∧ Below w.heap.size w w' := by
  have T1 := fun W : World => Lib.hid (frGood_any n e W)
  rcases h1 : frB n e with _ | _
  · rw [h1] at T1
    have T2 := T1; have T3 := T1; have T4 := T1; have T5 := T1
    clear h1
    have tok1 : True := trivial
    have tok2 : True := trivial
    have tok3 : True := trivial
    have tok4 : True := trivial
    have tok5 : True := trivial
    go_enter Try.func20, Try.ntmps20
    go_wp2_with (first | (have _t := tok1; go_at_call 52; (with_reducible refine ((T1 _).out).mono ?_); rintro e w1 ⟨rfl, hb1⟩; clear tok1 _t; have hz1 := hb1.size; (try simp only [World.size_alloc, World.size_setCell, World.size_drew, World.size_drewN'] at hz1); (try (have kq := cellAt hb1 (w.heap.size) (by go_size); have k1_w_0_0 := kq 0; have k1_w_0_1 := kq 1; clear kq; have f1_w_0 := frozAt hb1 (w.heap.size) (by go_size); simp [go_sem, *] at k1_w_0_0 k1_w_0_1 f1_w_0)); (try have l1_w_0 : w.heap.size < w1.heap.size := by omega); (try (have kq := cellAt hb1 (w.heap.size + 1) (by go_size); have k1_w_1_0 := kq 0; have k1_w_1_1 := kq 1; clear kq; have f1_w_1 := frozAt hb1 (w.heap.size + 1) (by go_size); simp [go_sem, *] at k1_w_1_0 k1_w_1_1 f1_w_1)); (try have l1_w_1 : w.heap.size + 1 < w1.heap.size := by omega); (try (have kq := cellAt hb1 (w.heap.size) (by go_size); have k1_w_0_0 := kq 0; have k1_w_0_1 := kq 1; clear kq; have f1_w_0 := frozAt hb1 (w.heap.size) (by go_size); simp [go_sem, *] at k1_w_0_0 k1_w_0_1 f1_w_0)); (try have l1_w_0 : w.heap.size < w1.heap.size := by omega)) | (go_at_call 53; (with_reducible refine ((T2 _).out).mono ?_); rintro e w' ⟨rfl, rfl⟩) | (go_at_call 53; (with_reducible refine ((T3 _).out).mono ?_); rintro e w' ⟨rfl, rfl⟩))
    (refine bodyPost_ret (v := .tuple #[.agg #[.int .i64 0, .int .i64 0], .bool false]) (by simp [results, Try.results20, go_sem, *]) rfl ⟨0, 0, false, rfl, by simp, by repeat' first | (with_reducible first | apply zRf | assumption | apply zDn | apply zDr | apply zAl | apply zSt | refine zVi (by assumption) ?_ ?_) | go_size⟩)
  · rw [h1] at T1
    obtain ⟨b1, b2, b3, b4⟩ := frB_bd h1
    clear h1
    by_cases hn : n < 0
    · have T2 := T1; have T3 := T1; have T4 := T1; have T5 := T1
      have tok1 : True := trivial
      have tok2 : True := trivial
      have tok3 : True := trivial
      have tok4 : True := trivial
      have tok5 : True := trivial
      go_enter Try.func20, Try.ntmps20
      go_wp2_with (first | (have _t := tok1; go_at_call 52; (with_reducible refine ((T1 _).out).mono ?_); rintro e w1 ⟨rfl, hb1⟩; clear tok1 _t; have hz1 := hb1.size; (try simp only [World.size_alloc, World.size_setCell, World.size_drew, World.size_drewN'] at hz1); (try (have kq := cellAt hb1 (w.heap.size) (by go_size); have k1_w_0_0 := kq 0; have k1_w_0_1 := kq 1; clear kq; have f1_w_0 := frozAt hb1 (w.heap.size) (by go_size); simp [go_sem, *] at k1_w_0_0 k1_w_0_1 f1_w_0)); (try have l1_w_0 : w.heap.size < w1.heap.size := by omega); (try (have kq := cellAt hb1 (w.heap.size + 1) (by go_size); have k1_w_1_0 := kq 0; have k1_w_1_1 := kq 1; clear kq; have f1_w_1 := frozAt hb1 (w.heap.size + 1) (by go_size); simp [go_sem, *] at k1_w_1_0 k1_w_1_1 f1_w_1)); (try have l1_w_1 : w.heap.size + 1 < w1.heap.size := by omega); (try (have kq := cellAt hb1 (w.heap.size) (by go_size); have k1_w_0_0 := kq 0; have k1_w_0_1 := kq 1; clear kq; have f1_w_0 := frozAt hb1 (w.heap.size) (by go_size); simp [go_sem, *] at k1_w_0_0 k1_w_0_1 f1_w_0)); (try have l1_w_0 : w.heap.size < w1.heap.size := by omega)) | (go_at_call 53; (with_reducible refine ((T2 _).out).mono ?_); rintro e w' ⟨rfl, rfl⟩) | (go_at_call 53; (with_reducible refine ((T3 _).out).mono ?_); rintro e w' ⟨rfl, rfl⟩))
      (refine bodyPost_ret (v := .tuple #[.agg #[.int .i64 0, .int .i64 0], .bool false]) (by simp [results, Try.results20, go_sem, *]) rfl ⟨0, 0, false, rfl, by simp, by repeat' first | (with_reducible first | apply zRf | assumption | apply zDn | apply zDr | apply zAl | apply zSt | refine zVi (by assumption) ?_ ?_) | go_size⟩)
    · have T2 := fun W : World => Lib.hid (frSquare_any n W (by omega) (by omega))
      have T3 := fun W : World => Lib.hid (frSquare_any e W (by omega) (by omega))
      have T4 := fun W : World => Lib.hid (frRoot_any n W (by omega) (by omega))
      have T5 := fun W : World => Lib.hid (frRoot_any e W (by omega) (by omega))
      have hr := rtV_is (n := n) (by omega)
      have ht := hr.top (M := 31623) (by omega) (by omega)
      have hr0 := hr.1
      rcases h2 : (rtV n * rtV n == n) with _ | _
      · rw [h2] at T2
        clear h2 hr
        generalize rtV n = x at *
        generalize rtV e = y at *
        generalize (y * y == e) = o3 at *
        have tok1 : True := trivial
        have tok2 : True := trivial
        have tok3 : True := trivial
        have tok4 : True := trivial
        have tok5 : True := trivial
        go_enter Try.func20, Try.ntmps20
        go_wp2_with (first | (have _t := tok1; go_at_call 52; (with_reducible refine ((T1 _).out).mono ?_); rintro e w1 ⟨rfl, hb1⟩; clear tok1 _t; have hz1 := hb1.size; (try simp only [World.size_alloc, World.size_setCell, World.size_drew, World.size_drewN'] at hz1); (try (have kq := cellAt hb1 (w.heap.size) (by go_size); have k1_w_0_0 := kq 0; have k1_w_0_1 := kq 1; clear kq; have f1_w_0 := frozAt hb1 (w.heap.size) (by go_size); simp [go_sem, *] at k1_w_0_0 k1_w_0_1 f1_w_0)); (try have l1_w_0 : w.heap.size < w1.heap.size := by omega); (try (have kq := cellAt hb1 (w.heap.size + 1) (by go_size); have k1_w_1_0 := kq 0; have k1_w_1_1 := kq 1; clear kq; have f1_w_1 := frozAt hb1 (w.heap.size + 1) (by go_size); simp [go_sem, *] at k1_w_1_0 k1_w_1_1 f1_w_1)); (try have l1_w_1 : w.heap.size + 1 < w1.heap.size := by omega); (try (have kq := cellAt hb1 (w.heap.size) (by go_size); have k1_w_0_0 := kq 0; have k1_w_0_1 := kq 1; clear kq; have f1_w_0 := frozAt hb1 (w.heap.size) (by go_size); simp [go_sem, *] at k1_w_0_0 k1_w_0_1 f1_w_0)); (try have l1_w_0 : w.heap.size < w1.heap.size := by omega)) | (go_at_call 53; (with_reducible refine ((T2 _).out).mono ?_); rintro e w' ⟨rfl, rfl⟩) | (go_at_call 53; (with_reducible refine ((T3 _).out).mono ?_); rintro e w' ⟨rfl, rfl⟩))
        (refine bodyPost_ret (v := .tuple #[.agg #[.int .i64 0, .int .i64 0], .bool false]) (by simp [results, Try.results20, go_sem, *]) rfl ⟨0, 0, false, rfl, by simp, by repeat' first | (with_reducible first | apply zRf | assumption | apply zDn | apply zDr | apply zAl | apply zSt | refine zVi (by assumption) ?_ ?_) | go_size⟩)
      · have hx : rtV n * rtV n = n := by simpa using h2
        rw [h2] at T2
        clear h2 hr
        generalize rtV n = x at *
        generalize rtV e = y at *
        generalize (y * y == e) = o3 at *
        have HX := Lib.hid hx
        clear hx
        cases o3
        · have tok1 : True := trivial
          have tok2 : True := trivial
          have tok3 : True := trivial
          have tok4 : True := trivial
          have tok5 : True := trivial
          go_enter Try.func20, Try.ntmps20
          go_wp2_with (first | (have _t := tok1; go_at_call 52; (with_reducible refine ((T1 _).out).mono ?_); rintro e w1 ⟨rfl, hb1⟩; clear tok1 _t; have hz1 := hb1.size; (try simp only [World.size_alloc, World.size_setCell, World.size_drew, World.size_drewN'] at hz1); (try (have kq := cellAt hb1 (w.heap.size) (by go_size); have k1_w_0_0 := kq 0; have k1_w_0_1 := kq 1; clear kq; have f1_w_0 := frozAt hb1 (w.heap.size) (by go_size); simp [go_sem, *] at k1_w_0_0 k1_w_0_1 f1_w_0)); (try have l1_w_0 : w.heap.size < w1.heap.size := by omega); (try (have kq := cellAt hb1 (w.heap.size + 1) (by go_size); have k1_w_1_0 := kq 0; have k1_w_1_1 := kq 1; clear kq; have f1_w_1 := frozAt hb1 (w.heap.size + 1) (by go_size); simp [go_sem, *] at k1_w_1_0 k1_w_1_1 f1_w_1)); (try have l1_w_1 : w.heap.size + 1 < w1.heap.size := by omega); (try (have kq := cellAt hb1 (w.heap.size) (by go_size); have k1_w_0_0 := kq 0; have k1_w_0_1 := kq 1; clear kq; have f1_w_0 := frozAt hb1 (w.heap.size) (by go_size); simp [go_sem, *] at k1_w_0_0 k1_w_0_1 f1_w_0)); (try have l1_w_0 : w.heap.size < w1.heap.size := by omega)) | (go_at_call 53; (with_reducible refine ((T2 _).out).mono ?_); rintro e w' ⟨rfl, rfl⟩) | (go_at_call 53; (with_reducible refine ((T3 _).out).mono ?_); rintro e w' ⟨rfl, rfl⟩))
          (refine bodyPost_ret (v := .tuple #[.agg #[.int .i64 0, .int .i64 0], .bool false]) (by simp [results, Try.results20, go_sem, *]) rfl ⟨0, 0, false, rfl, by simp, by repeat' first | (with_reducible first | apply zRf | assumption | apply zDn | apply zDr | apply zAl | apply zSt | refine zVi (by assumption) ?_ ?_) | go_size⟩)
        · have tok1 : True := trivial
          have tok2 : True := trivial
          have tok3 : True := trivial
          have tok4 : True := trivial
          have tok5 : True := trivial
          go_enter Try.func20, Try.ntmps20
          go_upto_region 3 with (first | (have _t := tok1; go_at_call 52; (with_reducible refine ((T1 _).out).mono ?_); rintro e w1 ⟨rfl, hb1⟩; clear tok1 _t; have hz1 := hb1.size; (try simp only [World.size_alloc, World.size_setCell, World.size_drew, World.size_drewN'] at hz1); (try (have kq := cellAt hb1 (w.heap.size) (by go_size); have k1_w_0_0 := kq 0; have k1_w_0_1 := kq 1; clear kq; have f1_w_0 := frozAt hb1 (w.heap.size) (by go_size); simp [go_sem, *] at k1_w_0_0 k1_w_0_1 f1_w_0)); (try have l1_w_0 : w.heap.size < w1.heap.size := by omega); (try (have kq := cellAt hb1 (w.heap.size + 1) (by go_size); have k1_w_1_0 := kq 0; have k1_w_1_1 := kq 1; clear kq; have f1_w_1 := frozAt hb1 (w.heap.size + 1) (by go_size); simp [go_sem, *] at k1_w_1_0 k1_w_1_1 f1_w_1)); (try have l1_w_1 : w.heap.size + 1 < w1.heap.size := by omega); (try (have kq := cellAt hb1 (w.heap.size) (by go_size); have k1_w_0_0 := kq 0; have k1_w_0_1 := kq 1; clear kq; have f1_w_0 := frozAt hb1 (w.heap.size) (by go_size); simp [go_sem, *] at k1_w_0_0 k1_w_0_1 f1_w_0)); (try have l1_w_0 : w.heap.size < w1.heap.size := by omega)) | (go_at_call 53; (with_reducible refine ((T2 _).out).mono ?_); rintro e w' ⟨rfl, rfl⟩) | (go_at_call 53; (with_reducible refine ((T3 _).out).mono ?_); rintro e w' ⟨rfl, rfl⟩))
          refine wp_drawn' (n := 7) (by kernel_rfl) (by kernel_rfl) (by kernel_rfl) ?_
          apply Exists.intro
          refine ⟨?_, ?_⟩
          · intro W hW
            try (have kx_w_0_0 := fun x => xcell hW (w.heap.size) (by go_size) x 0; simp [go_sem, *] at kx_w_0_0)
            try (have kx_w_0_1 := fun x => xcell hW (w.heap.size) (by go_size) x 1; simp [go_sem, *] at kx_w_0_1)
            try (have kx_w_1_0 := fun x => xcell hW (w.heap.size + 1) (by go_size) x 0; simp [go_sem, *] at kx_w_1_0)
            try (have kx_w_1_1 := fun x => xcell hW (w.heap.size + 1) (by go_size) x 1; simp [go_sem, *] at kx_w_1_1)
            simp only [List.take_succ_cons, List.take_zero]
            repeat (go_big_quiet_step ((first | (go_at_call 54; (with_reducible exact draw_of_same _ ((T4 _).out))) | (go_at_call 54; (with_reducible exact draw_of_same _ ((T5 _).out))))))
            exact wpQuiet_nil rfl
          intro w9 hb9
          simp only [List.drop_succ_cons, List.drop_zero, Act.put, List.setIfInBounds_toArray, List.set_cons_succ, List.set_cons_zero]
          have hz9 := hb9.size
          (try simp only [World.size_alloc, World.size_setCell, World.size_drew, World.size_drewN'] at hz9)
          (try (have kq := cellAt hb9 (w.heap.size) (by go_size); have k9_w_0_0 := kq 0; have k9_w_0_1 := kq 1; clear kq; have f9_w_0 := frozAt hb9 (w.heap.size) (by go_size); simp [go_sem, *] at k9_w_0_0 k9_w_0_1 f9_w_0))
          (try have l9_w_0 : w.heap.size < w9.heap.size := by omega)
          (try (have kq := cellAt hb9 (w.heap.size + 1) (by go_size); have k9_w_1_0 := kq 0; have k9_w_1_1 := kq 1; clear kq; have f9_w_1 := frozAt hb9 (w.heap.size + 1) (by go_size); simp [go_sem, *] at k9_w_1_0 k9_w_1_1 f9_w_1))
          (try have l9_w_1 : w.heap.size + 1 < w9.heap.size := by omega)
          (try clear k5_w_0_0 k5_w_0_1 f5_w_0)
          (try clear l5_w_0)
          (try clear k5_w_1_0 k5_w_1_1 f5_w_1)
          (try clear l5_w_1)
          (try clear k6_w_0_0 k6_w_0_1 f6_w_0)
          (try clear l6_w_0)
          (try clear k6_w_1_0 k6_w_1_1 f6_w_1)
          (try clear l6_w_1)
          (try clear k7_w_0_0 k7_w_0_1 f7_w_0)
          (try clear l7_w_0)
          (try clear k7_w_1_0 k7_w_1_1 f7_w_1)
          (try clear l7_w_1)
          (try clear k8_w_0_0 k8_w_0_1 f8_w_0)
          (try clear l8_w_0)
          (try clear k8_w_1_0 k8_w_1_1 f8_w_1)
          (try clear l8_w_1)
          go_wp2_with fail
          (refine bodyPost_ret (v := .tuple #[.agg #[.int .i64 x, .int .i64 y], .bool true]) (by simp [results, Try.results20, go_sem, *]) rfl ⟨x, y, true, rfl, fun _ => ⟨hr0, ht, HX.out⟩, by repeat' first | (with_reducible first | apply zRf | assumption | apply zDn | apply zDr | apply zAl | apply zSt | refine zVi (by assumption) ?_ ?_) | go_size⟩)
end Go.Proofs.Ytegiddpakocodaa
