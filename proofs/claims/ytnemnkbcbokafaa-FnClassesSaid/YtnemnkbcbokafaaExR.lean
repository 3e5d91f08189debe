/- Exact roots: the program; the roots of a fraction. -/
import Derived.Test.YtnemnkbcbokafaaSqr
import Derived.Test.YtnemnkbcbokafaaFrac
import Derived.Test.YtnemnkbcbokafaaFlPlain
import Derived.Laws.Cover2
import Derived.Laws.Externs
namespace Go.Proofs.Ytnemnkbcbokafaa
open Go.RowKit
set_option linter.unusedVariables false
set_option maxHeartbeats 1000000
set_option maxRecDepth 20000
set_option linter.unusedSimpArgs false
noncomputable def exR (n : Int) : Int × Bool := if n < 0 then (0, false) else if rtV n * rtV n = n then (rtV n, true) else (0, false)
theorem sqrt_run {x r : Nat} (h : Ieee.double.sqrt x = some r) (W : World) : (callFunc 78 #[.float .f64 x]).run Try.prog W = .ok (.value (.float .f64 r)) W := by
  rw [run_callFunc_extern Try.func78 (by kernel_rfl) (by kernel_rfl) (by kernel_rfl) (e := Extern.MathSqrt.sqrt) (by kernel_rfl)]
  show (Sem.run _ (match FloatKind.f64.format.sqrt x with
    | some r => pure (Value.float .f64 r)
    | none => do pure (Value.float .f64 (← choose (.nanBits .f64 x x)))) W).andThen _ = _
  rw [show FloatKind.f64.format.sqrt x = some r from h]
  rfl
theorem mathSqrt_any {x r : Nat} (h : Ieee.double.sqrt x = some r) (w : World) : Calls Try.prog 70 #[.float .f64 x] w fun e w' => e = .returned (.float .f64 r) ∧ w = w' := by
  have hd := fun W => sqrt_run h W
  clear h
  go_enter Try.func70, Try.ntmps70
  go_wp2
  go_ret
  exact ⟨rfl, rfl⟩
theorem exactRoot_any (n : Int) (w : World) (h1 : -17592186044415 ≤ n) (h2 : n ≤ 17592186044415) : Calls Try.prog 53 #[.int .i64 n] w fun e w' => e = .returned (.tuple #[.int .i64 (exR n).1, .bool (exR n).2]) ∧ w = w' := by
  by_cases hn : n < 0
  · rw [show exR n = (0, false) by simp [exR, hn]]
    go_enter Try.func53, Try.ntmps53
    go_wp2_with fail
    go_ret2
    exact ⟨rfl, rfl⟩
  · obtain ⟨r, z, g1, g2, g3⟩ := sqrt_small (n := n.natAbs) (by omega)
    have hfl : floatOfInt .f64 n = Ieee.double.nearest false n.natAbs 0 := by
      show Ieee.double.nearest (decide (n < 0)) n.natAbs 0 = _
      rw [show decide (n < 0) = false by simpa using hn]
    obtain ⟨q0, q1, q2⟩ := rtV_is (n := n) (by omega)
    have hE : exR n = if rtV n * rtV n = n then (rtV n, true) else (0, false) := by simp only [exR, if_neg hn]
    rw [hE]
    clear hE
    generalize rtV n = R at *
    obtain ⟨ev, hev⟩ : ∃ v : Int × Bool, (if R * R = n then (R, true) else (0, false)) = v := ⟨_, rfl⟩
    rw [hev]
    have HV := Lib.hid hev
    clear hev
    have hR : R ≤ 4194304 := by
      apply Int.not_lt.1; intro h
      have := le_sq (b := 4194305) (c := R) (by omega) (by omega)
      omega
    have hc := fun W : World => run_convert_int_float (P := Try.prog) W 3 85 .i64 .f64 n (by kernel_rfl) (by kernel_rfl)
    rw [hfl] at hc
    have TS := fun W : World => Lib.hid (mathSqrt_any g1 W)
    have hv := fun W : World => run_convert_float_int (P := Try.prog) (w := W) 85 3 .f64 .i64 r (z : Int) (by kernel_rfl) (by kernel_rfl) (by
      unfold floatToIntVal
      rw [show (FloatKind.decode .f64 r).toInt .zero = some (z : Int) from g2]
      simp [IntKind.min, IntKind.max, IntKind.bits, IntKind.signed]
      omega)
    clear g1 g2 hfl
    generalize Ieee.double.nearest false n.natAbs 0 = f0 at *
    have hz : (0 : Int) ≤ z ∧ (z : Int) < 16777216 := by omega
    generalize (z : Int) = z0 at *
    clear g3
    go_enter Try.func53, Try.ntmps53
    go_wp2_with (first | (go_at_call 70; (with_reducible refine ((TS _).out).mono ?_); rintro e w' ⟨rfl, rfl⟩))
    go_loopw [4] (fun rv wr => ∃ r : Int, rv = .int .i64 r ∧ 0 ≤ r ∧ r < 16777216 ∧ w = wr) (fun rv _ => (intOf rv).toNat)
    case atStart => exact ⟨z0, rfl, hz.1, hz.2, rfl⟩
    case round =>
      obtain ⟨s, rfl, s0, s1, rfl⟩ := hrel
      have ss := mul_bd (a := s) (b := s) (A := 16777216) (B := 16777216) (by omega) (by omega)
      by_cases hs : n < s * s
      · have sp : 0 < s := by
          rcases Int.lt_or_eq_of_le s0 with h | h
          · exact h
          · subst h; omega
        go_wp2_with fail
        go_roundw
        case rel => exact ⟨s - 1, by go_num, by omega, by omega, trivial⟩
        case measure => simp [intOf]; omega
      · have hsR : s ≤ R := by
          apply Int.not_lt.1; intro h
          have := le_sq (b := R + 1) (c := s) (by omega) (by omega)
          omega
        have hS := Lib.hid hs
        go_wp2_with fail
        go_loopw [4] (fun rv wr => ∃ r : Int, rv = .int .i64 r ∧ 0 ≤ r ∧ r ≤ R ∧ w = wr) (fun rv _ => (R - intOf rv).toNat)
        case atStart => exact ⟨s, rfl, s0, hsR, rfl⟩
        case round =>
          clear ss hs hsR hS
          obtain ⟨u, rfl, u0, u1, rfl⟩ := hrel
          have uu := mul_bd (a := u + 1) (b := u + 1) (A := 16777216) (B := 16777216) (by omega) (by omega)
          have uv := mul_bd (a := u) (b := u) (A := 16777216) (B := 16777216) (by omega) (by omega)
          by_cases hu : u < R
          · have := le_sq (b := u + 1) (c := R) (by omega) (by omega)
            have hq : (u + 1) * (u + 1) ≤ n := by omega
            clear this
            go_wp2_with fail
            go_roundw
            case rel => exact ⟨u + 1, by go_num, by omega, by omega, trivial⟩
            case measure => simp [intOf]; omega
          · obtain rfl : u = R := by omega
            have hq : ¬ (u + 1) * (u + 1) ≤ n := by omega
            by_cases he : u * u = n
            · have hv2 := HV.out
              rw [if_pos he] at hv2
              subst hv2
              go_wp2_with fail
              go_ret2
              exact ⟨rfl, rfl⟩
            · have hv2 := HV.out
              rw [if_neg he] at hv2
              subst hv2
              go_wp2_with fail
              go_ret2
              exact ⟨rfl, rfl⟩
/-- what the program's SquareRootOf tells of a fraction: a root, and whether there is one -/
theorem SquareRootOf_one (n : Int) (w : World) (hn : -1000000000 ≤ n ∧ n ≤ 1000000000) : Calls Try.prog 23 #[.agg #[.int .i64 n, .int .i64 1]] w fun r w' => r = .returned (.tuple #[.agg #[.int .i64 (if (exR n).2 = true then (exR n).1 else 0), .int .i64 (if (exR n).2 = true then 1 else 0)], .bool (exR n).2]) ∧ Below w.heap.size w w' := by
  have hf : frB n 1 = true := by
    unfold frB
    rw [inB_true (by omega) (by omega), inB_true hn.1 hn.2]
    simp [gcdI]
  have T1 := fun W : World => Lib.hid (isFraction_any n 1 W)
  rw [hf] at T1
  clear hf
  have T2 := fun W : World => Lib.hid (exactRoot_any n W (by omega) (by omega))
  have T3 := fun W : World => Lib.hid (exactRoot_any 1 W (by omega) (by omega))
  have e1 : exR 1 = (1, true) := by
    have hr : rtV 1 = 1 := rtV_eq ⟨by omega, by omega, by omega⟩
    unfold exR
    rw [hr]; rfl
  rw [e1] at T3
  dsimp only at T3
  obtain ⟨⟨x, o⟩, hx⟩ : ∃ z, exR n = z := ⟨_, rfl⟩
  rw [hx] at T2 ⊢
  dsimp only at T2 ⊢
  clear hx e1
  rcases o with _ | _
  · simp only [Bool.false_eq_true, if_false]
    have tok1 : True := trivial
    have tok2 : True := trivial
    have tok3 : True := trivial
    go_enter Try.func23, Try.ntmps23
    go_wp2_with (first | (have _t := tok1; go_at_call 39; (with_reducible refine ((T1 _).out).mono ?_); rintro e w1 ⟨rfl, hb1⟩; clear tok1 _t; have hz1 := hb1.size; (try simp only [World.size_alloc, World.size_setCell, World.size_drew, World.size_drewN'] at hz1); (try (have kq := cellAt hb1 (w.heap.size) (by go_size); have k1_w_0_0 := kq 0; have k1_w_0_1 := kq 1; clear kq; have f1_w_0 := frozAt hb1 (w.heap.size) (by go_size); simp [go_sem, *] at k1_w_0_0 k1_w_0_1 f1_w_0)); (try have l1_w_0 : w.heap.size < w1.heap.size := by omega); (try (have kq := cellAt hb1 (w.heap.size + 1) (by go_size); have k1_w_1_0 := kq 0; have k1_w_1_1 := kq 1; clear kq; have f1_w_1 := frozAt hb1 (w.heap.size + 1) (by go_size); simp [go_sem, *] at k1_w_1_0 k1_w_1_1 f1_w_1)); (try have l1_w_1 : w.heap.size + 1 < w1.heap.size := by omega); (try (have kq := cellAt hb1 (w.heap.size) (by go_size); have k1_w_0_0 := kq 0; have k1_w_0_1 := kq 1; clear kq; have f1_w_0 := frozAt hb1 (w.heap.size) (by go_size); simp [go_sem, *] at k1_w_0_0 k1_w_0_1 f1_w_0)); (try have l1_w_0 : w.heap.size < w1.heap.size := by omega)) | (go_at_call 53; (with_reducible refine ((T2 _).out).mono ?_); rintro e w' ⟨rfl, rfl⟩) | (go_at_call 53; (with_reducible refine ((T3 _).out).mono ?_); rintro e w' ⟨rfl, rfl⟩))
    (refine bodyPost_ret (v := .tuple #[.agg #[.int .i64 0, .int .i64 0], .bool false]) (by simp [results, Try.results23, go_sem, *]) rfl ⟨rfl, by repeat' first | (with_reducible first | apply zRf | assumption | apply zDn | apply zDr | apply zAl | apply zSt | refine zVi (by assumption) ?_ ?_) | go_size⟩)
  · simp only [if_true]
    have tok1 : True := trivial
    have tok2 : True := trivial
    have tok3 : True := trivial
    go_enter Try.func23, Try.ntmps23
    go_wp2_with (first | (have _t := tok1; go_at_call 39; (with_reducible refine ((T1 _).out).mono ?_); rintro e w1 ⟨rfl, hb1⟩; clear tok1 _t; have hz1 := hb1.size; (try simp only [World.size_alloc, World.size_setCell, World.size_drew, World.size_drewN'] at hz1); (try (have kq := cellAt hb1 (w.heap.size) (by go_size); have k1_w_0_0 := kq 0; have k1_w_0_1 := kq 1; clear kq; have f1_w_0 := frozAt hb1 (w.heap.size) (by go_size); simp [go_sem, *] at k1_w_0_0 k1_w_0_1 f1_w_0)); (try have l1_w_0 : w.heap.size < w1.heap.size := by omega); (try (have kq := cellAt hb1 (w.heap.size + 1) (by go_size); have k1_w_1_0 := kq 0; have k1_w_1_1 := kq 1; clear kq; have f1_w_1 := frozAt hb1 (w.heap.size + 1) (by go_size); simp [go_sem, *] at k1_w_1_0 k1_w_1_1 f1_w_1)); (try have l1_w_1 : w.heap.size + 1 < w1.heap.size := by omega); (try (have kq := cellAt hb1 (w.heap.size) (by go_size); have k1_w_0_0 := kq 0; have k1_w_0_1 := kq 1; clear kq; have f1_w_0 := frozAt hb1 (w.heap.size) (by go_size); simp [go_sem, *] at k1_w_0_0 k1_w_0_1 f1_w_0)); (try have l1_w_0 : w.heap.size < w1.heap.size := by omega)) | (go_at_call 53; (with_reducible refine ((T2 _).out).mono ?_); rintro e w' ⟨rfl, rfl⟩) | (go_at_call 53; (with_reducible refine ((T3 _).out).mono ?_); rintro e w' ⟨rfl, rfl⟩))
    (refine bodyPost_ret (v := .tuple #[.agg #[.int .i64 x, .int .i64 1], .bool true]) (by simp [results, Try.results23, go_sem, *]) rfl ⟨rfl, by repeat' first | (with_reducible first | apply zRf | assumption | apply zDn | apply zDr | apply zAl | apply zSt | refine zVi (by assumption) ?_ ?_) | go_size⟩)
end Go.Proofs.Ytnemnkbcbokafaa
