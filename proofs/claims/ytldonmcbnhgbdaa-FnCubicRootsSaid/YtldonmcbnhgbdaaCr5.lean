/- FnCubicRoots: the law's own comparisons of lists and fractions. -/
import Derived.Test.YtldonmcbnhgbdaaCr3
import Derived.Test.YtldonmcbnhgbdaaCr4
namespace Go.Proofs.Ytldonmcbnhgbdaa
open Go.RowKit
set_option linter.unusedVariables false
set_option maxHeartbeats 4000000
set_option maxRecDepth 20000
set_option linter.unusedSimpArgs false

theorem eqFr_at (d : Nat) (a b : Int) (w : World) : (Op.equalIn (d + 1 + 1) 37 (.agg #[.int .i64 a, .int .i64 b]) (.agg #[.int .i64 a, .int .i64 b])).run Try.prog w = .ok true w := by
  have u3 := Try.underlying3
  have hS : Try.prog.underlying 37 = some (.struct (Try.prog.fieldsOf 37)) := by kernel_rfl
  have hp : Try.prog.stoodInHeld 37 = false := by kernel_rfl
  rw [run_equalIn_agg w (d + 1) 37 _ _ hS hp]
  simp only [Program.fieldsOf, Try.underlying37]
  go_simp
theorem neqFr_same (a b : Int) (w : World) : (binOp .neq 37 (.agg #[.int .i64 a, .int .i64 b]) (.agg #[.int .i64 a, .int .i64 b])).run Try.prog w = .ok (.bool false) w := by
  rw [run_neq_struct, show (10000 : Nat) = 9998 + 1 + 1 from rfl, eqFr_at]
  rfl
theorem qInts_same {a a2 : Option Addr} {n c n2 c2 : Nat} {zs : List Int} {w : World} (h : Sx w a n c zs) (h2 : Sx w a2 n2 c2 zs) : Calls Try.prog 21 #[.slice a n c, .slice a2 n2 c2] w fun e w' => e = .returned (.bool true) ∧ Below w.heap.size w w' := by
  obtain rfl : n2 = n := by have := h2.len; have := h.len; omega
  have hnm := h.cap
  have hnm2 := h.max
  unfold maxLen at hnm2
  have e1 : ((n2 : Int) != (n2 : Int)) = false := by simp
  go_enter Try.func21, Try.ntmps21
  go_wp2_with fail
  go_loopw [13] (fun iv wr => ∃ k : Nat, iv = .int .i64 k ∧ k ≤ n2 ∧ ∃ m, wr = w.drewN m) (fun iv _ => (n2 - intOf iv).toNat)
  case atStart => exact ⟨0, rfl, by omega, 0, rfl⟩
  case round =>
    obtain ⟨k, rfl, hk, m, rfl⟩ := hrel
    by_cases h0 : k < n2
    · obtain ⟨b, off, rfl, hb, hcs⟩ := h.at (by omega)
      obtain ⟨b2, off2, rfl, hb2, hcs2⟩ := h2.at (by omega)
      have c0 := hcs k h0
      have d0 := hcs2 k h0
      have hk2 : (k : Int) < (n2 : Int) := by omega
      have hx : ∀ x : Int, (x != x) = false := fun x => by simp
      clear hcs hcs2
      go_wp2_with fail
      go_quiet (fail)
      go_wp2_with fail
      go_roundw
      case rel => exact ⟨k + 1, by go_num, by omega, _, rfl⟩
      case measure => simp [intOf]; omega
    · obtain rfl : k = n2 := by omega
      go_wp2_with fail
      go_ret
      exact ⟨rfl, below_drewN (Below.refl _ _) _⟩
theorem qFractions_same {a1 a2 : Option Addr} {n c1 c2 B B2 : Nat} {zs : List Int} {w : World} (hz : zs.length = 2 * n) (hn : n ≤ 3000000) (h : RowF w B n a1 zs) (h2 : RowF w B2 n a2 zs) : Calls Try.prog 20 #[.slice a1 n c1, .slice a2 n c2] w fun e w' => e = .returned (.bool true) ∧ Below w.heap.size w w' := by
  have e1 : ((n : Int) != (n : Int)) = false := by simp
  by_cases hp : 0 < n
  · obtain ⟨g, rfl, -, hr⟩ := h hp
    obtain ⟨g2, rfl, -, hr2⟩ := h2 hp
    have hg := hr.1
    have hg2 := hr2.1
    have HR := Lib.hid hr
    have HR2 := Lib.hid hr2
    clear hr hr2 h h2
    go_enter Try.func20, Try.ntmps20
    go_wp2_with fail
    go_loopw [13] (fun iv wr => ∃ k : Nat, iv = .int .i64 k ∧ k ≤ n ∧ ∃ m, wr = w.drewN m) (fun iv _ => (n - intOf iv).toNat)
    case atStart => exact ⟨0, rfl, by omega, 0, rfl⟩
    case round =>
      obtain ⟨k, rfl, hk, m, rfl⟩ := hrel
      by_cases h0 : k < n
      · obtain ⟨x, hx⟩ : ∃ x, zs[k * 2]?.getD 0 = x := ⟨_, rfl⟩
        obtain ⟨y, hy⟩ : ∃ y, zs[k * 2 + 1]?.getD 0 = y := ⟨_, rfl⟩
        have c0 := (HR.out.2 (k * 2) (by omega)).1
        have c1 := (HR.out.2 (k * 2 + 1) (by omega)).1
        have d0 := (HR2.out.2 (k * 2) (by omega)).1
        have d1 := (HR2.out.2 (k * 2 + 1) (by omega)).1
        rw [hx] at c0 d0
        rw [hy] at c1 d1
        have hk2 : (k : Int) < (n : Int) := by omega
        have EF := fun W => neqFr_same x y W
        clear hx hy
        go_wp2_with fail
        go_quiet (fail)
        go_wp2_with fail
        go_roundw
        case rel => exact ⟨k + 1, by go_num, by omega, _, rfl⟩
        case measure => simp [intOf]; omega
      · obtain rfl : k = n := by omega
        go_wp2_with fail
        go_ret
        exact ⟨rfl, below_drewN (Below.refl _ _) _⟩
  · obtain rfl : n = 0 := by omega
    go_enter Try.func20, Try.ntmps20
    go_wp2_with fail
    go_loopw [13] (fun iv wr => iv = .int .i64 0 ∧ wr = w) (fun iv _ => 0)
    case atStart => exact ⟨rfl, rfl⟩
    case round =>
      obtain ⟨rfl, rfl⟩ := hrel
      go_wp2_with fail
      go_ret
      exact ⟨rfl, Below.refl _ _⟩
theorem qLess_true (n1 d1 n2 d2 : Int) (w : World) (h1 : -1000 ≤ n1 ∧ n1 ≤ 1000) (h2 : -1000 ≤ d1 ∧ d1 ≤ 1000) (h3 : -1000 ≤ n2 ∧ n2 ≤ 1000) (h4 : -1000 ≤ d2 ∧ d2 ≤ 1000) (hl : n1 * d2 < n2 * d1) : Calls Try.prog 23 #[.agg #[.int .i64 n1, .int .i64 d1], .agg #[.int .i64 n2, .int .i64 d2]] w fun e w' => e = .returned (.bool true) ∧ Below w.heap.size w w' := by
  have m1 := mul_bd (a := n1) (b := d2) (A := 1000) (B := 1000) (by omega) (by omega)
  have m2 := mul_bd (a := n2) (b := d1) (A := 1000) (B := 1000) (by omega) (by omega)
  go_enter Try.func23, Try.ntmps23
  go_wp2_with fail
  go_ret
  refine ⟨ret_bool (by simp [hl]), ?_⟩
  repeat' first | (with_reducible first | apply zRf | assumption | apply zDn | apply zDr | apply zAl | apply zSt | refine zVi (by assumption) ?_ ?_) | go_size
end Go.Proofs.Ytldonmcbnhgbdaa
