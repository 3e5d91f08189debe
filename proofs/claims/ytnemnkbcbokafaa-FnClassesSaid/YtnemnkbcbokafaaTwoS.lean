/- Points of two-curves: validity on both sides, and the reference's reckoning of the equation. -/
import Derived.Test.YtnemnkbcbokafaaTwo3
namespace Go.Proofs.Ytnemnkbcbokafaa
open Go.RowKit
set_option linter.unusedVariables false
set_option maxHeartbeats 8000000
set_option maxRecDepth 20000
set_option linter.unusedSimpArgs false
def tcB (a b : Int) : Bool := inB a (-300) 300 && (inB b (-300) 300 && (decide (b ≠ 0) && decide (a * a ≠ 4 * b)))
theorem tcB_cases (a b : Int) : (inB a (-300) 300 = false ∧ tcB a b = false) ∨ (inB a (-300) 300 = true ∧ ((inB b (-300) 300 = false ∧ tcB a b = false) ∨ (inB b (-300) 300 = true ∧ ((b = 0 ∧ tcB a b = false) ∨ (b ≠ 0 ∧ tcB a b = decide (a * a ≠ 4 * b)))))) := by
  cases h1 : inB a (-300) 300
  · left; simp [tcB, h1]
  · right; refine ⟨rfl, ?_⟩
    cases h2 : inB b (-300) 300
    · left; simp [tcB, h1, h2]
    · right; refine ⟨rfl, ?_⟩
      by_cases h3 : b = 0
      · left; simp [tcB, h1, h2, h3]
      · right; exact ⟨h3, by simp [tcB, h1, h2, h3]⟩
theorem tcB_bd {a b : Int} (h : tcB a b = true) : (-300 ≤ a ∧ a ≤ 300) ∧ (-300 ≤ b ∧ b ≤ 300) ∧ b ≠ 0 ∧ a * a ≠ 4 * b := by
  simp [tcB, inB] at h; omega
theorem tcGood_any (a b : Int) (w : World) : Calls Try.prog 40 #[.agg #[.int .i64 a, .int .i64 b]] w fun e w' => e = .returned (.bool (tcB a b)) ∧ Below w.heap.size w w' := by
  rcases tcB_cases a b with ⟨h1, h⟩ | ⟨h1, ⟨h2, h⟩ | ⟨h2, ⟨rfl, h⟩ | ⟨h3, h⟩⟩⟩
  all_goals
    rw [h]
    clear h
    try (have b1 := inB_iff.1 h1)
    try (have b2 := inB_iff.1 h2)
    try (have m := mul_bd (a := a) (b := a) (A := 300) (B := 300) (by omega) (by omega))
    go_enter Try.func40, Try.ntmps40
    go_wp2_with (first | (go_at_call 51; refine (l1In_any _ _ _ _).mono ?_; rintro e w' ⟨rfl, rfl⟩) | (go_at_call 29; refine (inside_any _ _ _ _).mono ?_; rintro e w' ⟨rfl, rfl⟩))
    go_ret
    refine ⟨ret_bool (by first | rfl | (rw [Bool.eq_iff_iff]; simp [h3])), ?_⟩
    repeat' first | (with_reducible first | apply zRf | assumption | apply zDn | apply zDr | apply zAl | apply zSt | refine zVi (by assumption) ?_ ?_) | go_size
theorem isTwoCurve_any (a b : Int) (w : World) : Calls Try.prog 38 #[.agg #[.int .i64 a, .int .i64 b]] w fun e w' => e = .returned (.bool (tcB a b)) ∧ Below w.heap.size w w' := by
  rcases tcB_cases a b with ⟨h1, h⟩ | ⟨h1, ⟨h2, h⟩ | ⟨h2, ⟨rfl, h⟩ | ⟨h3, h⟩⟩⟩
  all_goals
    rw [h]
    clear h
    try (have b1 := inB_iff.1 h1)
    try (have b2 := inB_iff.1 h2)
    try (have m := mul_bd (a := a) (b := a) (A := 300) (B := 300) (by omega) (by omega))
    go_enter Try.func38, Try.ntmps38
    go_wp2_with (first | (go_at_call 51; refine (l1In_any _ _ _ _).mono ?_; rintro e w' ⟨rfl, rfl⟩) | (go_at_call 29; refine (inside_any _ _ _ _).mono ?_; rintro e w' ⟨rfl, rfl⟩))
    go_ret
    refine ⟨ret_bool (by first | rfl | (rw [Bool.eq_iff_iff]; simp [h3])), ?_⟩
    repeat' first | (with_reducible first | apply zRf | assumption | apply zDn | apply zDr | apply zAl | apply zSt | refine zVi (by assumption) ?_ ?_) | go_size
/-! ### what the reference reckons -/
def onS (a b nx dx ny dy : Int) : Bool × Bool :=
  let l := prF ny dy ny dy
  let s := suF nx dx a 1
  if (l.2.2 && s.2.2) = true then
    let t := prF s.1 s.2.1 nx dx
    if t.2.2 = true then
      let u := suF t.1 t.2.1 b 1
      if u.2.2 = true then
        let r := prF nx dx u.1 u.2.1
        (r.2.2 && (l.1 == r.1 && l.2.1 == r.2.1), r.2.2)
      else (false, false)
    else (false, false)
  else (false, false)
theorem stF {v : Bool} {f : Int × Int × Bool} (hv : v = true) (hf : f.2.2 = true) : stN v f = f.1 ∧ stD v f = f.2.1 := by simp [stN, stD, hv, hf]
theorem on_eq (a b nx dx ny dy : Int) (ha : -1000000000 ≤ a ∧ a ≤ 1000000000) (hb : -1000000000 ≤ b ∧ b ≤ 1000000000) : onT a b nx dx ny dy = onS a b nx dx ny dy := by
  unfold onT onS
  simp only [mkF_whole ha.1 ha.2, mkF_whole hb.1 hb.2]
  cases hl : (prF ny dy ny dy).2.2
  · simp [stN, stD]
  · cases hs : (suF nx dx a 1).2.2
    · simp [stN, stD, hs]
    · simp only [stN, stD, Bool.true_and, Bool.and_true, hs, if_true]
      cases ht : (prF (suF nx dx a 1).1 (suF nx dx a 1).2.1 nx dx).2.2
      · simp
      · cases hu : (suF (prF (suF nx dx a 1).1 (suF nx dx a 1).2.1 nx dx).1 (prF (suF nx dx a 1).1 (suF nx dx a 1).2.1 nx dx).2.1 b 1).2.2
        · simp [hu]
        · simp only [Bool.true_and, Bool.and_true, hu, if_true]
          generalize prF nx dx _ _ = r
          cases r.2.2 <;> simp [hl]
end Go.Proofs.Ytnemnkbcbokafaa
