/- Cubics: validity, values, signs: contracts of the program's and the reference's functions. -/
import Derived.Test.YtldonmcbnhgbdaaNum
import Derived.Lib.Small
namespace Go.Proofs.Ytldonmcbnhgbdaa
open Go.RowKit
set_option linter.unusedVariables false
set_option maxHeartbeats 4000000
set_option linter.unusedSimpArgs false

def cuB (a b c d : Int) : Bool := decide (a ≠ 0) && (inB a (-1000) 1000 && (inB b (-1000) 1000 && (inB c (-1000) 1000 && inB d (-1000) 1000)))
theorem cuB_cases (a b c d : Int) : (a = 0 ∧ cuB a b c d = false) ∨ (a ≠ 0 ∧ ((inB a (-1000) 1000 = false ∧ cuB a b c d = false) ∨ (inB a (-1000) 1000 = true ∧ ((inB b (-1000) 1000 = false ∧ cuB a b c d = false) ∨ (inB b (-1000) 1000 = true ∧
    ((inB c (-1000) 1000 = false ∧ cuB a b c d = false) ∨ (inB c (-1000) 1000 = true ∧ cuB a b c d = inB d (-1000) 1000))))))) := by
  by_cases h : a = 0
  · left; exact ⟨h, by simp [cuB, h]⟩
  · right; refine ⟨h, ?_⟩
    cases h1 : inB a (-1000) 1000
    · left; simp [cuB, h1]
    · right; refine ⟨rfl, ?_⟩
      cases h2 : inB b (-1000) 1000
      · left; simp [cuB, h1, h2]
      · right; refine ⟨rfl, ?_⟩
        cases h3 : inB c (-1000) 1000
        · left; simp [cuB, h1, h2, h3]
        · right; simp [cuB, h, h1, h2, h3]
theorem cuB_bd {a b c d : Int} (h : cuB a b c d = true) : a ≠ 0 ∧ (-1000 ≤ a ∧ a ≤ 1000) ∧ (-1000 ≤ b ∧ b ≤ 1000) ∧ (-1000 ≤ c ∧ c ≤ 1000) ∧ (-1000 ≤ d ∧ d ≤ 1000) := by
  simp [cuB, inB] at h; omega
def cuV (a b c d n e : Int) : Int := ((a * n + b * e) * n + c * e * e) * n + d * e * e * e
theorem cuV_eq (a b c d n e : Int) : a * n * n * n + b * n * n * e + c * n * e * e + d * e * e * e = cuV a b c d n e := by
  unfold cuV; grind
def sgnV (v : Int) : Int := if 0 < v then 1 else if v < 0 then -1 else 0
theorem sgnV_cmp (v : Int) : Lib.compareInt v 0 = sgnV v := by
  unfold Lib.compareInt sgnV
  repeat' split
  all_goals first | rfl | (exfalso; omega)
theorem isCubic_any (a b c d : Int) (w : World) : Calls Try.prog 25 #[.agg #[.int .i64 a, .int .i64 b, .int .i64 c, .int .i64 d]] w fun e w' => e = .returned (.bool (cuB a b c d)) ∧ Below w.heap.size w w' := by
  rcases cuB_cases a b c d with ⟨h, e⟩ | ⟨h, ⟨h1, e⟩ | ⟨h1, ⟨h2, e⟩ | ⟨h2, ⟨h3, e⟩ | ⟨h3, e⟩⟩⟩⟩
  all_goals
    rw [e]
    clear e
    go_enter Try.func25, Try.ntmps25
    go_wp2_with (first | (go_at_call 44; refine (inside_any _ _ _ _).mono ?_; rintro e w' ⟨rfl, rfl⟩))
    refine bodyPost_ret (v := _) (by simp [results, Try.results25, go_sem, *]) rfl ⟨rfl, ?_⟩
    repeat' first | (with_reducible first | apply zRf | assumption | apply zDn | apply zDr | apply zAl | apply zSt | refine zVi (by assumption) ?_ ?_) | go_size
def AllRel (zs : List Int) (lo hi : Int) (i : Value) : Prop := ∃ k : Nat, k ≤ zs.length ∧ i = .int .i64 k ∧ (zs.take k).all (fun z => inB z lo hi) = true
theorem l1All_any (b off c : Nat) (zs : List Int) (lo hi : Int) (w : World) (hbig : zs.length ≤ 1000000) (hc : ∀ j, j < zs.length → w.cell? ⟨b, off + j, none⟩ = some (.int .i64 (zs.getD j 0))) :
    Calls Try.prog 50 #[.slice (some ⟨b, off, none⟩) zs.length c, .int .i64 lo, .int .i64 hi] w fun e w' => e = .returned (.bool (zs.all fun z => inB z lo hi)) ∧ w = w' := by
  go_enter Try.func50, Try.ntmps50
  go_wp2_with (first | (go_at_call 59; refine (l1In_any _ _ _ _).mono ?_; rintro e w' ⟨rfl, rfl⟩))
  go_loop [11] (fun i => AllRel zs lo hi i) (fun i => zs.length - (intOf i).toNat)
  case atStart => exact ⟨0, Nat.zero_le _, rfl, rfl⟩
  case round =>
    obtain ⟨k, hk, rfl, hall⟩ := hrel
    by_cases hlt : k < zs.length
    · have hcell := hc k hlt
      have hA := Lib.hid hall
      have hC := Lib.hid hc
      clear hall hc
      rw [show zs.getD k 0 = zs[k] by simp [List.getD, hlt]] at hcell
      cases hin : inB zs[k] lo hi
      · go_wp2_with (first | (go_at_call 59; refine (l1In_any _ _ _ _).mono ?_; rintro e w' ⟨rfl, rfl⟩))
        go_ret
        refine ⟨ret_bool ?_, rfl⟩
        symm
        rw [List.all_eq_false]
        exact ⟨zs[k], List.getElem_mem _, by simp [hin]⟩
      · go_wp2_with (first | (go_at_call 59; refine (l1In_any _ _ _ _).mono ?_; rintro e w' ⟨rfl, rfl⟩))
        go_round
        case rel => exact ⟨k + 1, by omega, by go_num, by rw [List.take_succ_eq_append_getElem hlt, List.all_append, hA.out]; simp [hin]⟩
        case measure => simp [intOf]; omega
    · have : k = zs.length := by omega
      subst this
      rw [List.take_length] at hall
      have hA := Lib.hid hall
      clear hall
      go_wp2_with (first | (go_at_call 59; refine (l1In_any _ _ _ _).mono ?_; rintro e w' ⟨rfl, rfl⟩))
      go_ret
      exact ⟨ret_bool hA.out.symm, rfl⟩
theorem cuValue_any (a b c d n e : Int) (w : World) (ha : -1000 ≤ a ∧ a ≤ 1000) (hb : -1000 ≤ b ∧ b ≤ 1000) (hc : -1000 ≤ c ∧ c ≤ 1000) (hd : -1000 ≤ d ∧ d ≤ 1000) (hn : -10000 ≤ n ∧ n ≤ 10000) (he : -1000 ≤ e ∧ e ≤ 1000) :
    Calls Try.prog 34 #[.agg #[.int .i64 a, .int .i64 b, .int .i64 c, .int .i64 d], .int .i64 n, .int .i64 e] w fun r w' => r = .returned (.int .i64 (cuV a b c d n e)) ∧ Below w.heap.size w w' := by
  have m1 := mul_bd (a := a) (b := n) (A := 1000) (B := 10000) (by omega) (by omega)
  have m2 := mul_bd (a := b) (b := e) (A := 1000) (B := 1000) (by omega) (by omega)
  have m3 := mul_bd (a := a * n + b * e) (b := n) (A := 11000000) (B := 10000) (by omega) (by omega)
  have m4 := mul_bd (a := c) (b := e) (A := 1000) (B := 1000) (by omega) (by omega)
  have m5 := mul_bd (a := c * e) (b := e) (A := 1000000) (B := 1000) (by omega) (by omega)
  have m6 := mul_bd (a := (a * n + b * e) * n + c * e * e) (b := n) (A := 111000000000) (B := 10000) (by omega) (by omega)
  have m7 := mul_bd (a := d) (b := e) (A := 1000) (B := 1000) (by omega) (by omega)
  have m8 := mul_bd (a := d * e) (b := e) (A := 1000000) (B := 1000) (by omega) (by omega)
  have m9 := mul_bd (a := d * e * e) (b := e) (A := 1000000000) (B := 1000) (by omega) (by omega)
  unfold cuV
  go_enter Try.func34, Try.ntmps34
  go_wp2
  refine bodyPost_ret (v := _) (by simp [results, Try.results34, go_sem, *]) rfl ⟨rfl, ?_⟩
  repeat' first | (with_reducible first | apply zRf | assumption | apply zDn | apply zDr | apply zAl | apply zSt | refine zVi (by assumption) ?_ ?_) | go_size
theorem over_any (a b c d n e : Int) (w : World) (ha : -1000 ≤ a ∧ a ≤ 1000) (hb : -1000 ≤ b ∧ b ≤ 1000) (hc : -1000 ≤ c ∧ c ≤ 1000) (hd : -1000 ≤ d ∧ d ≤ 1000) (hn : -10000 ≤ n ∧ n ≤ 10000) (he : -1000 ≤ e ∧ e ≤ 1000) :
    Calls Try.prog 46 #[.agg #[.int .i64 a, .int .i64 b, .int .i64 c, .int .i64 d], .int .i64 n, .int .i64 e] w fun r w' => r = .returned (.int .i64 (cuV a b c d n e)) ∧ Below w.heap.size w w' := by
  have m1 := mul_bd (a := a) (b := n) (A := 1000) (B := 10000) (by omega) (by omega)
  have m2 := mul_bd (a := a * n) (b := n) (A := 10000000) (B := 10000) (by omega) (by omega)
  have m3 := mul_bd (a := a * n * n) (b := n) (A := 100000000000) (B := 10000) (by omega) (by omega)
  have m4 := mul_bd (a := b) (b := n) (A := 1000) (B := 10000) (by omega) (by omega)
  have m5 := mul_bd (a := b * n) (b := n) (A := 10000000) (B := 10000) (by omega) (by omega)
  have m6 := mul_bd (a := b * n * n) (b := e) (A := 100000000000) (B := 1000) (by omega) (by omega)
  have m7 := mul_bd (a := c) (b := n) (A := 1000) (B := 10000) (by omega) (by omega)
  have m8 := mul_bd (a := c * n) (b := e) (A := 10000000) (B := 1000) (by omega) (by omega)
  have m9 := mul_bd (a := c * n * e) (b := e) (A := 10000000000) (B := 1000) (by omega) (by omega)
  have n7 := mul_bd (a := d) (b := e) (A := 1000) (B := 1000) (by omega) (by omega)
  have n8 := mul_bd (a := d * e) (b := e) (A := 1000000) (B := 1000) (by omega) (by omega)
  have n9 := mul_bd (a := d * e * e) (b := e) (A := 1000000000) (B := 1000) (by omega) (by omega)
  rw [← cuV_eq]
  go_enter Try.func46, Try.ntmps46
  go_wp2
  refine bodyPost_ret (v := _) (by simp [results, Try.results46, go_sem, *]) rfl ⟨rfl, ?_⟩
  repeat' first | (with_reducible first | apply zRf | assumption | apply zDn | apply zDr | apply zAl | apply zSt | refine zVi (by assumption) ?_ ?_) | go_size
end Go.Proofs.Ytldonmcbnhgbdaa
