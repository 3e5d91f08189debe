/- Powers modulo a prime, symbols, squares modulo powers: contracts of both sides. -/
import Derived.Test.YtegiddpakocodaaLo
namespace Go.Proofs.Ytegiddpakocodaa
open Go.RowKit
set_option linter.unusedVariables false
set_option maxHeartbeats 4000000
set_option linter.unusedSimpArgs false
def PwRel (a n p : Int) (x o b : Value) : Prop := ∃ m u v : Int, x = .int .i64 m ∧ o = .int .i64 u ∧ b = .int .i64 v ∧ 0 ≤ m ∧ m ≤ 1000000000 ∧ (0 ≤ u ∧ u < p) ∧ (0 ≤ v ∧ v < p) ∧ Cg p (u * v ^ m.toNat) (a ^ n.toNat)
theorem pwr_odd {a n p m u v : Int} (hp : 2 ≤ p) (hm : 0 < m) (hm2 : m ≤ 1000000000) (hu : 0 ≤ u ∧ u < p) (hv : 0 ≤ v ∧ v < p) (h : Cg p (u * v ^ m.toNat) (a ^ n.toNat)) (ho : m % 2 = 1) :
    PwRel a n p (.int .i64 (m / 2)) (.int .i64 ((u * v).tmod p)) (.int .i64 ((v * v).tmod p)) := by
  have e1 : (u * v).tmod p = u * v % p := Int.tmod_eq_emod_of_nonneg (Int.mul_nonneg hu.1 hv.1)
  have e2 : (v * v).tmod p = v * v % p := Int.tmod_eq_emod_of_nonneg (Int.mul_nonneg hv.1 hv.1)
  rw [e1, e2]
  exact ⟨m / 2, _, _, rfl, rfl, rfl, by omega, by omega, ⟨Int.emod_nonneg _ (by omega), Int.emod_lt_of_pos _ (by omega)⟩, ⟨Int.emod_nonneg _ (by omega), Int.emod_lt_of_pos _ (by omega)⟩, (pw_odd (by omega) ho).trans h⟩
theorem pwr_even {a n p m u v : Int} (hp : 2 ≤ p) (hm : 0 < m) (hm2 : m ≤ 1000000000) (hu : 0 ≤ u ∧ u < p) (hv : 0 ≤ v ∧ v < p) (h : Cg p (u * v ^ m.toNat) (a ^ n.toNat)) (ho : m % 2 ≠ 1) :
    PwRel a n p (.int .i64 (m / 2)) (.int .i64 u) (.int .i64 ((v * v).tmod p)) := by
  have e2 : (v * v).tmod p = v * v % p := Int.tmod_eq_emod_of_nonneg (Int.mul_nonneg hv.1 hv.1)
  rw [e2]
  exact ⟨m / 2, _, _, rfl, rfl, rfl, by omega, by omega, hu, ⟨Int.emod_nonneg _ (by omega), Int.emod_lt_of_pos _ (by omega)⟩, (pw_even (by omega) (by omega)).trans h⟩
theorem tdiv2_lt {m : Int} (h : 0 < m) : (m / 2).toNat < m.toNat := by omega
theorem one_tmod {p : Int} (hp : 2 ≤ p) : (1 : Int).tmod p = 1 := by
  rw [Int.tmod_eq_emod_of_nonneg (by omega)]; exact Int.emod_eq_of_lt (by omega) (by omega)
theorem mdPower_any (a n p : Int) (w : World) (hn : 0 ≤ n) (hn2 : n ≤ 1000000000) (hp : 2 ≤ p) (hp2 : p ≤ 1000000) : Calls Try.prog 80 #[.int .i64 a, .int .i64 n, .int .i64 p] w fun e w' => e = .returned (.int .i64 (pwM a n p)) ∧ w = w' := by
  have b0 := Lib.hid (show (0 ≤ a % p ∧ a % p < p) from ⟨Int.emod_nonneg _ (by omega), Int.emod_lt_of_pos _ (by omega)⟩)
  go_enter Try.func80, Try.ntmps80
  go_wp2_with (first | (go_at_call 74; refine (mdMod_any _ _ _ (by omega) (by omega)).mono ?_; rintro e w' ⟨rfl, rfl⟩))
  go_loop [1, 7, 8] (fun x o b => PwRel a n p x o b) (fun x _ _ => (intOf x).toNat)
  case atStart => exact ⟨n, 1, a % p, rfl, rfl, rfl, hn, hn2, ⟨by omega, by omega⟩, b0.out, pw_start1 a p n⟩
  case round =>
    obtain ⟨m, u, v, rfl, rfl, rfl, hm, hm2, hu, hv, hc⟩ := hrel
    have m1 := mul_bd (a := u) (b := v) (A := 1000000) (B := 1000000) (by omega) (by omega)
    have m2 := mul_bd (a := v) (b := v) (A := 1000000) (B := 1000000) (by omega) (by omega)
    by_cases hz : 0 < m
    · have hl := tdiv2_lt hz
      by_cases ho : m % 2 = 1
      · have HR := Lib.hid (pwr_odd hp hz hm2 hu hv hc ho)
        have ho' : (m % 2 == 1) = true := by simp [ho]
        clear hc ho
        go_wp2
        go_round
        case rel => exact HR.out
        case measure => simpa [intOf] using hl
      · have HR := Lib.hid (pwr_even hp hz hm2 hu hv hc ho)
        have ho' : (m % 2 == 1) = false := by simp [ho]
        clear hc ho
        go_wp2
        go_round
        case rel => exact HR.out
        case measure => simpa [intOf] using hl
    · have hm0 : m = 0 := by omega
      subst hm0
      have HE := Lib.hid (pw_end hc hu.1 hu.2)
      have HT := Lib.hid (Int.emod_eq_of_lt hu.1 hu.2)
      clear hc
      go_wp2
      go_ret
      exact ⟨ret_int (by rw [HT.out]; exact HE.out), rfl⟩
theorem power_any (a n p : Int) (w : World) (hn : 0 ≤ n) (hn2 : n ≤ 1000000000) (hp : 2 ≤ p) (hp2 : p ≤ 1000000) : Calls Try.prog 81 #[.int .i64 a, .int .i64 n, .int .i64 p] w fun e w' => e = .returned (.int .i64 (pwM a n p)) ∧ Below w.heap.size w w' := by
  have b0 := Lib.hid (show (0 ≤ a % p ∧ a % p < p) from ⟨Int.emod_nonneg _ (by omega), Int.emod_lt_of_pos _ (by omega)⟩)
  have h1 := one_tmod hp
  have h1' : (1 : Int) % p = 1 := Int.emod_eq_of_lt (by omega) (by omega)
  have hp0 : p ≠ 0 := by omega
  have hp1 : p ≠ -1 := by omega
  go_enter Try.func81, Try.ntmps81
  go_wp2_with fail
  refine wp_drawn' (n := 6) (by kernel_rfl) (by kernel_rfl) (by kernel_rfl) ?_
  apply Exists.intro
  refine ⟨?_, ?_⟩
  · intro W hW
    simp only [List.take_succ_cons, List.take_zero]
    repeat (go_big_quiet_step ((first | (go_at_call 73; exact draw_of_same _ (modulo_any _ _ _ (by omega) (by omega))))))
    exact wpQuiet_nil rfl
  intro w1 hb1
  simp only [List.drop_succ_cons, List.drop_zero, Act.put, List.setIfInBounds_toArray, List.set_cons_succ, List.set_cons_zero]
  have hz1 := hb1.size
  (try simp only [World.size_alloc, World.size_setCell, World.size_drew, World.size_drewN'] at hz1)
  go_wp2_with fail
  go_loop [1, 7, 8] (fun x o b => PwRel a n p x o b) (fun x _ _ => (intOf x).toNat)
  case atStart => exact ⟨n, 1, a % p, rfl, by simp [h1], rfl, hn, hn2, ⟨by omega, by omega⟩, b0.out, pw_start1 a p n⟩
  case round =>
    clear h1 h1'
    obtain ⟨m, u, v, rfl, rfl, rfl, hm, hm2, hu, hv, hc⟩ := hrel
    have m1 := mul_bd (a := u) (b := v) (A := 1000000) (B := 1000000) (by omega) (by omega)
    have m2 := mul_bd (a := v) (b := v) (A := 1000000) (B := 1000000) (by omega) (by omega)
    by_cases hz : 0 < m
    · have hl := tdiv2_lt hz
      by_cases ho : m % 2 = 1
      · have HR := Lib.hid (pwr_odd hp hz hm2 hu hv hc ho)
        have ho' : (m % 2 == 1) = true := by simp [ho]
        clear hc ho
        go_wp2
        go_round
        case rel => exact HR.out
        case measure => simpa [intOf] using hl
      · have HR := Lib.hid (pwr_even hp hz hm2 hu hv hc ho)
        have ho' : (m % 2 == 1) = false := by simp [ho]
        clear hc ho
        go_wp2
        go_round
        case rel => exact HR.out
        case measure => simpa [intOf] using hl
    · have hm0 : m = 0 := by omega
      subst hm0
      have HE := Lib.hid (pw_end hc hu.1 hu.2)
      clear hc
      go_wp2
      go_ret
      refine ⟨ret_int HE.out, ?_⟩
      repeat' first | (with_reducible first | apply zRf | assumption | apply zDn | apply zDr | apply zAl | apply zSt | refine zVi (by assumption) ?_ ?_) | go_size
def sy1 (a p : Int) : Bool := decide (pwM a ((p - 1) / 2) p = 1)
def syI (a p : Int) : Int := if pwM a ((p - 1) / 2) p = 0 then 0 else if pwM a ((p - 1) / 2) p = 1 then 1 else -1
def syS (a p : Int) : Int := if pwM a ((p - 1) / 2) p = p - 1 then -1 else pwM a ((p - 1) / 2) p
theorem syI_one (a p : Int) : (syI a p == 1) = sy1 a p := by
  unfold syI sy1
  generalize pwM a ((p - 1) / 2) p = x
  rw [Bool.eq_iff_iff]
  by_cases h : x = 0 <;> by_cases h' : x = 1 <;> simp [h, h']
theorem syS_one (a p : Int) (hp : 3 ≤ p) : (syS a p == 1) = sy1 a p := by
  unfold syS sy1
  generalize pwM a ((p - 1) / 2) p = x
  rw [Bool.eq_iff_iff]
  by_cases h : x = p - 1
  · simp [h]; omega
  · simp [h]
theorem symbol_any (a p : Int) (w : World) (hp : 2 ≤ p) (hp2 : p ≤ 1000000) : Calls Try.prog 79 #[.int .i64 a, .int .i64 p] w fun e w' => e = .returned (.int .i64 (syI a p)) ∧ Below w.heap.size w w' := by
  have T := fun W : World => Lib.hid (power_any a ((p - 1) / 2) p W (by omega) (by omega) hp hp2)
  unfold syI
  generalize pwM a ((p - 1) / 2) p = x at *
  by_cases h : x = 0
  · subst h
    rw [if_pos rfl]
    have tok1 : True := trivial
    go_enter Try.func79, Try.ntmps79
    go_wp2_with (have _t := tok1; go_at_call 81; (with_reducible refine (T _).out.mono ?_); rintro e w1 ⟨rfl, hb1⟩; clear tok1 _t)
    go_ret
    refine ⟨rfl, ?_⟩
    repeat' first | (with_reducible first | apply zRf | assumption | apply zDn | apply zDr | apply zAl | apply zSt | refine zVi (by assumption) ?_ ?_) | go_size
  · by_cases h' : x = 1
    · subst h'
      rw [if_neg h, if_pos rfl]
      have tok1 : True := trivial
      go_enter Try.func79, Try.ntmps79
      go_wp2_with (have _t := tok1; go_at_call 81; (with_reducible refine (T _).out.mono ?_); rintro e w1 ⟨rfl, hb1⟩; clear tok1 _t)
      go_ret
      refine ⟨rfl, ?_⟩
      repeat' first | (with_reducible first | apply zRf | assumption | apply zDn | apply zDr | apply zAl | apply zSt | refine zVi (by assumption) ?_ ?_) | go_size
    · rw [if_neg h, if_neg h']
      have tok1 : True := trivial
      go_enter Try.func79, Try.ntmps79
      go_wp2_with (have _t := tok1; go_at_call 81; (with_reducible refine (T _).out.mono ?_); rintro e w1 ⟨rfl, hb1⟩; clear tok1 _t)
      go_ret
      refine ⟨rfl, ?_⟩
      repeat' first | (with_reducible first | apply zRf | assumption | apply zDn | apply zDr | apply zAl | apply zSt | refine zVi (by assumption) ?_ ?_) | go_size
theorem mdSymbol_any (a p : Int) (w : World) (hp : 2 ≤ p) (hp2 : p ≤ 1000000) : Calls Try.prog 75 #[.int .i64 a, .int .i64 p] w fun e w' => e = .returned (.int .i64 (syS a p)) ∧ w = w' := by
  have T := fun W : World => Lib.hid (mdPower_any a ((p - 1) / 2) p W (by omega) (by omega) hp hp2)
  unfold syS
  generalize pwM a ((p - 1) / 2) p = x at *
  by_cases h : x = p - 1
  · rw [if_pos h]
    go_enter Try.func75, Try.ntmps75
    go_wp2_with (go_at_call 80; (with_reducible refine (T _).out.mono ?_); rintro e w' ⟨rfl, rfl⟩)
    go_ret
    exact ⟨rfl, rfl⟩
  · rw [if_neg h]
    go_enter Try.func75, Try.ntmps75
    go_wp2_with (go_at_call 80; (with_reducible refine (T _).out.mono ?_); rintro e w' ⟨rfl, rfl⟩)
    go_ret
    exact ⟨rfl, rfl⟩
end Go.Proofs.Ytegiddpakocodaa
