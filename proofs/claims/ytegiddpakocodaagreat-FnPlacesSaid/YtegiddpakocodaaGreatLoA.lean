/- Parts: Powers modulo a prime, symbols, squares modulo powers: contracts of both sides, Squares modulo powers of primes: contracts of both sides, Squares modulo powers of primes: the reference; quartics and pairs: contracts of both sides, Quartics and pairs: contracts of both sides, Pairs and depths of the reference; products of residues, Products of residues: the program's loop over its arguments. -/
import Derived.Test.YtegiddpakocodaaGreatLo
namespace Go.Proofs.YtegiddpakocodaaGreat
section
open Go.RowKit
set_option linter.unusedVariables false
set_option maxHeartbeats 4000000
set_option linter.unusedSimpArgs false
def PwRel (a n p : Int) (x o b : Value) : Prop := ∃ m u v : Int, x = .int .i64 m ∧ o = .int .i64 u ∧ b = .int .i64 v ∧ 0 ≤ m ∧ m ≤ 1000000000 ∧ (0 ≤ u ∧ u < p) ∧ (0 ≤ v ∧ v < p) ∧ Cg p (u * v ^ m.toNat) (a ^ n.toNat)
theorem pwr_odd {a n p m u v : Int} (hp : 2 ≤ p) (hm : 0 < m) (hm2 : m ≤ 1000000000) (hu : 0 ≤ u ∧ u < p) (hv : 0 ≤ v ∧ v < p) (h : Cg p (u * v ^ m.toNat) (a ^ n.toNat)) (ho : m % 2 = 1) :
    PwRel a n p (.int .i64 (m / 2)) (.int .i64 ((u * v).tmod p)) (.int .i64 ((v * v).tmod p)) := by
  have e1 : (u * v).tmod p = u * v % p := Int.tmod_eq_emod_of_nonneg (Int.mul_nonneg hu.1 hv.1)
  have e2 : (v * v).tmod p = v * v % p := Int.tmod_eq_emod_of_nonneg (Int.mul_nonneg hv.1 hv.1)
  rw [e1, e2]
  exact ⟨m / 2, _, _, rfl, rfl, rfl, by omega, by omega, ⟨Int.emod_nonneg _ (by omega), Int.emod_lt_of_pos _ (by omega)⟩, ⟨Int.emod_nonneg _ (by omega), Int.emod_lt_of_pos _ (by omega)⟩, (pw_odd (by omega) ho).trans h⟩
theorem pwr_even {a n p m u v : Int} (hp : 2 ≤ p) (hm : 0 < m) (hm2 : m ≤ 1000000000) (hu : 0 ≤ u ∧ u < p) (hv : 0 ≤ v ∧ v < p) (h : Cg p (u * v ^ m.toNat) (a ^ n.toNat)) (ho : m % 2 ≠ 1) :
    PwRel a n p (.int .i64 (m / 2)) (.int .i64 u) (.int .i64 ((v * v).tmod p)) := by
  have e2 : (v * v).tmod p = v * v % p := Int.tmod_eq_emod_of_nonneg (Int.mul_nonneg hv.1 hv.1)
  rw [e2]
  exact ⟨m / 2, _, _, rfl, rfl, rfl, by omega, by omega, hu, ⟨Int.emod_nonneg _ (by omega), Int.emod_lt_of_pos _ (by omega)⟩, (pw_even (by omega) (by omega)).trans h⟩
theorem tdiv2_lt {m : Int} (h : 0 < m) : (m / 2).toNat < m.toNat := by omega
theorem one_tmod {p : Int} (hp : 2 ≤ p) : (1 : Int).tmod p = 1 := by
  rw [Int.tmod_eq_emod_of_nonneg (by omega)]; exact Int.emod_eq_of_lt (by omega) (by omega)
theorem mdPower_any (a n p : Int) (w : World) (hn : 0 ≤ n) (hn2 : n ≤ 1000000000) (hp : 2 ≤ p) (hp2 : p ≤ 1000000) : Calls Tryz.prog 77 #[.int .i64 a, .int .i64 n, .int .i64 p] w fun e w' => e = .returned (.int .i64 (pwM a n p)) ∧ w = w' := by
  have b0 := Lib.hid (show (0 ≤ a % p ∧ a % p < p) from ⟨Int.emod_nonneg _ (by omega), Int.emod_lt_of_pos _ (by omega)⟩)
  go_enter Tryz.func77, Tryz.ntmps77
  go_wp2_with (first | (go_at_call 42; refine (mdMod_any _ _ _ (by omega) (by omega)).mono ?_; rintro e w' ⟨rfl, rfl⟩))
  go_loop [1, 7, 8] (fun x o b => PwRel a n p x o b) (fun x _ _ => (intOf x).toNat)
  case atStart => exact ⟨n, 1, a % p, rfl, rfl, rfl, hn, hn2, ⟨by omega, by omega⟩, b0.out, pw_start1 a p n⟩
  case round =>
    obtain ⟨m, u, v, rfl, rfl, rfl, hm, hm2, hu, hv, hc⟩ := hrel
    have m1 := mul_bd (a := u) (b := v) (A := 1000000) (B := 1000000) (by omega) (by omega)
    have m2 := mul_bd (a := v) (b := v) (A := 1000000) (B := 1000000) (by omega) (by omega)
    by_cases hz : 0 < m
    · have hl := tdiv2_lt hz
      by_cases ho : m % 2 = 1
      · have HR := Lib.hid (pwr_odd hp hz hm2 hu hv hc ho)
        have ho' : (m % 2 == 1) = true := by simp [ho]
        clear hc ho
        go_wp2
        go_round
        case rel => exact HR.out
        case measure => simpa [intOf] using hl
      · have HR := Lib.hid (pwr_even hp hz hm2 hu hv hc ho)
        have ho' : (m % 2 == 1) = false := by simp [ho]
        clear hc ho
        go_wp2
        go_round
        case rel => exact HR.out
        case measure => simpa [intOf] using hl
    · have hm0 : m = 0 := by omega
      subst hm0
      have HE := Lib.hid (pw_end hc hu.1 hu.2)
      have HT := Lib.hid (Int.emod_eq_of_lt hu.1 hu.2)
      clear hc
      go_wp2
      go_ret
      exact ⟨ret_int (by rw [HT.out]; exact HE.out), rfl⟩
theorem power_any (a n p : Int) (w : World) (hn : 0 ≤ n) (hn2 : n ≤ 1000000000) (hp : 2 ≤ p) (hp2 : p ≤ 1000000) : Calls Tryz.prog 76 #[.int .i64 a, .int .i64 n, .int .i64 p] w fun e w' => e = .returned (.int .i64 (pwM a n p)) ∧ Below w.heap.size w w' := by
  have b0 := Lib.hid (show (0 ≤ a % p ∧ a % p < p) from ⟨Int.emod_nonneg _ (by omega), Int.emod_lt_of_pos _ (by omega)⟩)
  have h1 := one_tmod hp
  have h1' : (1 : Int) % p = 1 := Int.emod_eq_of_lt (by omega) (by omega)
  have hp0 : p ≠ 0 := by omega
  have hp1 : p ≠ -1 := by omega
  go_enter Tryz.func76, Tryz.ntmps76
  go_wp2_with fail
  refine wp_drawn' (n := 6) (by kernel_rfl) (by kernel_rfl) (by kernel_rfl) ?_
  apply Exists.intro
  refine ⟨?_, ?_⟩
  · intro W hW
    simp only [List.take_succ_cons, List.take_zero]
    repeat (go_big_quiet_step ((first | (go_at_call 61; exact draw_of_same _ (modulo_any _ _ _ (by omega) (by omega))))))
    exact wpQuiet_nil rfl
  intro w1 hb1
  simp only [List.drop_succ_cons, List.drop_zero, Act.put, List.setIfInBounds_toArray, List.set_cons_succ, List.set_cons_zero]
  have hz1 := hb1.size
  (try simp only [World.size_alloc, World.size_setCell, World.size_drew, World.size_drewN'] at hz1)
  go_wp2_with fail
  go_loop [1, 7, 8] (fun x o b => PwRel a n p x o b) (fun x _ _ => (intOf x).toNat)
  case atStart => exact ⟨n, 1, a % p, rfl, by simp [h1], rfl, hn, hn2, ⟨by omega, by omega⟩, b0.out, pw_start1 a p n⟩
  case round =>
    clear h1 h1'
    obtain ⟨m, u, v, rfl, rfl, rfl, hm, hm2, hu, hv, hc⟩ := hrel
    have m1 := mul_bd (a := u) (b := v) (A := 1000000) (B := 1000000) (by omega) (by omega)
    have m2 := mul_bd (a := v) (b := v) (A := 1000000) (B := 1000000) (by omega) (by omega)
    by_cases hz : 0 < m
    · have hl := tdiv2_lt hz
      by_cases ho : m % 2 = 1
      · have HR := Lib.hid (pwr_odd hp hz hm2 hu hv hc ho)
        have ho' : (m % 2 == 1) = true := by simp [ho]
        clear hc ho
        go_wp2
        go_round
        case rel => exact HR.out
        case measure => simpa [intOf] using hl
      · have HR := Lib.hid (pwr_even hp hz hm2 hu hv hc ho)
        have ho' : (m % 2 == 1) = false := by simp [ho]
        clear hc ho
        go_wp2
        go_round
        case rel => exact HR.out
        case measure => simpa [intOf] using hl
    · have hm0 : m = 0 := by omega
      subst hm0
      have HE := Lib.hid (pw_end hc hu.1 hu.2)
      clear hc
      go_wp2
      go_ret
      refine ⟨ret_int HE.out, ?_⟩
      repeat' first | (with_reducible first | apply zRf | assumption | apply zDn | apply zDr | apply zAl | apply zSt | refine zVi (by assumption) ?_ ?_) | go_size
def sy1 (a p : Int) : Bool := decide (pwM a ((p - 1) / 2) p = 1)
def syI (a p : Int) : Int := if pwM a ((p - 1) / 2) p = 0 then 0 else if pwM a ((p - 1) / 2) p = 1 then 1 else -1
def syS (a p : Int) : Int := if pwM a ((p - 1) / 2) p = p - 1 then -1 else pwM a ((p - 1) / 2) p
theorem syI_one (a p : Int) : (syI a p == 1) = sy1 a p := by
  unfold syI sy1
  generalize pwM a ((p - 1) / 2) p = x
  rw [Bool.eq_iff_iff]
  by_cases h : x = 0 <;> by_cases h' : x = 1 <;> simp [h, h']
theorem syS_one (a p : Int) (hp : 3 ≤ p) : (syS a p == 1) = sy1 a p := by
  unfold syS sy1
  generalize pwM a ((p - 1) / 2) p = x
  rw [Bool.eq_iff_iff]
  by_cases h : x = p - 1
  · simp [h]; omega
  · simp [h]
theorem symbol_any (a p : Int) (w : World) (hp : 2 ≤ p) (hp2 : p ≤ 1000000) : Calls Tryz.prog 64 #[.int .i64 a, .int .i64 p] w fun e w' => e = .returned (.int .i64 (syI a p)) ∧ Below w.heap.size w w' := by
  have T := fun W : World => Lib.hid (power_any a ((p - 1) / 2) p W (by omega) (by omega) hp hp2)
  unfold syI
  generalize pwM a ((p - 1) / 2) p = x at *
  by_cases h : x = 0
  · subst h
    rw [if_pos rfl]
    have tok1 : True := trivial
    go_enter Tryz.func64, Tryz.ntmps64
    go_wp2_with (have _t := tok1; go_at_call 76; (with_reducible refine (T _).out.mono ?_); rintro e w1 ⟨rfl, hb1⟩; clear tok1 _t)
    go_ret
    refine ⟨rfl, ?_⟩
    repeat' first | (with_reducible first | apply zRf | assumption | apply zDn | apply zDr | apply zAl | apply zSt | refine zVi (by assumption) ?_ ?_) | go_size
  · by_cases h' : x = 1
    · subst h'
      rw [if_neg h, if_pos rfl]
      have tok1 : True := trivial
      go_enter Tryz.func64, Tryz.ntmps64
      go_wp2_with (have _t := tok1; go_at_call 76; (with_reducible refine (T _).out.mono ?_); rintro e w1 ⟨rfl, hb1⟩; clear tok1 _t)
      go_ret
      refine ⟨rfl, ?_⟩
      repeat' first | (with_reducible first | apply zRf | assumption | apply zDn | apply zDr | apply zAl | apply zSt | refine zVi (by assumption) ?_ ?_) | go_size
    · rw [if_neg h, if_neg h']
      have tok1 : True := trivial
      go_enter Tryz.func64, Tryz.ntmps64
      go_wp2_with (have _t := tok1; go_at_call 76; (with_reducible refine (T _).out.mono ?_); rintro e w1 ⟨rfl, hb1⟩; clear tok1 _t)
      go_ret
      refine ⟨rfl, ?_⟩
      repeat' first | (with_reducible first | apply zRf | assumption | apply zDn | apply zDr | apply zAl | apply zSt | refine zVi (by assumption) ?_ ?_) | go_size
theorem mdSymbol_any (a p : Int) (w : World) (hp : 2 ≤ p) (hp2 : p ≤ 1000000) : Calls Tryz.prog 66 #[.int .i64 a, .int .i64 p] w fun e w' => e = .returned (.int .i64 (syS a p)) ∧ w = w' := by
  have T := fun W : World => Lib.hid (mdPower_any a ((p - 1) / 2) p W (by omega) (by omega) hp hp2)
  unfold syS
  generalize pwM a ((p - 1) / 2) p = x at *
  by_cases h : x = p - 1
  · rw [if_pos h]
    go_enter Tryz.func66, Tryz.ntmps66
    go_wp2_with (go_at_call 77; (with_reducible refine (T _).out.mono ?_); rintro e w' ⟨rfl, rfl⟩)
    go_ret
    exact ⟨rfl, rfl⟩
  · rw [if_neg h]
    go_enter Tryz.func66, Tryz.ntmps66
    go_wp2_with (go_at_call 77; (with_reducible refine (T _).out.mono ?_); rintro e w' ⟨rfl, rfl⟩)
    go_ret
    exact ⟨rfl, rfl⟩
end
section
open Go.RowKit
set_option linter.unusedVariables false
set_option maxHeartbeats 4000000
set_option linter.unusedSimpArgs false
theorem sy1_sym (a p : Int) : sy1 a p = symB a p := rfl
theorem sq_zero (p : Int) (k : Nat) : sqLo 0 p k = true := by simp [sqLo]
theorem sq_odd {r p : Int} {k : Nat} (h0 : r ≠ 0) (h : vl r p % 2 = 1) : sqLo r p k = false := by simp [sqLo, h0, h]
theorem sq_big {r p : Int} {k : Nat} (h0 : r ≠ 0) (h : vl r p % 2 ≠ 1) (hp : 2 < p) : sqLo r p k = symB (r / p ^ vl r p) p := by simp [sqLo, h0, h, hp]
theorem sq_two {r : Int} {k : Nat} (h0 : r ≠ 0) (h : vl r 2 % 2 ≠ 1) : sqLo r 2 k = decide ((r / 2 ^ vl r 2) % 2 ^ (min 3 (k - vl r 2)) = 1) := by simp [sqLo, h0, h]
theorem squareModulo_any (n p : Int) (k : Nat) (w : World) (hp : 2 ≤ p) (hp2 : p ≤ 1000) (hk1 : 1 ≤ k) (hk2 : k ≤ 1000) (hM : p ^ k ≤ 1000000000) :
    Calls Tryz.prog 38 #[.int .i64 n, .int .i64 p, .int .i64 k] w fun e w' => e = .returned (.bool (sqLo (n % p ^ k) p k)) ∧ Below w.heap.size w w' := by
  have hq1 := pow_pos' (p := p) (by omega) k
  have T1 := fun W : World => Lib.hid (intPower_any p k W (by omega) (by omega) (by omega) (by rw [Int.toNat_natCast]; omega))
  rw [Int.toNat_natCast] at T1
  have T2 := fun W : World => Lib.hid (modulo_any n (p ^ k) W (by omega) (by omega))
  have hr1 : 0 ≤ n % p ^ k := Int.emod_nonneg _ (by omega)
  have hr2 : n % p ^ k < p ^ k := Int.emod_lt_of_pos _ (by omega)
  generalize hr : n % p ^ k = r at *
  clear hr
  by_cases h0 : r = 0
  · subst h0
    rw [sq_zero]
    clear hr1 hr2
    generalize p ^ k = q at *
    go_enter Tryz.func38, Tryz.ntmps38
    go_wp2_with (first | (go_at_call 62; (with_reducible refine (T1 _).out.mono ?_); rintro e w' ⟨rfl, rfl⟩) | (go_at_call 61; (with_reducible refine (T2 _).out.mono ?_); rintro e w' ⟨rfl, rfl⟩))
    go_ret
    refine ⟨rfl, ?_⟩
    repeat' first | (with_reducible first | apply zRf | assumption | apply zDn | apply zDr | apply zAl | apply zSt | refine zVi (by assumption) ?_ ?_) | go_size
  · have hv := vl_lt hp (by omega) hr2
    have hd := vl_div hp h0
    have T4 := fun W : World => Lib.hid (valuation_any r p W hp (by omega) h0 (by omega) (by omega))
    have hqv := pow_mono' (p := p) (by omega) (Nat.le_of_lt hv)
    have hqv1 := pow_pos' (p := p) (by omega) (vl r p)
    have T5 := fun W : World => Lib.hid (intPower_any p (vl r p) W (by omega) (by omega) (by omega) (by rw [Int.toNat_natCast]; omega))
    rw [Int.toNat_natCast] at T5
    have hu : r.tdiv (p ^ vl r p) = r / p ^ vl r p := Int.tdiv_eq_ediv_of_nonneg hr1
    have hu0 : 0 ≤ r / p ^ vl r p := Int.ediv_nonneg hr1 (by omega)
    have hu1 : r / p ^ vl r p ≤ r := Int.ediv_le_self _ hr1
    have h0' : (r == 0) = false := by simp [h0]
    have hvz : ((vl r p : Nat) : Int) < k := by omega
    have hv0 : (0 : Int) ≤ ((vl r p : Nat) : Int) := Int.natCast_nonneg _
    by_cases ho : vl r p % 2 = 1
    · rw [sq_odd h0 ho]
      have ho' : ((vl r p : Int) % 2 == 1) = true := by simp; omega
      clear hd hu hu0 hu1 h0 ho hv
      generalize p ^ vl r p = q2 at *
      generalize p ^ k = q at *
      generalize ((vl r p : Nat) : Int) = v at *
      go_enter Tryz.func38, Tryz.ntmps38
      go_wp2_with (first | (go_at_call 62; (with_reducible refine (T1 _).out.mono ?_); rintro e w' ⟨rfl, rfl⟩) | (go_at_call 61; (with_reducible refine (T2 _).out.mono ?_); rintro e w' ⟨rfl, rfl⟩) | (go_at_call 63; (with_reducible refine (T4 _).out.mono ?_); rintro e w' ⟨rfl, rfl⟩) | (go_at_call 62; (with_reducible refine (T5 _).out.mono ?_); rintro e w' ⟨rfl, rfl⟩))
      go_ret
      refine ⟨rfl, ?_⟩
      repeat' first | (with_reducible first | apply zRf | assumption | apply zDn | apply zDr | apply zAl | apply zSt | refine zVi (by assumption) ?_ ?_) | go_size
    · have ho' : ((vl r p : Int) % 2 == 1) = false := by simp; omega
      by_cases h2 : 2 < p
      · rw [sq_big h0 ho h2, ← sy1_sym, ← syI_one]
        have T6 := fun W : World => Lib.hid (symbol_any (r / p ^ vl r p) p W hp (by omega))
        clear hd hu h0 ho hv
        generalize p ^ vl r p = q2 at *
        generalize p ^ k = q at *
        generalize ((vl r p : Nat) : Int) = v at *
        generalize syI (r / q2) p = s at *
        have tok1 : True := trivial
        go_enter Tryz.func38, Tryz.ntmps38
        go_wp2_with (first | (go_at_call 62; (with_reducible refine (T1 _).out.mono ?_); rintro e w' ⟨rfl, rfl⟩) | (go_at_call 61; (with_reducible refine (T2 _).out.mono ?_); rintro e w' ⟨rfl, rfl⟩) | (go_at_call 63; (with_reducible refine (T4 _).out.mono ?_); rintro e w' ⟨rfl, rfl⟩) | (go_at_call 62; (with_reducible refine (T5 _).out.mono ?_); rintro e w' ⟨rfl, rfl⟩) | (have _t := tok1; go_at_call 64; (with_reducible refine (T6 _).out.mono ?_); rintro e w1 ⟨rfl, hb1⟩; clear tok1 _t))
        go_ret
        refine ⟨rfl, ?_⟩
        repeat' first | (with_reducible first | apply zRf | assumption | apply zDn | apply zDr | apply zAl | apply zSt | refine zVi (by assumption) ?_ ?_) | go_size
      · have hp' : p = 2 := by omega
        subst hp'
        rw [sq_two h0 ho]
        have hodd : r / (2 ^ vl r 2) % 2 = 1 := by have := hd.2; omega
        have hmin : (k - vl r 2 = 1 ∧ min 3 (k - vl r 2) = 1) ∨ (k - vl r 2 = 2 ∧ min 3 (k - vl r 2) = 2) ∨ (2 < k - vl r 2 ∧ min 3 (k - vl r 2) = 3) := by omega
        clear hd hu h0 ho
        rcases hmin with ⟨hm, e⟩ | ⟨hm, e⟩ | ⟨hm, e⟩
        · rw [e, show (decide (r / (2 ^ vl r 2) % 2 ^ 1 = 1)) = true by simp [hodd]]
          have hk' : (k : Int) - (vl r 2 : Nat) = 1 := by omega
          have hk'' : (k : Int) = (vl r 2 : Nat) + 1 := by omega
          clear e hm hv hodd
          generalize (2 : Int) ^ vl r 2 = q2 at *
          generalize (2 : Int) ^ k = q at *
          generalize ((vl r 2 : Nat) : Int) = v at *
          generalize (k : Int) = kk at *
          subst hk''
          go_enter Tryz.func38, Tryz.ntmps38
          go_wp2_with (first | (go_at_call 62; (with_reducible refine (T1 _).out.mono ?_); rintro e w' ⟨rfl, rfl⟩) | (go_at_call 61; (with_reducible refine (T2 _).out.mono ?_); rintro e w' ⟨rfl, rfl⟩) | (go_at_call 63; (with_reducible refine (T4 _).out.mono ?_); rintro e w' ⟨rfl, rfl⟩) | (go_at_call 62; (with_reducible refine (T5 _).out.mono ?_); rintro e w' ⟨rfl, rfl⟩))
          go_ret
          refine ⟨rfl, ?_⟩
          repeat' first | (with_reducible first | apply zRf | assumption | apply zDn | apply zDr | apply zAl | apply zSt | refine zVi (by assumption) ?_ ?_) | go_size
        · rw [e]
          have hk'' : (k : Int) = (vl r 2 : Nat) + 2 := by omega
          clear e hm hv hodd
          generalize (2 : Int) ^ vl r 2 = q2 at *
          generalize (2 : Int) ^ k = q at *
          generalize ((vl r 2 : Nat) : Int) = v at *
          generalize (k : Int) = kk at *
          subst hk''
          go_enter Tryz.func38, Tryz.ntmps38
          go_wp2_with (first | (go_at_call 62; (with_reducible refine (T1 _).out.mono ?_); rintro e w' ⟨rfl, rfl⟩) | (go_at_call 61; (with_reducible refine (T2 _).out.mono ?_); rintro e w' ⟨rfl, rfl⟩) | (go_at_call 63; (with_reducible refine (T4 _).out.mono ?_); rintro e w' ⟨rfl, rfl⟩) | (go_at_call 62; (with_reducible refine (T5 _).out.mono ?_); rintro e w' ⟨rfl, rfl⟩))
          go_ret
          refine ⟨ret_bool (by rw [Bool.eq_iff_iff]; simp), ?_⟩
          repeat' first | (with_reducible first | apply zRf | assumption | apply zDn | apply zDr | apply zAl | apply zSt | refine zVi (by assumption) ?_ ?_) | go_size
        · rw [e]
          obtain ⟨m, hm3, hkm⟩ : ∃ m : Int, 3 ≤ m ∧ (k : Int) = (vl r 2 : Nat) + m := ⟨(k : Int) - (vl r 2 : Nat), by omega, by omega⟩
          have hkk : (k : Int) ≤ 1000 := by omega
          have hm1 : (m == 1) = false := by simp; omega
          have hm2 : (m == 2) = false := by simp; omega
          clear e hm hv hodd
          generalize (2 : Int) ^ vl r 2 = q2 at *
          generalize (2 : Int) ^ k = q at *
          generalize ((vl r 2 : Nat) : Int) = v at *
          generalize (k : Int) = kk at *
          subst hkm
          have hs : v + m - v = m := by omega
          have hn1 : (v + m - v == 1) = false := by rw [hs]; exact hm1
          have hn2 : (v + m - v == 2) = false := by rw [hs]; exact hm2
          go_enter Tryz.func38, Tryz.ntmps38
          go_wp2_with (first | (go_at_call 62; (with_reducible refine (T1 _).out.mono ?_); rintro e w' ⟨rfl, rfl⟩) | (go_at_call 61; (with_reducible refine (T2 _).out.mono ?_); rintro e w' ⟨rfl, rfl⟩) | (go_at_call 63; (with_reducible refine (T4 _).out.mono ?_); rintro e w' ⟨rfl, rfl⟩) | (go_at_call 62; (with_reducible refine (T5 _).out.mono ?_); rintro e w' ⟨rfl, rfl⟩))
          go_ret
          refine ⟨ret_bool (by rw [Bool.eq_iff_iff]; simp), ?_⟩
          repeat' first | (with_reducible first | apply zRf | assumption | apply zDn | apply zDr | apply zAl | apply zSt | refine zVi (by assumption) ?_ ?_) | go_size
end
section
open Go.RowKit
set_option linter.unusedVariables false
set_option maxHeartbeats 4000000
set_option linter.unusedSimpArgs false
theorem oft_min {r p : Int} {k : Nat} (h : r ≠ 0) : least (k : Int) (vl r p : Nat) = (oft r p k : Nat) := by
  rw [least_eq, oft, if_neg h]; omega
theorem loOften_any (r p : Int) (k : Nat) (w : World) (hp : 2 ≤ p) (hp2 : p ≤ 1000) (h1 : -9223372036854775807 ≤ r) (h2 : r ≤ 9223372036854775807) :
    Calls Tryz.prog 65 #[.int .i64 r, .int .i64 p, .int .i64 k] w fun e w' => e = .returned (.int .i64 (oft r p k : Nat)) ∧ w = w' := by
  by_cases h0 : r = 0
  · subst h0
    rw [oft_zero]
    generalize (k : Int) = kk
    go_enter Tryz.func65, Tryz.ntmps65
    go_wp2
    go_ret
    exact ⟨rfl, rfl⟩
  · have T1 := fun W : World => Lib.hid (mdValuation_any r p W hp (by omega) h0 h1 h2)
    have T2 := fun W : World => Lib.hid (l1Least_any (k : Int) (vl r p : Nat) W)
    rw [oft_min h0] at T2
    have h0' : (r == 0) = false := by simp [h0]
    generalize ((oft r p k : Nat) : Int) = x at *
    generalize ((vl r p : Nat) : Int) = v at *
    generalize (k : Int) = kk at *
    go_enter Tryz.func65, Tryz.ntmps65
    go_wp2_with (first | (go_at_call 74; (with_reducible refine (T1 _).out.mono ?_); rintro e w' ⟨rfl, rfl⟩) | (go_at_call 67; (with_reducible refine (T2 _).out.mono ?_); rintro e w' ⟨rfl, rfl⟩))
    go_ret
    exact ⟨rfl, rfl⟩
theorem loSquare_any (r p : Int) (k : Nat) (w : World) (hp : 2 ≤ p) (hp2 : p ≤ 1000) (hk1 : 1 ≤ k) (hk2 : k ≤ 1000) (hM : p ^ k ≤ 1000000000) (hr1 : 0 ≤ r) (hr2 : r < p ^ k) :
    Calls Tryz.prog 41 #[.int .i64 r, .int .i64 p, .int .i64 k] w fun e w' => e = .returned (.bool (sqLo r p k)) ∧ w = w' := by
  have T1 := fun W : World => Lib.hid (loOften_any r p k W hp hp2 (by omega) (by omega))
  by_cases h0 : r = 0
  · subst h0
    rw [sq_zero]
    rw [oft_zero] at T1
    clear hr1 hr2 hM
    generalize (k : Int) = kk at *
    go_enter Tryz.func41, Tryz.ntmps41
    go_wp2_with (go_at_call 65; (with_reducible refine (T1 _).out.mono ?_); rintro e w' ⟨rfl, rfl⟩)
    go_ret
    exact ⟨rfl, rfl⟩
  · have hv := vl_lt hp (by omega) hr2
    have hd := vl_div hp h0
    rw [oft_pos hp (by omega) hr2] at T1
    have hqv := pow_mono' (p := p) (by omega) (Nat.le_of_lt hv)
    have hqv1 := pow_pos' (p := p) (by omega) (vl r p)
    have T5 := fun W : World => Lib.hid (loPower_any p (vl r p) W (by omega) (by omega) (by omega) (by rw [Int.toNat_natCast]; omega))
    rw [Int.toNat_natCast] at T5
    have hu0 : 0 ≤ r / p ^ vl r p := Int.ediv_nonneg hr1 (by omega)
    have hu1 : r / p ^ vl r p ≤ r := Int.ediv_le_self _ hr1
    have hv0 : (0 : Int) ≤ ((vl r p : Nat) : Int) := Int.natCast_nonneg _
    have hne : (((vl r p : Nat) : Int) == k) = false := by simp; omega
    have hvk : ((vl r p : Nat) : Int) < k := by omega
    have hkk : (k : Int) ≤ 1000 := by omega
    by_cases ho : vl r p % 2 = 1
    · rw [sq_odd h0 ho]
      have ho' : ((vl r p : Int) % 2 != 0) = true := by simp; omega
      clear hd hu0 hu1 h0 ho hv
      generalize p ^ vl r p = q2 at *
      generalize p ^ k = q at *
      generalize ((vl r p : Nat) : Int) = v at *
      generalize (k : Int) = kk at *
      go_enter Tryz.func41, Tryz.ntmps41
      go_wp2_with (go_at_call 65; (with_reducible refine (T1 _).out.mono ?_); rintro e w' ⟨rfl, rfl⟩)
      go_ret
      exact ⟨rfl, rfl⟩
    · have ho' : ((vl r p : Int) % 2 != 0) = false := by simp; omega
      by_cases h2 : 2 < p
      · rw [sq_big h0 ho h2, ← sy1_sym, ← syS_one _ _ (by omega)]
        have T6 := fun W : World => Lib.hid (mdSymbol_any (r / p ^ vl r p) p W hp (by omega))
        clear hd h0 ho hv
        generalize p ^ vl r p = q2 at *
        generalize p ^ k = q at *
        generalize ((vl r p : Nat) : Int) = v at *
        generalize (k : Int) = kk at *
        generalize syS (r / q2) p = s at *
        go_enter Tryz.func41, Tryz.ntmps41
        go_wp2_with (first | (go_at_call 65; (with_reducible refine (T1 _).out.mono ?_); rintro e w' ⟨rfl, rfl⟩) | (go_at_call 43; (with_reducible refine (T5 _).out.mono ?_); rintro e w' ⟨rfl, rfl⟩) | (go_at_call 66; (with_reducible refine (T6 _).out.mono ?_); rintro e w' ⟨rfl, rfl⟩))
        go_ret
        exact ⟨rfl, rfl⟩
      · have hp' : p = 2 := by omega
        subst hp'
        rw [sq_two h0 ho]
        have hmn : least 3 ((k : Int) - (vl r 2 : Nat)) = ((min 3 (k - vl r 2) : Nat) : Int) := by rw [least_eq]; omega
        have hm3 : min 3 (k - vl r 2) ≤ 3 := by omega
        have T7 := fun W : World => Lib.hid (l1Least_any 3 ((k : Int) - (vl r 2 : Nat)) W)
        rw [hmn] at T7
        have hp1 := pow_pos' (p := 2) (by omega) (min 3 (k - vl r 2))
        have hp3 := pow_mono' (p := 2) (by omega) hm3
        have T8 := fun W : World => Lib.hid (loPower_any 2 (min 3 (k - vl r 2) : Nat) W (by omega) (by omega) (by omega) (by rw [Int.toNat_natCast]; omega))
        rw [Int.toNat_natCast] at T8
        clear hd h0 ho hv hmn hm3
        generalize (2 : Int) ^ (min 3 (k - vl r 2)) = q3 at *
        generalize ((min 3 (k - vl r 2) : Nat) : Int) = m at *
        generalize (2 : Int) ^ vl r 2 = q2 at *
        generalize (2 : Int) ^ k = q at *
        generalize ((vl r 2 : Nat) : Int) = v at *
        generalize (k : Int) = kk at *
        go_enter Tryz.func41, Tryz.ntmps41
        go_wp2_with (first | (go_at_call 65; (with_reducible refine (T1 _).out.mono ?_); rintro e w' ⟨rfl, rfl⟩) | (go_at_call 43; (with_reducible refine (T5 _).out.mono ?_); rintro e w' ⟨rfl, rfl⟩) | (go_at_call 67; (with_reducible refine (T7 _).out.mono ?_); rintro e w' ⟨rfl, rfl⟩) | (go_at_call 43; (with_reducible refine (T8 _).out.mono ?_); rintro e w' ⟨rfl, rfl⟩))
        go_ret
        exact ⟨ret_bool (by rw [Bool.eq_iff_iff]; simp), rfl⟩
end
section
open Go.RowKit
set_option linter.unusedVariables false
set_option maxHeartbeats 4000000
set_option linter.unusedSimpArgs false
def qaB (d a c : Int) : Bool := inB d (-100000) 100000 && (inB a (-100000) 100000 && (inB c (-100000) 100000 && (decide (d ≠ 0) && decide (c ≠ 0))))
theorem qaB_cases (d a c : Int) : (inB d (-100000) 100000 = false ∧ qaB d a c = false) ∨ (inB d (-100000) 100000 = true ∧ ((inB a (-100000) 100000 = false ∧ qaB d a c = false) ∨ (inB a (-100000) 100000 = true ∧ ((inB c (-100000) 100000 = false ∧ qaB d a c = false) ∨ (inB c (-100000) 100000 = true ∧
    ((d = 0 ∧ qaB d a c = false) ∨ (d ≠ 0 ∧ ((c = 0 ∧ qaB d a c = false) ∨ (c ≠ 0 ∧ qaB d a c = true))))))))) := by
  unfold qaB
  cases inB d (-100000) 100000 <;> cases inB a (-100000) 100000 <;> cases inB c (-100000) 100000 <;> by_cases h : d = 0 <;> by_cases h' : c = 0 <;> simp [h, h']
theorem qaB_bd {d a c : Int} (h : qaB d a c = true) : (-100000 ≤ d ∧ d ≤ 100000) ∧ (-100000 ≤ a ∧ a ≤ 100000) ∧ (-100000 ≤ c ∧ c ≤ 100000) ∧ d ≠ 0 ∧ c ≠ 0 := by
  simp [qaB, inB] at h; omega
theorem loGood_any (d a c : Int) (w : World) : Calls Tryz.prog 24 #[.agg #[.int .i64 d, .int .i64 a, .int .i64 c]] w fun e w' => e = .returned (.bool (qaB d a c)) ∧ Below w.heap.size w w' := by
  have T1 := fun W : World => Lib.hid (l1In_any d (-100000) 100000 W)
  have T2 := fun W : World => Lib.hid (l1In_any a (-100000) 100000 W)
  have T3 := fun W : World => Lib.hid (l1In_any c (-100000) 100000 W)
  rcases qaB_cases d a c with ⟨h1, h⟩ | ⟨h1, ⟨h2, h⟩ | ⟨h2, ⟨h3, h⟩ | ⟨h3, ⟨h4, h⟩ | ⟨h4, ⟨h5, h⟩ | ⟨h5, h⟩⟩⟩⟩⟩
  all_goals
    rw [h]
    clear h
    try rw [h1] at T1
    try rw [h2] at T2
    try rw [h3] at T3
    try clear h1
    try clear h2
    try clear h3
    try (have h4' : (d != 0) = true := by simp [h4])
    try (have h5' : (c != 0) = true := by simp [h5])
    try subst h4
    try subst h5
    go_enter Tryz.func24, Tryz.ntmps24
    go_wp2_with (first | (go_at_call 40; (with_reducible refine ((T1 _).out).mono ?_); rintro e w' ⟨rfl, rfl⟩) | (go_at_call 40; (with_reducible refine ((T2 _).out).mono ?_); rintro e w' ⟨rfl, rfl⟩) | (go_at_call 40; (with_reducible refine ((T3 _).out).mono ?_); rintro e w' ⟨rfl, rfl⟩))
    go_ret
    refine ⟨rfl, ?_⟩
    repeat' first | (with_reducible first | apply zRf | assumption | apply zDn | apply zDr | apply zAl | apply zSt | refine zVi (by assumption) ?_ ?_) | go_size
theorem isQuartic_any (d a c : Int) (w : World) : Calls Tryz.prog 22 #[.agg #[.int .i64 d, .int .i64 a, .int .i64 c]] w fun e w' => e = .returned (.bool (qaB d a c)) ∧ Below w.heap.size w w' := by
  have T1 := fun W : World => Lib.hid (inside_any d (-100000) 100000 W)
  have T2 := fun W : World => Lib.hid (inside_any a (-100000) 100000 W)
  have T3 := fun W : World => Lib.hid (inside_any c (-100000) 100000 W)
  rcases qaB_cases d a c with ⟨h1, h⟩ | ⟨h1, ⟨h2, h⟩ | ⟨h2, ⟨h3, h⟩ | ⟨h3, ⟨h4, h⟩ | ⟨h4, ⟨h5, h⟩ | ⟨h5, h⟩⟩⟩⟩⟩
  all_goals
    rw [h]
    clear h
    try rw [h1] at T1
    try rw [h2] at T2
    try rw [h3] at T3
    try clear h1
    try clear h2
    try clear h3
    try (have h4' : (d != 0) = true := by simp [h4])
    try (have h5' : (c != 0) = true := by simp [h5])
    try subst h4
    try subst h5
    go_enter Tryz.func22, Tryz.ntmps22
    go_wp2_with (first | (go_at_call 36; (with_reducible refine ((T1 _).out).mono ?_); rintro e w' ⟨rfl, rfl⟩) | (go_at_call 36; (with_reducible refine ((T2 _).out).mono ?_); rintro e w' ⟨rfl, rfl⟩) | (go_at_call 36; (with_reducible refine ((T3 _).out).mono ?_); rintro e w' ⟨rfl, rfl⟩))
    go_ret
    refine ⟨rfl, ?_⟩
    repeat' first | (with_reducible first | apply zRf | assumption | apply zDn | apply zDr | apply zAl | apply zSt | refine zVi (by assumption) ?_ ?_) | go_size
def paB (m e p n : Int) : Bool := (decide (e = 1) && inB m 0 (n - 1)) || (decide (m = 1) && (inB e 0 (n - 1) && decide (e % p = 0)))
theorem paB_cases (m e p n : Int) : (e = 1 ∧ inB m 0 (n - 1) = true ∧ paB m e p n = true) ∨ (((e = 1 ∧ inB m 0 (n - 1) = false) ∨ e ≠ 1) ∧ ((m ≠ 1 ∧ paB m e p n = false) ∨ (m = 1 ∧ ((inB e 0 (n - 1) = false ∧ paB m e p n = false) ∨ (inB e 0 (n - 1) = true ∧ paB m e p n = decide (e % p = 0)))))) := by
  unfold paB
  cases inB m 0 (n - 1) <;> cases inB e 0 (n - 1) <;> by_cases h : e = 1 <;> by_cases h' : m = 1 <;> simp [h, h']
theorem pa_even {e p : Int} (hp : 2 ≤ p) (h : 0 ≤ e) : (e.tmod p == 0) = decide (e % p = 0) := by
  rw [Int.tmod_eq_emod_of_nonneg h, Bool.eq_iff_iff]; simp
end
section
open Go.RowKit
set_option linter.unusedVariables false
set_option maxHeartbeats 4000000
set_option linter.unusedSimpArgs false
def deB (p k : Int) : Bool := mdPB p && inB k 1 (dp p)
theorem loDepthOf_any (p k : Int) (w : World) : Calls Tryz.prog 39 #[.int .i64 p, .int .i64 k] w fun r w' => r = .returned (.bool (deB p k)) ∧ w = w' := by
  have T0 := fun W : World => Lib.hid (mdPrime_any p W)
  cases h : mdPB p
  · rw [h] at T0
    rw [show deB p k = false by simp [deB, h]]
    clear h
    go_enter Tryz.func39, Tryz.ntmps39
    go_wp2_with (go_at_call 59; (with_reducible refine (T0 _).out.mono ?_); rintro e w' ⟨rfl, rfl⟩)
    go_ret
    exact ⟨rfl, rfl⟩
  · have hb : 2 ≤ p ∧ p ≤ 997 := by simp [mdPB, inB] at h; omega
    rw [h] at T0
    rw [show deB p k = inB k 1 (dp p) by simp [deB, h]]
    have T1 := fun W : World => Lib.hid (loDepth_any p W hb.1 (by omega))
    have T2 := fun W : World => Lib.hid (l1In_any k 1 (dp p) W)
    clear h
    generalize inB k 1 (dp p) = x at *
    generalize ((dp p : Nat) : Int) = d at *
    go_enter Tryz.func39, Tryz.ntmps39
    go_wp2_with (first | (go_at_call 59; (with_reducible refine (T0 _).out.mono ?_); rintro e w' ⟨rfl, rfl⟩) | (go_at_call 60; (with_reducible refine (T1 _).out.mono ?_); rintro e w' ⟨rfl, rfl⟩) | (go_at_call 40; (with_reducible refine (T2 _).out.mono ?_); rintro e w' ⟨rfl, rfl⟩))
    go_ret
    exact ⟨rfl, rfl⟩
end
section
open Go.RowKit
set_option linter.unusedVariables false
set_option maxHeartbeats 4000000
set_option linter.unusedSimpArgs false
def TmRel (zs : List Int) (n : Int) (o i : Value) : Prop := ∃ k : Nat, k ≤ zs.length ∧ i = .int .i64 k ∧ o = .int .i64 (prM (zs.take k) n)
theorem prM_nil {n : Int} (h : 2 ≤ n) : prM [] n = 1 := by unfold prM; simp only [List.foldl]; exact Int.emod_eq_of_lt (by omega) (by omega)
theorem times_any (b off c : Nat) (zs : List Int) (n : Int) (w : World) (hn : 2 ≤ n) (hn2 : n ≤ 1000000000) (hbig : zs.length ≤ 1000000) (hc : ∀ j, j < zs.length → w.cell? ⟨b, off + j, none⟩ = some (.int .i64 (zs.getD j 0))) :
    Calls Tryz.prog 96 #[.int .i64 n, .slice (some ⟨b, off, none⟩) zs.length c] w fun e w' => e = .returned (.int .i64 (prM zs n)) ∧ w = w' := by
  have h1 := one_tmod hn
  have h1' : (1 : Int) % n = 1 := Int.emod_eq_of_lt (by omega) (by omega)
  have HC := Lib.hid hc
  have HN := Lib.hid (prM_nil hn)
  clear hc
  go_enter Tryz.func96, Tryz.ntmps96
  go_wp2
  go_loop [5, 12] (fun o i => TmRel zs n o i) (fun _ i => zs.length - (intOf i).toNat)
  case atStart => exact ⟨0, Nat.zero_le _, rfl, by rw [List.take_zero, HN.out]⟩
  case round =>
    obtain ⟨k, hk, rfl, rfl⟩ := hrel
    by_cases hlt : k < zs.length
    · have hcell := HC.out k hlt
      have hzk : zs.getD k 0 = zs[k] := by simp [List.getD, hlt]
      have HP := Lib.hid (prM_take zs n k hlt)
      have hb := prM_bd (zs.take k) (show 0 < n by omega)
      have hm1 : 0 ≤ zs[k] % n := Int.emod_nonneg _ (by omega)
      have hm2 : zs[k] % n < n := Int.emod_lt_of_pos _ (by omega)
      have m := mul_bd (a := prM (zs.take k) n) (b := zs[k] % n) (A := 1000000000) (B := 1000000000) (by omega) (by omega)
      have hnn : 0 ≤ prM (zs.take k) n * (zs[k] % n) := Int.mul_nonneg hb.1 hm1
      have T := fun W : World => Lib.hid (modulo_any zs[k] n W (by omega) (by omega))
      rw [hzk] at hcell
      clear hzk
      generalize prM (zs.take k) n = o at *
      generalize zs[k] = z at *
      generalize z % n = r at *
      go_wp2_with (go_at_call 61; (with_reducible refine (T _).out.mono ?_); rintro e w' ⟨rfl, rfl⟩)
      go_round
      case rel => exact ⟨k + 1, by omega, by go_num, by first | rw [HP.out] | (rw [HP.out, Int.tmod_eq_emod_of_nonneg hnn])⟩
      case measure => simp [intOf]; omega
    · have : k = zs.length := by omega
      subst this
      rw [List.take_length]
      go_wp2
      go_ret
      exact ⟨rfl, rfl⟩
end
end Go.Proofs.YtegiddpakocodaaGreat
