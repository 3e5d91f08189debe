/- Powers, depths, valuations, residues and primes: contracts of both sides. -/
import Derived.Test.YtegiddpakocodaaGreatNum
import Derived.Test.YtegiddpakocodaaGreatPln
import Derived.Test.YtegiddpakocodaaGreatDrA
namespace Go.Proofs.YtegiddpakocodaaGreat
open Go.RowKit
set_option linter.unusedVariables false
set_option maxHeartbeats 4000000
set_option linter.unusedSimpArgs false

def PowRel (a k : Int) (i o : Value) : Prop := ∃ j : Nat, (j : Int) ≤ k ∧ i = .int .i64 j ∧ o = .int .i64 (a ^ j)
def PowRelD (a k : Int) (i o : Value) : Prop := ∃ j : Nat, (j : Int) ≤ k ∧ i = .int .i64 (k - j) ∧ o = .int .i64 (a ^ j)
theorem pow_step {a k : Int} {j : Nat} {M : Int} (ha : 1 ≤ a) (hj : (j : Int) < k) (hM : a ^ k.toNat ≤ M) : 1 ≤ a ^ j ∧ a ^ j ≤ M ∧ a ^ j * a = a ^ (j + 1) ∧ a ^ (j + 1) ≤ M ∧ 1 ≤ a ^ (j + 1) :=
  ⟨pow_pos' ha j, by have := pow_mono' (p := a) ha (m := j) (n := k.toNat) (by omega); omega, (Int.pow_succ _ _).symm, by have := pow_mono' (p := a) ha (m := j + 1) (n := k.toNat) (by omega); omega, pow_pos' ha (j + 1)⟩
theorem intPower_any (a k : Int) (w : World) (ha : 1 ≤ a) (hk : 0 ≤ k) (hk2 : k ≤ 1000000) (hM : a ^ k.toNat ≤ 1000000000000000) :
    Calls Tryz.prog 62 #[.int .i64 a, .int .i64 k] w fun e w' => e = .returned (.int .i64 (a ^ k.toNat)) ∧ w = w' := by
  have HM := Lib.hid hM
  clear hM
  go_enter Tryz.func62, Tryz.ntmps62
  go_wp2
  go_loop [5, 7] (fun o i => PowRel a k i o) (fun _ i => (k - intOf i).toNat)
  case atStart => exact ⟨0, by omega, rfl, by simp⟩
  case round =>
    obtain ⟨j, hj, rfl, rfl⟩ := hrel
    by_cases hlt : (j : Int) < k
    · have hs := pow_step ha hlt HM.out
      have HE := Lib.hid hs.2.2.1
      have hs1 := hs.1
      have hs2 := hs.2.1
      have hs3 := hs.2.2.2.1
      have hs4 := hs.2.2.2.2
      rw [← HE.out] at hs3 hs4
      clear hs
      generalize hq : a ^ j = q at *
      have HQ := Lib.hid hq
      clear hq
      go_wp2
      go_round
      case rel => exact ⟨j + 1, by omega, by go_num, by rw [HE.out]⟩
      case measure => simp [intOf]; omega
    · have : (j : Int) = k := by omega
      subst this
      go_wp2
      go_ret
      exact ⟨by simp, rfl⟩
theorem loPower_any (a k : Int) (w : World) (ha : 1 ≤ a) (hk : 0 ≤ k) (hk2 : k ≤ 1000000) (hM : a ^ k.toNat ≤ 1000000000000000) :
    Calls Tryz.prog 43 #[.int .i64 a, .int .i64 k] w fun e w' => e = .returned (.int .i64 (a ^ k.toNat)) ∧ w = w' := by
  have HM := Lib.hid hM
  clear hM
  go_enter Tryz.func43, Tryz.ntmps43
  go_wp2
  go_loop [1, 5] (fun i o => PowRelD a k i o) (fun i _ => (intOf i).toNat)
  case atStart => exact ⟨0, by omega, by simp, by simp⟩
  case round =>
    obtain ⟨j, hj, rfl, rfl⟩ := hrel
    by_cases hlt : (j : Int) < k
    · have hs := pow_step ha hlt HM.out
      have HE := Lib.hid hs.2.2.1
      have hs1 := hs.1
      have hs2 := hs.2.1
      have hs3 := hs.2.2.2.1
      have hs4 := hs.2.2.2.2
      rw [← HE.out] at hs3 hs4
      clear hs
      generalize hq : a ^ j = q at *
      have HQ := Lib.hid hq
      clear hq
      go_wp2
      go_round
      case rel => exact ⟨j + 1, by omega, by go_num, by rw [HE.out]⟩
      case measure => simp [intOf]; omega
    · have : (j : Int) = k := by omega
      subst this
      go_wp2
      go_ret
      exact ⟨by simp, rfl⟩
def DpRel (p : Int) (s : Nat) (k n : Value) : Prop := ∃ j : Nat, k = .int .i64 j ∧ n = .int .i64 (p ^ (j + s)) ∧ p ^ j ≤ 1000000000
theorem depth_any (p : Int) (w : World) (hp : 2 ≤ p) (hp2 : p ≤ 1000) : Calls Tryz.prog 37 #[.int .i64 p] w fun e w' => e = .returned (.int .i64 (dp p : Int)) ∧ w = w' := by
  go_enter Tryz.func37, Tryz.ntmps37
  go_wp2
  go_loop [3, 4] (fun k n => DpRel p 1 k n) (fun _ n => (1000000001 - intOf n).toNat)
  case atStart => exact ⟨0, rfl, by simp [Int.pow_succ], by simp⟩
  case round =>
    obtain ⟨j, rfl, rfl, hb⟩ := hrel
    have hj := depth_lt hp hb
    have h1 := pow_pos' (p := p) (by omega) (j + 1)
    have HB := Lib.hid hb
    have HE := Lib.hid (Int.pow_succ p (j + 1))
    clear hb
    by_cases hlt : p ^ (j + 1) ≤ 1000000000
    · have hm := mul_bd (a := p ^ (j + 1)) (b := p) (A := 1000000000) (B := 1000) (by omega) (by omega)
      have hm2 : p ^ (j + 1) * 2 ≤ p ^ (j + 1) * p := Int.mul_le_mul_of_nonneg_left hp (by omega)
      have HL := Lib.hid hlt
      generalize hq : p ^ (j + 1) = q at *
      have HQ := Lib.hid hq
      clear hq
      go_wp2
      go_round
      case rel => exact ⟨j + 1, by go_num, by rw [HE.out], by rw [HQ.out]; exact HL.out⟩
      case measure => simp [intOf]; omega
    · have HD := Lib.hid (dp_eq hp HB.out (by omega))
      go_wp2
      go_ret
      exact ⟨by rw [HD.out]; rfl, rfl⟩
theorem loDepth_any (p : Int) (w : World) (hp : 2 ≤ p) (hp2 : p ≤ 1000) : Calls Tryz.prog 60 #[.int .i64 p] w fun e w' => e = .returned (.int .i64 (dp p : Int)) ∧ w = w' := by
  go_enter Tryz.func60, Tryz.ntmps60
  go_wp2
  go_loop [3, 4] (fun k n => DpRel p 0 k n) (fun _ n => (1000000001 - intOf n).toNat)
  case atStart => exact ⟨0, rfl, by simp, by simp⟩
  case round =>
    obtain ⟨j, rfl, rfl, hb⟩ := hrel
    have hj := depth_lt hp hb
    have h1 := pow_pos' (p := p) (by omega) j
    have HB := Lib.hid hb
    have HE := Lib.hid (Int.pow_succ p j)
    have hd : p ^ j ≤ 1000000000 / p ↔ p ^ j * p ≤ 1000000000 := Int.le_ediv_iff_mul_le (by omega)
    have hm := mul_bd (a := p ^ j) (b := p) (A := 1000000000) (B := 1000) (by omega) (by omega)
    have hm2 : p ^ j * 2 ≤ p ^ j * p := Int.mul_le_mul_of_nonneg_left hp (by omega)
    clear hb
    simp only [Nat.add_zero]
    by_cases hlt : p ^ j ≤ 1000000000 / p
    · have hL2 := hd.1 hlt
      have HL := Lib.hid hL2
      clear hd
      generalize hq : p ^ j = q at *
      have HQ := Lib.hid hq
      clear hq
      go_wp2
      go_round
      case rel => exact ⟨j + 1, by go_num, by rw [Nat.add_zero, HE.out], by rw [HE.out]; exact HL.out⟩
      case measure => simp [intOf]; omega
    · have HD := Lib.hid (dp_eq hp HB.out (by rw [HE.out]; have := mt hd.2 hlt; omega))
      clear hd
      go_wp2
      go_ret
      exact ⟨by rw [HD.out]; rfl, rfl⟩
def VlRel (a p : Int) (x n : Value) : Prop := ∃ y : Int, ∃ j : Nat, x = .int .i64 y ∧ n = .int .i64 j ∧ y ≠ 0 ∧ y.natAbs ≤ a.natAbs ∧ a = y * p ^ j ∧ j + y.natAbs ≤ a.natAbs
theorem vl_round {a p y : Int} {j : Nat} (hp : 2 ≤ p) (hy : y ≠ 0) (h : a = y * p ^ j) (hb : j + y.natAbs ≤ a.natAbs) (hz : y.tmod p = 0) :
    y.tdiv p ≠ 0 ∧ (y.tdiv p).natAbs < y.natAbs ∧ a = y.tdiv p * p ^ (j + 1) ∧ (j + 1) + (y.tdiv p).natAbs ≤ a.natAbs := by
  have h1 : y % p = 0 := Int.emod_eq_zero_of_dvd (Int.dvd_of_tmod_eq_zero hz)
  have h2 : y.tdiv p = y / p := Int.tdiv_eq_ediv_of_dvd (Int.dvd_of_tmod_eq_zero hz)
  have h3 := natAbs_ediv_lt hy hp h1
  rw [h2]
  refine ⟨h3.2, h3.1, ?_, by omega⟩
  rw [Int.pow_succ, Int.mul_comm (p ^ j) p, ← Int.mul_assoc, Int.ediv_mul_cancel (Int.dvd_of_emod_eq_zero h1), ← h]
theorem vl_stop {a p y : Int} {j : Nat} (hp : 2 ≤ p) (hy : y ≠ 0) (ha : a ≠ 0) (h : a = y * p ^ j) (hz : y.tmod p ≠ 0) : vl a p = j :=
  vl_eq hp ha h (fun e => hz (Int.tmod_eq_zero_of_dvd (Int.dvd_of_emod_eq_zero e)))
theorem valuation_any (a p : Int) (w : World) (hp : 2 ≤ p) (hp2 : p ≤ 9223372036854775807) (ha : a ≠ 0) (h1 : -9223372036854775807 ≤ a) (h2 : a ≤ 9223372036854775807) :
    Calls Tryz.prog 63 #[.int .i64 a, .int .i64 p] w fun e w' => e = .returned (.int .i64 (vl a p : Int)) ∧ w = w' := by
  have HA := Lib.hid ha
  clear ha
  go_enter Tryz.func63, Tryz.ntmps63
  go_wp2
  go_loop [0, 5] (fun x n => VlRel a p x n) (fun x _ => (intOf x).natAbs)
  case atStart => exact ⟨a, 0, rfl, rfl, HA.out, Nat.le_refl _, by simp, by omega⟩
  case round =>
    obtain ⟨y, j, rfl, rfl, hy, hya, he, hja⟩ := hrel
    by_cases hz : y.tmod p = 0
    · have hr := vl_round hp hy he hja hz
      have HR := Lib.hid hr
      have hr2 := hr.2.1
      have hz' : (y.tmod p == 0) = true := by simp [hz]
      have hq := tdiv_bd y p
      clear hr hz he
      go_wp2
      go_round
      case rel => exact ⟨y.tdiv p, j + 1, rfl, by go_num, HR.out.1, by omega, HR.out.2.2.1, HR.out.2.2.2⟩
      case measure => simpa [intOf] using hr2
    · have HV := Lib.hid (vl_stop hp hy HA.out he hz)
      have hz' : (y.tmod p == 0) = false := by simp [hz]
      clear hz he
      go_wp2
      go_ret
      exact ⟨by rw [HV.out]; rfl, rfl⟩
theorem mdValuation_any (a p : Int) (w : World) (hp : 2 ≤ p) (hp2 : p ≤ 9223372036854775807) (ha : a ≠ 0) (h1 : -9223372036854775807 ≤ a) (h2 : a ≤ 9223372036854775807) :
    Calls Tryz.prog 74 #[.int .i64 a, .int .i64 p] w fun e w' => e = .returned (.int .i64 (vl a p : Int)) ∧ w = w' := by
  have HA := Lib.hid ha
  clear ha
  go_enter Tryz.func74, Tryz.ntmps74
  go_wp2
  go_loop [0, 5] (fun x n => VlRel a p x n) (fun x _ => (intOf x).natAbs)
  case atStart => exact ⟨a, 0, rfl, rfl, HA.out, Nat.le_refl _, by simp, by omega⟩
  case round =>
    obtain ⟨y, j, rfl, rfl, hy, hya, he, hja⟩ := hrel
    by_cases hz : y.tmod p = 0
    · have hr := vl_round hp hy he hja hz
      have HR := Lib.hid hr
      have hr2 := hr.2.1
      have hz' : (y.tmod p == 0) = true := by simp [hz]
      have hq := tdiv_bd y p
      clear hr hz he
      go_wp2
      go_round
      case rel => exact ⟨y.tdiv p, j + 1, rfl, by go_num, HR.out.1, by omega, HR.out.2.2.1, HR.out.2.2.2⟩
      case measure => simpa [intOf] using hr2
    · have HV := Lib.hid (vl_stop hp hy HA.out he hz)
      have hz' : (y.tmod p == 0) = false := by simp [hz]
      clear hz he
      go_wp2
      go_ret
      exact ⟨by rw [HV.out]; rfl, rfl⟩
theorem modulo_any (a m : Int) (w : World) (hm : 0 < m) (hm2 : m ≤ 1000000000000) : Calls Tryz.prog 61 #[.int .i64 a, .int .i64 m] w fun e w' => e = .returned (.int .i64 (a % m)) ∧ w = w' := by
  have h := tmod_bd' a m hm
  have HT := Lib.hid (tmod_twice a m hm)
  have ht : (a.tmod m + m) % m = (a.tmod m + m).tmod m := (Int.tmod_eq_emod_of_nonneg (by omega)).symm
  have HT2 := Lib.hid ht
  clear ht
  go_enter Tryz.func61, Tryz.ntmps61
  go_wp2
  go_ret
  exact ⟨ret_int (by first | exact HT.out | (rw [HT2.out]; exact HT.out)), rfl⟩
theorem mdMod_any (a m : Int) (w : World) (hm : 0 < m) (hm2 : m ≤ 1000000000000) : Calls Tryz.prog 42 #[.int .i64 a, .int .i64 m] w fun e w' => e = .returned (.int .i64 (a % m)) ∧ w = w' := by
  have h := tmod_bd' a m hm
  have HT := Lib.hid (tmod_twice a m hm)
  have ht : (a.tmod m + m) % m = (a.tmod m + m).tmod m := (Int.tmod_eq_emod_of_nonneg (by omega)).symm
  have HT2 := Lib.hid ht
  clear ht
  go_enter Tryz.func42, Tryz.ntmps42
  go_wp2
  go_ret
  exact ⟨ret_int (by first | exact HT.out | (rw [HT2.out]; exact HT.out)), rfl⟩
def PrRel (n : Int) (x : Value) : Prop := ∃ d : Int, x = .int .i64 d ∧ 2 ≤ d ∧ d ≤ n + 1 ∧ ∀ e : Int, 2 ≤ e → e < d → n % e ≠ 0
theorem isPrime_any (n : Int) (w : World) (hn : 2 ≤ n) (hn2 : n ≤ 1000000) : Calls Tryz.prog 47 #[.int .i64 n] w fun e w' => e = .returned (.bool (primeB n)) ∧ w = w' := by
  go_enter Tryz.func47, Tryz.ntmps47
  go_wp2
  go_loop [3] (fun x => PrRel n x) (fun x => (n + 1 - intOf x).toNat)
  case atStart => exact ⟨2, rfl, by omega, by omega, fun e h1 h2 => by omega⟩
  case round =>
    obtain ⟨d, rfl, h1, h2, h3⟩ := hrel
    have m := mul_bd (a := d) (b := d) (A := 1000001) (B := 1000001) (by omega) (by omega)
    have m2 : d * 2 ≤ d * d := Int.mul_le_mul_of_nonneg_left h1 (by omega)
    have H3 := Lib.hid h3
    clear h3
    by_cases hle : d * d ≤ n
    · by_cases hz : n % d = 0
      · have HP := Lib.hid (prime_no hn h1 hle hz)
        have hz' : (n % d == 0) = true := by simp [hz]
        clear hz
        go_wp2
        go_ret
        exact ⟨by rw [HP.out]; rfl, rfl⟩
      · have HZ := Lib.hid hz
        have hz' : (n % d == 0) = false := by simp [hz]
        clear hz
        go_wp2
        go_round
        case rel => exact ⟨d + 1, rfl, by omega, by omega, prime_step H3.out HZ.out⟩
        case measure => simp [intOf]; omega
    · have HP := Lib.hid (prime_yes hn h1 H3.out hle)
      go_wp2
      go_ret
      exact ⟨by rw [HP.out]; first | rfl | (simp; done) | (simp; omega), rfl⟩
def mdPB (n : Int) : Bool := inB n 2 997 && primeB n
theorem mdPrime_any (n : Int) (w : World) : Calls Tryz.prog 59 #[.int .i64 n] w fun e w' => e = .returned (.bool (mdPB n)) ∧ w = w' := by
  cases hin : inB n 2 997
  · rw [show mdPB n = false by simp [mdPB, hin]]
    go_enter Tryz.func59, Tryz.ntmps59
    go_wp2_with (first | (go_at_call 40; refine (l1In_any _ _ _ _).mono ?_; rintro e w' ⟨rfl, rfl⟩))
    go_ret
    exact ⟨rfl, rfl⟩
  · have hb := inB_iff.1 hin
    have hn : 2 ≤ n := hb.1
    rw [show mdPB n = primeB n by simp [mdPB, hin]]
    go_enter Tryz.func59, Tryz.ntmps59
    go_wp2_with (first | (go_at_call 40; refine (l1In_any _ _ _ _).mono ?_; rintro e w' ⟨rfl, rfl⟩))
    go_loop [3] (fun x => PrRel n x) (fun x => (n + 1 - intOf x).toNat)
    case atStart => exact ⟨2, rfl, by omega, by omega, fun e h1 h2 => by omega⟩
    case round =>
      obtain ⟨d, rfl, h1, h2, h3⟩ := hrel
      have m := mul_bd (a := d) (b := d) (A := 1000001) (B := 1000001) (by omega) (by omega)
      have m2 : d * 2 ≤ d * d := Int.mul_le_mul_of_nonneg_left h1 (by omega)
      have H3 := Lib.hid h3
      clear h3
      by_cases hle : d * d ≤ n
      · by_cases hz : n % d = 0
        · have HP := Lib.hid (prime_no hn h1 hle hz)
          have hz' : (n % d == 0) = true := by simp [hz]
          clear hz
          go_wp2
          go_ret
          exact ⟨by rw [HP.out]; rfl, rfl⟩
        · have HZ := Lib.hid hz
          have hz' : (n % d == 0) = false := by simp [hz]
          clear hz
          go_wp2
          go_round
          case rel => exact ⟨d + 1, rfl, by omega, by omega, prime_step H3.out HZ.out⟩
          case measure => simp [intOf]; omega
      · have HP := Lib.hid (prime_yes hn h1 H3.out hle)
        go_wp2
        go_ret
        exact ⟨by rw [HP.out]; rfl, rfl⟩
end Go.Proofs.YtegiddpakocodaaGreat
