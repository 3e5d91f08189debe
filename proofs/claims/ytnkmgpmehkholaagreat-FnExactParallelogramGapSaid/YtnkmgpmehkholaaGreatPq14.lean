/- Lemmas and contracts of functions. No condition. -/
import Derived.Test.YtnkmgpmehkholaaGreatPq3
import Derived.Test.YtnkmgpmehkholaaGreatPq12
namespace Go.Proofs.YtnkmgpmehkholaaGreat
open Go.RowKit
set_option linter.unusedVariables false
set_option linter.unusedSimpArgs false

def bitsZ (x z : Int) : Int := most (bl (ab x) : Nat) (bl (ab z) : Nat)
theorem bitsZ_bd {x z : Int} (h : ln x ≤ 80 ∧ ln z ≤ 80) : 0 ≤ bitsZ x z ∧ bitsZ x z ≤ 1120 := by
  have h1 := bl_len (ab x)
  have h2 := bl_len (ab z)
  have h3 := h.1
  have h4 := h.2
  unfold ln at h3 h4
  unfold bitsZ
  rw [most_eq]
  omega
def hLo (C b p : Int) : Int := down (most 0 (3 * (b - 1) - C) * 4096) p
def hHi (C b p : Int) : Int := -(down (-((3 * b + C) * 4096)) p)
theorem down_mono {a b p : Int} (hp : 0 < p) (h : a ≤ b) : down a p ≤ down b p := Int.ediv_le_ediv hp h
theorem down_up {a p : Int} (hp : 0 < p) : down a p ≤ -(down (-a) p) := by
  unfold down
  have h1 := Int.ediv_mul_le a (b := p) (by omega)
  have h2 := Int.ediv_mul_le (-a) (b := p) (by omega)
  rcases Int.lt_or_le (-((-a) / p)) (a / p) with h | h
  · exfalso
    have h3 : 1 ≤ a / p + (-a) / p := by omega
    have h4 := Int.mul_le_mul_of_nonneg_right h3 (show 0 ≤ p by omega)
    rw [Int.add_mul] at h4
    omega
  · exact h
theorem hLo_hi {C b p : Int} (hp : 0 < p) (hC : 0 ≤ C) (hb : 0 ≤ b) : hLo C b p ≤ hHi C b p := by
  unfold hLo hHi
  exact Int.le_trans (down_mono hp (show most 0 (3 * (b - 1) - C) * 4096 ≤ (3 * b + C) * 4096 by rw [most_eq]; omega)) (down_up hp)
theorem hLo_bd {C b p : Int} (hp : 0 < p) (hC : 0 ≤ C ∧ C ≤ 64) (hb : 0 ≤ b ∧ b ≤ 1120) : 0 ≤ hLo C b p ∧ hLo C b p ≤ 14000000 := by
  unfold hLo down
  have h0 : 0 ≤ most 0 (3 * (b - 1) - C) * 4096 ∧ most 0 (3 * (b - 1) - C) * 4096 ≤ 14000000 := by rw [most_eq]; omega
  exact ⟨Int.ediv_nonneg h0.1 (by omega), Int.le_trans (Int.ediv_le_self _ h0.1) h0.2⟩
theorem hHi_bd {C b p : Int} (hp : 0 < p) (hC : 0 ≤ C ∧ C ≤ 64) (hb : 0 ≤ b ∧ b ≤ 1120) : 0 ≤ hHi C b p ∧ hHi C b p ≤ 14100000 := by
  have h1 := down_in (a := -((3 * b + C) * 4096)) (b := p) (M := 14100000) hp (by omega)
  have h2 := hLo_hi hp hC.1 hb.1
  have h3 := hLo_bd hp hC hb
  unfold hHi at *
  omega
def htOk : RSt → Bool
  | .bad => false
  | _ => true
def htLo (C : Int) (n : Nat) : RSt → Int
  | .at x z => hLo C (bitsZ x z) (4 ^ n * 3)
  | _ => 0
def htHi (C : Int) (n : Nat) : RSt → Int
  | .at x z => hHi C (bitsZ x z) (4 ^ n * 3)
  | _ => 0
theorem p43 (n : Nat) : (0 : Int) < 4 ^ n * 3 := by have : (0 : Int) < 4 ^ n := Int.pow_pos (by omega); omega
theorem ht_bd {C : Int} {n : Nat} {s : RSt} (hC : 0 ≤ C ∧ C ≤ 64) (hs : okS s = true) : 0 ≤ htLo C n s ∧ htLo C n s ≤ htHi C n s ∧ htHi C n s ≤ 14100000 := by
  cases s with
  | inf => simp [htLo, htHi]
  | bad => simp [htLo, htHi]
  | «at» x z =>
    have hr := raB_bd hs
    have hb := bitsZ_bd ⟨hr.1, hr.2.1⟩
    exact ⟨(hLo_bd (p43 n) hC hb).1, hLo_hi (p43 n) hC.1 hb.1, (hHi_bd (p43 n) hC hb).2⟩
/-- the common part of the first intervals -/
def bLo (C : Int) (st : Nat → RSt) : Nat → Int
  | 0 => htLo C 0 (st 0)
  | k + 1 => max (bLo C st k) (htLo C (k + 1) (st (k + 1)))
def bHi (C : Int) (st : Nat → RSt) : Nat → Int
  | 0 => htHi C 0 (st 0)
  | k + 1 => min (bHi C st k) (htHi C (k + 1) (st (k + 1)))
def bN (st : Nat → RSt) : Nat → Nat → Nat
  | 0, n => n
  | f + 1, n => if htOk (st (n + 1)) = true then bN st f (n + 1) else n
def bestN (st : Nat → RSt) : Nat := bN st 5 0
theorem bN_ge (st : Nat → RSt) : ∀ f n, n ≤ bN st f n
  | 0, n => Nat.le_refl _
  | f + 1, n => by
    unfold bN; split
    · have := bN_ge st f (n + 1); omega
    · exact Nat.le_refl _
theorem bN_go {st : Nat → RSt} {n : Nat} (hn : n < 5) (h : htOk (st (n + 1)) = true) : bN st (5 - n) n = bN st (5 - (n + 1)) (n + 1) := by
  obtain ⟨f, hf⟩ : ∃ f, 5 - n = f + 1 := ⟨5 - (n + 1), by omega⟩
  rw [hf, show 5 - (n + 1) = f by omega, bN, if_pos h]
theorem bN_stop {st : Nat → RSt} {n : Nat} (h : htOk (st (n + 1)) = false) : bN st (5 - n) n = n := by
  by_cases hn : n < 5
  · obtain ⟨f, hf⟩ : ∃ f, 5 - n = f + 1 := ⟨5 - (n + 1), by omega⟩
    rw [hf, bN, if_neg (by simp [h])]
  · rw [show 5 - n = 0 by omega]; rfl
theorem bN_end {st : Nat → RSt} {n : Nat} (hn : ¬ n < 5) : bN st (5 - n) n = n := by rw [show 5 - n = 0 by omega]; rfl
theorem b_bd {C : Int} {st : Nat → RSt} (hC : 0 ≤ C ∧ C ≤ 64) (hs : ∀ k, okS (st k) = true) : ∀ k, (0 ≤ bLo C st k ∧ bLo C st k ≤ 14100000) ∧ (0 ≤ bHi C st k ∧ bHi C st k ≤ 14100000)
  | 0 => by have := ht_bd (n := 0) hC (hs 0); simp only [bLo, bHi]; omega
  | k + 1 => by
    have h1 := b_bd hC hs k
    have h2 := ht_bd (n := k + 1) hC (hs (k + 1))
    simp only [bLo, bHi]; omega
theorem valid_b {C : Int} {st : Nat → RSt} (hC : 0 ≤ C ∧ C ≤ 64) (hs : ∀ k, okS (st k) = true) (k : Nat) : validB (bLo C st k) (bHi C st k) = decide (bLo C st k ≤ bHi C st k) := by
  have := b_bd hC hs k
  unfold validB
  rw [show decide (-409600000 ≤ bLo C st k) = true by simp; omega, show decide (bHi C st k ≤ 409600000) = true by simp; omega]
  simp
theorem b_anti {C : Int} {st : Nat → RSt} {n : Nat} : ∀ m, n ≤ m → bLo C st m ≤ bHi C st m → bLo C st n ≤ bHi C st n := fun m hm h => by
  obtain ⟨d, rfl⟩ : ∃ d, m = n + d := ⟨m - n, by omega⟩
  induction d with
  | zero => exact h
  | succ d ih =>
    apply ih (by omega)
    rw [← Nat.add_assoc] at h
    simp only [bLo, bHi] at h
    omega
theorem valid_ht {C : Int} {n : Nat} {s : RSt} (hC : 0 ≤ C ∧ C ≤ 64) (hs : okS s = true) : validB (htLo C n s) (htHi C n s) = true := by
  have := ht_bd (n := n) hC hs
  exact validB_mk this.2.1 (by omega) (by omega)
end Go.Proofs.YtnkmgpmehkholaaGreat
