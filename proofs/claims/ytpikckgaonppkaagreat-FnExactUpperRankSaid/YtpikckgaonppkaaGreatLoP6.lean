/- Plain words: the primes that divide a number, as both texts find them; numbers put into an increasing list. No program in sight. -/
import Derived.Test.YtpikckgaonppkaaGreatLoPlain2
namespace Go.Proofs.YtpikckgaonppkaaGreat
open Go.RowKit
set_option linter.unusedVariables false
set_option linter.unusedSimpArgs false
def msP (n p : Int) : Nat := if 1 < n then (n + 1 - p).toNat + 1 else 0
/-- what is left of n behind all divisions by q -/
def strip (n q : Int) : Int := n / q ^ vl n q
theorem strip_le {n q : Int} (hn : 1 ≤ n) (hq : 2 ≤ q) : 1 ≤ strip n q ∧ strip n q ≤ n := by
  unfold strip
  have h := (vl_div hq (show n ≠ 0 by omega)).1
  have hp := pow_pos' (p := q) (by omega) (vl n q)
  have h1 : n / q ^ vl n q ≤ n := Int.ediv_le_self _ (by omega)
  refine ⟨?_, h1⟩
  rcases Int.lt_or_le (n / q ^ vl n q) 1 with h2 | h2
  · have : n / q ^ vl n q * q ^ vl n q ≤ 0 := Int.mul_nonpos_of_nonpos_of_nonneg (by omega) (by omega)
    omega
  · exact h2
theorem prW_dec {n m p : Int} (h : 1 < n ∧ 2 ≤ p) (h2 : ¬ n < p * p) (hm : m ≤ n) : msP m (p + 1) < msP n p := by
  have h3 : p * 2 ≤ p * p := Int.mul_le_mul_of_nonneg_left h.2 (by omega)
  unfold msP
  rw [if_pos h.1]
  split <;> omega
def prW (n p : Int) : List Int :=
  if h : 1 < n ∧ 2 ≤ p then
    if h2 : n < p * p then [n]
    else if n % p = 0 then p :: prW (strip n p) (p + 1) else prW n (p + 1)
  else []
  termination_by msP n p
  decreasing_by
    · exact prW_dec h h2 (strip_le (by omega) h.2).2
    · exact prW_dec h h2 (by omega)
/-- the number that a round divides by -/
def prQ (n p : Int) : Int := if n < p * p then n else p
theorem prW_none {n p : Int} (h : ¬ 1 < n) : prW n p = [] := by rw [prW, dif_neg (fun q => h q.1)]
theorem vl_self {n : Int} (h : 2 ≤ n) : vl n n = 1 := vl_eq (u := 1) (n := 1) h (by omega) (by rw [Int.pow_succ, Int.pow_zero]; omega) (by rw [Int.emod_eq_of_lt (by omega) (by omega)]; omega)
theorem strip_self {n : Int} (h : 2 ≤ n) : strip n n = 1 := by
  unfold strip
  rw [vl_self h, Int.pow_succ, Int.pow_zero, Int.one_mul]; exact Int.ediv_self (by omega)
theorem prQ_bd {n p : Int} (h : 1 < n) (hp : 2 ≤ p) : 2 ≤ prQ n p ∧ prQ n p ≤ n := by
  unfold prQ
  split
  · omega
  · have : p * 2 ≤ p * p := Int.mul_le_mul_of_nonneg_left hp (by omega)
    omega
theorem prW_hit {n p : Int} (h : 1 < n) (hp : 2 ≤ p) (hz : n % prQ n p = 0) : prW n p = prQ n p :: prW (strip n (prQ n p)) (prQ n p + 1) := by
  unfold prQ at hz ⊢
  rw [prW, dif_pos ⟨h, hp⟩]
  by_cases h2 : n < p * p
  · rw [dif_pos h2, if_pos h2, strip_self (by omega), prW_none (by omega)]
  · rw [if_neg h2] at hz
    rw [dif_neg h2, if_neg h2, if_pos hz]
theorem prW_miss {n p : Int} (h : 1 < n) (hp : 2 ≤ p) (hz : n % prQ n p ≠ 0) : prW n p = prW n (prQ n p + 1) := by
  unfold prQ at hz ⊢
  by_cases h2 : n < p * p
  · rw [if_pos h2, Int.emod_self] at hz; exact (hz rfl).elim
  · rw [if_neg h2] at hz
    rw [prW, dif_pos ⟨h, hp⟩, dif_neg h2, if_neg h2, if_neg hz]
theorem strip_miss {n q : Int} (hn : 1 ≤ n) (hq : 2 ≤ q) (hz : n % q ≠ 0) : strip n q = n := by
  unfold strip
  rw [vl_eq (u := n) (n := 0) hq (by omega) (by rw [Int.pow_zero]; omega) hz, Int.pow_zero]; exact Int.ediv_one _
/-- a round: what comes, and what is left -/
theorem prW_round {n p : Int} (h : 1 < n) (hp : 2 ≤ p) : prW n p = (if n % prQ n p = 0 then [prQ n p] else []) ++ prW (strip n (prQ n p)) (prQ n p + 1) := by
  by_cases hz : n % prQ n p = 0
  · rw [if_pos hz, prW_hit h hp hz]; rfl
  · rw [if_neg hz, strip_miss (by omega) (prQ_bd h hp).1 hz, ← prW_miss h hp hz]; rfl
/-- the round's measure -/
theorem prW_less {n p : Int} (h : 1 < n) (hp : 2 ≤ p) : msP (strip n (prQ n p)) (prQ n p + 1) < msP n p := by
  by_cases h2 : n < p * p
  · unfold prQ
    rw [if_pos h2, strip_self (by omega)]
    unfold msP
    rw [if_neg (by omega), if_pos h]; omega
  · unfold prQ
    rw [if_neg h2]
    exact prW_dec ⟨h, hp⟩ h2 (strip_le (by omega) hp).2
theorem prW_len : ∀ (f : Nat) (n p : Int), msP n p ≤ f → (prW n p).length ≤ f
  | 0, n, p, h => by
    unfold msP at h
    rw [prW_none (by intro q; rw [if_pos q] at h; omega)]; simp
  | f + 1, n, p, h => by
    by_cases hn : 1 < n ∧ 2 ≤ p
    · have := prW_less hn.1 hn.2
      have := prW_len f (strip n (prQ n p)) (prQ n p + 1) (by omega)
      rw [prW_round hn.1 hn.2, List.length_append]
      split <;> simp <;> omega
    · rw [prW, dif_neg hn]; simp
theorem prW_bd : ∀ (f : Nat) (n p : Int), msP n p ≤ f → 1 ≤ n → ∀ x ∈ prW n p, 2 ≤ x ∧ x ≤ n
  | 0, n, p, h, h1, x, hx => by
    unfold msP at h
    rw [prW_none (by intro q; rw [if_pos q] at h; omega)] at hx; cases hx
  | f + 1, n, p, h, h1, x, hx => by
    by_cases hn : 1 < n ∧ 2 ≤ p
    · have h2 := prW_less hn.1 hn.2
      have h4 := prQ_bd hn.1 hn.2
      have h5 := strip_le (n := n) (q := prQ n p) (by omega) h4.1
      rw [prW_round hn.1 hn.2, List.mem_append] at hx
      rcases hx with hx | hx
      · split at hx
        · simp only [List.mem_singleton] at hx; omega
        · cases hx
      · have := prW_bd f _ _ (by omega) h5.1 x hx; omega
    · rw [prW, dif_neg hn] at hx; cases hx
def prL (n : Int) : List Int := prW n 2
theorem prL_len {n : Int} (h : n ≤ 100000000000) : (prL n).length ≤ 100000000000 := by
  refine Nat.le_trans (prW_len (msP n 2) n 2 (Nat.le_refl _)) ?_
  unfold msP; split <;> omega
theorem prL_bd {n : Int} (h : 1 ≤ n) : ∀ x ∈ prL n, 2 ≤ x ∧ x ≤ n := prW_bd _ n 2 (Nat.le_refl _) h
/-! ### increasing lists -/
def putS (l : List Int) (n : Int) : List Int := match l with
  | [] => [n]
  | x :: l => if x < n then x :: putS l n else if x = n then x :: l else n :: x :: l
theorem putS_mem {n y : Int} : ∀ {l : List Int}, y ∈ putS l n ↔ y ∈ l ∨ y = n
  | [] => by simp [putS]
  | x :: l => by
    unfold putS
    split
    · rw [List.mem_cons, putS_mem (l := l), List.mem_cons, or_assoc]
    · split
      · rename_i h; subst h
        rw [List.mem_cons]
        constructor
        · rintro (h | h) <;> simp [h]
        · rintro ((h | h) | h) <;> simp [h]
      · simp only [List.mem_cons]
        constructor
        · rintro (h | h | h) <;> simp [h]
        · rintro ((h | h) | h) <;> simp [h]
theorem putS_sorted {n : Int} : ∀ {l : List Int}, l.Pairwise (· < ·) → (putS l n).Pairwise (· < ·)
  | [], _ => by simp [putS]
  | x :: l, h => by
    rw [List.pairwise_cons] at h
    unfold putS
    split
    · rename_i h1
      rw [List.pairwise_cons]
      refine ⟨fun y hy => ?_, putS_sorted h.2⟩
      rcases putS_mem.1 hy with h2 | h2
      · exact h.1 y h2
      · omega
    · split
      · exact List.pairwise_cons.2 h
      · rw [List.pairwise_cons]
        refine ⟨fun y hy => ?_, List.pairwise_cons.2 h⟩
        rcases List.mem_cons.1 hy with h2 | h2
        · omega
        · have := h.1 y h2; omega
theorem putS_split {n : Int} : ∀ (l : List Int) (k : Nat), (∀ j, j < k → (l.getD j 0) < n) → k ≤ l.length → putS l n = l.take k ++ putS (l.drop k) n
  | l, 0, _, _ => by simp
  | [], k + 1, _, h => by simp at h
  | x :: l, k + 1, h, hk => by
    have h0 : x < n := h 0 (by omega)
    rw [putS, if_pos h0, putS_split l k (fun j hj => by simpa using h (j + 1) (by omega)) (by simpa using hk)]
    simp
theorem sorted_ext : ∀ {l m : List Int}, l.Pairwise (· < ·) → m.Pairwise (· < ·) → (∀ x, x ∈ l ↔ x ∈ m) → l = m
  | [], [], _, _, _ => rfl
  | [], y :: m, _, _, h => by have := (h y).2 (by simp); cases this
  | x :: l, [], _, _, h => by have := (h x).1 (by simp); cases this
  | x :: l, y :: m, h1, h2, h => by
    rw [List.pairwise_cons] at h1 h2
    have e : x = y := by
      rcases List.mem_cons.1 ((h x).1 (by simp)) with h3 | h3
      · exact h3
      · rcases List.mem_cons.1 ((h y).2 (by simp)) with h4 | h4
        · exact h4.symm
        · have := h1.1 y h4; have := h2.1 x h3; omega
    subst e
    congr 1
    refine sorted_ext h1.2 h2.2 fun z => ?_
    constructor
    · intro hz
      rcases List.mem_cons.1 ((h z).1 (List.mem_cons_of_mem _ hz)) with h3 | h3
      · subst h3; have := h1.1 z hz; omega
      · exact h3
    · intro hz
      rcases List.mem_cons.1 ((h z).2 (List.mem_cons_of_mem _ hz)) with h3 | h3
      · subst h3; have := h2.1 z hz; omega
      · exact h3
def putA (l m : List Int) : List Int := m.foldl putS l
theorem putA_mem {y : Int} : ∀ {m l : List Int}, y ∈ putA l m ↔ y ∈ l ∨ y ∈ m
  | [], l => by simp [putA]
  | x :: m, l => by
    show y ∈ putA (putS l x) m ↔ _
    rw [putA_mem, putS_mem, List.mem_cons, or_assoc]
theorem putA_sorted : ∀ {m l : List Int}, l.Pairwise (· < ·) → (putA l m).Pairwise (· < ·)
  | [], l, h => h
  | x :: m, l, h => putA_sorted (m := m) (putS_sorted h)
theorem putA_append (l m n : List Int) : putA l (m ++ n) = putA (putA l m) n := by unfold putA; rw [List.foldl_append]
theorem putS_len (l : List Int) (n : Int) : (putS l n).length ≤ l.length + 1 := by
  induction l with
  | nil => simp [putS]
  | cons x l ih => unfold putS; split <;> (try split) <;> simp <;> omega
theorem putA_len : ∀ (m l : List Int), (putA l m).length ≤ l.length + m.length
  | [], l => by simp [putA]
  | x :: m, l => by
    have h1 := putA_len m (putS l x)
    have h2 := putS_len l x
    show (putA (putS l x) m).length ≤ _
    rw [List.length_cons]; omega
/-- the bad primes of a quartic -/
def dsc (D A C : Int) : Int := A * A - 4 * D * C
def bdL (D A C : Int) : List Int := putA [2] (prL D.natAbs ++ prL C.natAbs ++ prL (dsc D A C).natAbs)
theorem bdL_sorted (D A C : Int) : (bdL D A C).Pairwise (· < ·) := putA_sorted (by simp)
theorem bdL_two (D A C : Int) : ∀ x ∈ bdL D A C, 2 ≤ x := by
  intro x hx
  rcases putA_mem.1 hx with h | h
  · simp at h; omega
  · simp only [List.mem_append] at h
    have key : ∀ n : Int, x ∈ prL n.natAbs → 2 ≤ x := fun n hm => by
      by_cases h0 : n = 0
      · subst h0
        unfold prL at hm
        rw [prW_none (by omega)] at hm; cases hm
      · exact (prL_bd (n := n.natAbs) (by omega) x hm).1
    rcases h with (h | h) | h
    · exact key _ h
    · exact key _ h
    · exact key _ h
end Go.Proofs.YtpikckgaonppkaaGreat
