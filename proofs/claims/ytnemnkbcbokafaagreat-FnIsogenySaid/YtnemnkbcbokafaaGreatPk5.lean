/- Lemmas and contracts of functions. No condition. -/
import Derived.Test.YtnemnkbcbokafaaGreatPk1
import Derived.Lib.BitFns
namespace Go.Proofs.YtnemnkbcbokafaaGreat
open Go.RowKit
set_option linter.unusedVariables false
set_option linter.unusedSimpArgs false

theorem gD_lt {a : List Int} {k : Nat} (h : k < a.length) : a.getD k 0 = a[k] := by simp [List.getD, h]
theorem gD_ge {a : List Int} {k : Nat} (h : a.length ≤ k) : a.getD k 0 = 0 := by simp [List.getD, h]
/-! ### the value of a list of limbs -/
def val : List Int → Int
  | [] => 0
  | z :: zs => z + 10000 * val zs
/-- every limb lies within its bounds -/
def Dig (zs : List Int) : Prop := ∀ z ∈ zs, 0 ≤ z ∧ z ≤ 9999
theorem Dig.nil : Dig [] := fun _ h => by cases h
theorem Dig.cons {z : Int} {zs : List Int} (h : 0 ≤ z ∧ z ≤ 9999) (hz : Dig zs) : Dig (z :: zs) := fun x hx => by
  rcases List.mem_cons.1 hx with rfl | hx
  · exact h
  · exact hz x hx
theorem Dig.head {z : Int} {zs : List Int} (h : Dig (z :: zs)) : 0 ≤ z ∧ z ≤ 9999 := h z (by simp)
theorem Dig.tail {z : Int} {zs : List Int} (h : Dig (z :: zs)) : Dig zs := fun x hx => h x (by simp [hx])
theorem Dig.append {a b : List Int} (ha : Dig a) (hb : Dig b) : Dig (a ++ b) := fun x hx => (List.mem_append.1 hx).elim (ha x) (hb x)
theorem Dig.take {a : List Int} (h : Dig a) (k : Nat) : Dig (a.take k) := fun x hx => h x (List.mem_of_mem_take hx)
theorem Dig.drop {a : List Int} (h : Dig a) (k : Nat) : Dig (a.drop k) := fun x hx => h x (List.mem_of_mem_drop hx)
theorem Dig.at {a : List Int} (h : Dig a) {k : Nat} (hk : k < a.length) : 0 ≤ a[k] ∧ a[k] ≤ 9999 := h _ (List.getElem_mem hk)
theorem Dig.getD {a : List Int} (h : Dig a) (k : Nat) : 0 ≤ a.getD k 0 ∧ a.getD k 0 ≤ 9999 := by
  by_cases hk : k < a.length
  · rw [gD_lt hk]; exact h.at hk
  · rw [gD_ge (by omega)]; omega
theorem Dig.set {a : List Int} (h : Dig a) (k : Nat) {x : Int} (hx : 0 ≤ x ∧ x ≤ 9999) : Dig (a.set k x) := fun y hy => by
  rcases List.mem_or_eq_of_mem_set hy with h1 | h1
  · exact h y h1
  · subst h1; exact hx
theorem Dig.zeros (n : Nat) : Dig (List.replicate n 0) := fun x hx => by
  have := List.eq_of_mem_replicate hx; subst this; omega
theorem p4_pos (k : Nat) : (0 : Int) < 10000 ^ k := Int.pow_pos (by omega)
theorem val_nonneg : ∀ {zs : List Int}, Dig zs → 0 ≤ val zs
  | [], _ => Int.le_refl 0
  | z :: zs, h => by
    have h1 := h.head
    have h2 := val_nonneg h.tail
    simp only [val]; omega
theorem val_lt : ∀ {zs : List Int}, Dig zs → val zs < 10000 ^ zs.length
  | [], _ => by simp [val]
  | z :: zs, h => by
    have h1 := h.head
    have h2 := val_lt h.tail
    simp only [val, List.length_cons, Int.pow_succ]
    omega
theorem val_append : ∀ (a b : List Int), val (a ++ b) = val a + 10000 ^ a.length * val b
  | [], b => by simp [val]
  | z :: a, b => by
    simp only [List.cons_append, val, val_append a b, List.length_cons, Int.pow_succ]
    grind
theorem val_zeros : ∀ n : Nat, val (List.replicate n 0) = 0
  | 0 => rfl
  | n + 1 => by simp [List.replicate_succ, val, val_zeros n]
theorem val_take_succ (a : List Int) (k : Nat) : val (a.take (k + 1)) = val (a.take k) + 10000 ^ k * a.getD k 0 := by
  by_cases hk : k < a.length
  · rw [List.take_succ_eq_append_getElem hk, val_append, gD_lt hk]
    simp [val, Nat.min_eq_left (Nat.le_of_lt hk)]
  · rw [gD_ge (by omega), List.take_of_length_le (by omega), List.take_of_length_le (by omega)]
    simp
theorem val_take_all (a : List Int) (k : Nat) (h : a.length ≤ k) : val (a.take k) = val a := by rw [List.take_of_length_le h]
theorem val_drop (a : List Int) (k : Nat) (hk : k < a.length) : val (a.drop k) = a[k] + 10000 * val (a.drop (k + 1)) := by
  rw [List.drop_eq_getElem_cons hk]; rfl
theorem val_set (a : List Int) (k : Nat) (x : Int) (hk : k < a.length) : val (a.set k x) = val a + 10000 ^ k * (x - a.getD k 0) := by
  rw [gD_lt hk]
  induction a generalizing k with
  | nil => simp at hk
  | cons z a ih =>
    cases k with
    | zero => simp [val]; omega
    | succ k =>
      simp only [List.set_cons_succ, val, List.getElem_cons_succ]
      rw [ih k (by simpa using hk)]
      rw [Int.pow_succ]
      grind
/-! ### the limbs of a number -/
def limbsF : Nat → Int → List Int
  | 0, _ => []
  | f + 1, n => if n ≤ 0 then [] else n % 10000 :: limbsF f (n / 10000)
def limbs (n : Int) : List Int := limbsF n.toNat n
theorem limbsF_dig : ∀ (f : Nat) (n : Int), Dig (limbsF f n)
  | 0, n => Dig.nil
  | f + 1, n => by
    unfold limbsF; split
    · exact Dig.nil
    · exact Dig.cons (by omega) (limbsF_dig f _)
theorem limbs_dig (n : Int) : Dig (limbs n) := limbsF_dig _ _
theorem limbsF_val : ∀ (f : Nat) (n : Int), 0 ≤ n → n.toNat ≤ f → val (limbsF f n) = n
  | 0, n, h, hf => by simp [limbsF, val]; omega
  | f + 1, n, h, hf => by
    unfold limbsF; split
    · simp [val]; omega
    · simp only [val]
      rw [limbsF_val f (n / 10000) (by omega) (by omega)]; omega
theorem limbs_val {n : Int} (h : 0 ≤ n) : val (limbs n) = n := limbsF_val _ n h (Nat.le_refl _)
/-- no limb of value 0 at the end -/
def Can (zs : List Int) : Prop := ∀ h : zs ≠ [], zs.getLast h ≠ 0
theorem can_tail {z : Int} {zs : List Int} (h : Can (z :: zs)) : Can zs := fun hne => by
  have := h (by simp)
  rwa [List.getLast_cons hne] at this
theorem can_zero : ∀ {zs : List Int}, Dig zs → Can zs → val zs = 0 → zs = []
  | [], _, _, _ => rfl
  | z :: zs, hd, hc, h => by
    exfalso
    simp only [val] at h
    have h1 := hd.head
    have h2 := val_nonneg hd.tail
    have h3 : val zs = 0 := by omega
    have h4 := can_zero hd.tail (can_tail hc) h3
    subst h4
    have := hc (by simp)
    simp at this; omega
theorem can_unique : ∀ {a b : List Int}, Dig a → Dig b → Can a → Can b → val a = val b → a = b
  | [], b, _, hb, _, cb, h => (can_zero hb cb h.symm).symm
  | a, [], ha, _, ca, _, h => can_zero ha ca h
  | x :: a, y :: b, ha, hb, ca, cb, h => by
    simp only [val] at h
    have h1 := ha.head
    have h2 := hb.head
    have e1 : x = y := by omega
    subst e1
    rw [can_unique ha.tail hb.tail (can_tail ca) (can_tail cb) (by omega)]
theorem limbsF_can : ∀ (f : Nat) (n : Int), n.toNat ≤ f → Can (limbsF f n)
  | 0, n, _ => fun h => absurd rfl h
  | f + 1, n, hf => by
    unfold limbsF; split
    · exact fun h => absurd rfl h
    · intro hne
      by_cases hz : limbsF f (n / 10000) = []
      · simp only [hz, List.getLast_singleton]
        have := limbsF_val f (n / 10000) (by omega) (by omega)
        rw [hz] at this
        simp [val] at this
        omega
      · rw [List.getLast_cons hz]
        exact limbsF_can f (n / 10000) (by omega) hz
theorem limbs_can (n : Int) : Can (limbs n) := limbsF_can _ _ (Nat.le_refl _)
theorem can_eq {zs : List Int} (hd : Dig zs) (hc : Can zs) : zs = limbs (val zs) := can_unique hd (limbs_dig _) hc (limbs_can _) (limbs_val (val_nonneg hd)).symm
theorem limbs_nil {n : Int} : limbs n = [] ↔ n ≤ 0 := by
  constructor
  · intro h
    rcases Int.lt_or_le n 0 with h1 | h1
    · omega
    · have := limbs_val h1
      rw [h] at this; simp [val] at this; omega
  · intro h
    unfold limbs
    rw [show n.toNat = 0 by omega]; rfl
theorem can_ge {zs : List Int} (hd : Dig zs) (hc : Can zs) (hne : zs ≠ []) : 10000 ^ (zs.length - 1) ≤ val zs := by
  have h := List.dropLast_concat_getLast hne
  have h1 : val zs = val zs.dropLast + 10000 ^ zs.dropLast.length * zs.getLast hne := by
    conv => lhs; rw [← h]
    rw [val_append]; simp [val]
  have h2 := hc hne
  have h3 := hd _ (List.getLast_mem hne)
  have h4 : 0 ≤ val zs.dropLast := val_nonneg fun z hz => hd z (List.dropLast_subset _ hz)
  have h5 := p4_pos zs.dropLast.length
  rw [List.length_dropLast] at h1 h5
  have h6 : 10000 ^ (zs.length - 1) * 1 ≤ 10000 ^ (zs.length - 1) * zs.getLast hne := Int.mul_le_mul_of_nonneg_left (by omega) (by omega)
  omega
theorem p4_mono {a b : Nat} (h : a ≤ b) : (10000 : Int) ^ a ≤ 10000 ^ b := by
  obtain ⟨d, rfl⟩ := Nat.exists_eq_add_of_le h
  rw [Int.pow_add]
  have h1 := p4_pos a
  have h2 := p4_pos d
  have := Int.mul_le_mul_of_nonneg_left (show (1 : Int) ≤ 10000 ^ d by omega) (show (0 : Int) ≤ 10000 ^ a by omega)
  omega
theorem limbs_len {n : Int} {k : Nat} : (limbs n).length ≤ k ↔ n < 10000 ^ k := by
  rcases Int.lt_or_le 0 n with h | h
  · have hv := limbs_val (n := n) (by omega)
    constructor
    · intro hl
      have h1 := val_lt (limbs_dig n)
      have h2 := p4_mono hl
      omega
    · intro hl
      rcases Nat.lt_or_ge k (limbs n).length with h1 | h1
      · exfalso
        have hne : limbs n ≠ [] := by intro e; rw [e] at h1; simp at h1
        have h2 := can_ge (limbs_dig n) (limbs_can n) hne
        have h3 := p4_mono (a := k) (b := (limbs n).length - 1) (by omega)
        omega
      · exact h1
  · have := limbs_nil.2 h
    have h2 := p4_pos k
    rw [this]; simp; omega

/-! ### cutting off zeros at the end -/
theorem trim_eq {zs : List Int} (hd : Dig zs) {k : Nat} (hk : k ≤ zs.length) (hz : ∀ j, k ≤ j → j < zs.length → zs.getD j 0 = 0) (hl : k = 0 ∨ zs.getD (k - 1) 0 ≠ 0) : zs.take k = limbs (val zs) := by
  have h1 : val zs = val (zs.take k) := by
    conv => lhs; rw [← List.take_append_drop k zs]
    rw [val_append]
    have : zs.drop k = List.replicate (zs.length - k) 0 := by
      rw [List.eq_replicate_iff]
      refine ⟨by simp, fun x hx => ?_⟩
      obtain ⟨i, hi, he⟩ := List.getElem_of_mem hx
      simp at hi
      have := hz (k + i) (by omega) (by omega)
      rw [gD_lt (by omega)] at this
      rw [← he, List.getElem_drop]; exact this
    rw [this, val_zeros]; simp
  rw [h1]
  refine can_eq (hd.take k) ?_
  intro hne
  rcases hl with rfl | hl
  · simp at hne
  · have hk0 : 0 < k := by
      rcases Nat.eq_zero_or_pos k with rfl | h
      · simp at hne
      · exact h
    rw [List.getLast_eq_getElem]
    rw [gD_lt (by omega)] at hl
    simp only [List.length_take, Nat.min_eq_left hk, List.getElem_take]
    exact hl

/-! ### sums -/
/-- one step of a sum with carry -/
theorem sum_step {a b ys : List Int} {s c x y c' : Int} {i : Nat} (h : val ys + 10000 ^ i * c = val (a.take i) + s * val (b.take i)) (hl : ys.length = i) (hx : x = c + a.getD i 0 + s * b.getD i 0) (hy : x = y + 10000 * c') :
    val (ys ++ [y]) + 10000 ^ (i + 1) * c' = val (a.take (i + 1)) + s * val (b.take (i + 1)) := by
  rw [val_append, val_take_succ, val_take_succ, hl]
  simp only [val, Int.pow_succ]
  subst hx
  grind
theorem sum_end {V c : Int} {n : Nat} {ys : List Int} (hd : Dig ys) (hl : ys.length = n) (h : val ys + 10000 ^ n * c = V) (h0 : 0 ≤ V) (h1 : V < 10000 ^ n) : val ys = V := by
  have a1 := val_nonneg hd
  have a2 := val_lt hd
  rw [hl] at a2
  have hp := p4_pos n
  have : c = 0 := by
    rcases Int.lt_trichotomy c 0 with hc | hc | hc
    · exfalso
      have := Int.mul_le_mul_of_nonneg_left (show c ≤ -1 by omega) (show (0 : Int) ≤ 10000 ^ n by omega)
      omega
    · exact hc
    · exfalso
      have := Int.mul_le_mul_of_nonneg_left (show 1 ≤ c by omega) (show (0 : Int) ≤ 10000 ^ n by omega)
      omega
  subst this; omega

/-! ### products -/
/-- the inner step of a product in place: y = out[k] + carry + x * b[k - i] -/
theorem mul_step {out b : List Int} {x c V y r q : Int} {i k : Nat} (hk : k < out.length) (hik : i ≤ k)
    (h : val out + 10000 ^ k * c = V + 10000 ^ i * (x * val (b.take (k - i)))) (hy : y = out.getD k 0 + c + x * b.getD (k - i) 0) (hq : y = r + 10000 * q) :
    val (out.set k r) + 10000 ^ (k + 1) * q = V + 10000 ^ i * (x * val (b.take (k + 1 - i))) := by
  rw [val_set _ _ _ hk, show k + 1 - i = k - i + 1 by omega, val_take_succ, Int.pow_succ]
  have hp : (10000 : Int) ^ k = 10000 ^ i * 10000 ^ (k - i) := by rw [← Int.pow_add]; congr 1; omega
  have : 10000 ^ k * q * 10000 = 10000 ^ k * (y - r) := by rw [hq]; grind
  grind
/-! ### quotients -/
/-! ### order -/
theorem cmp_hi {a b : List Int} (ha : Dig a) (hb : Dig b) {i : Nat} (h : val (a.drop (i + 1)) = val (b.drop (i + 1))) (hlt : a.getD i 0 < b.getD i 0) : val a < val b := by
  have key : ∀ z : List Int, val z = val (z.take i) + 10000 ^ i * z.getD i 0 + 10000 ^ (i + 1) * val (z.drop (i + 1)) := fun z => by
    by_cases hi : i < z.length
    · conv => lhs; rw [← List.take_append_drop (i + 1) z]
      rw [val_append, val_take_succ, List.length_take, Nat.min_eq_left (by omega)]
    · rw [gD_ge (by omega), List.take_of_length_le (by omega), List.drop_eq_nil_of_le (by omega)]
      simp [val]
  rw [key a, key b, h]
  have h1 := val_lt (ha.take i)
  have h2 := val_nonneg (hb.take i)
  have h3 : 10000 ^ (a.take i).length ≤ (10000 : Int) ^ i := p4_mono (by simp; omega)
  have h4 := Int.mul_le_mul_of_nonneg_left (show a.getD i 0 + 1 ≤ b.getD i 0 by omega) (show (0 : Int) ≤ 10000 ^ i by have := p4_pos i; omega)
  rw [Int.mul_add, Int.mul_one] at h4
  omega
theorem drop_eq_step {a b : List Int} {i : Nat} (h : val (a.drop (i + 1)) = val (b.drop (i + 1))) (he : a.getD i 0 = b.getD i 0) : val (a.drop i) = val (b.drop i) := by
  have key : ∀ z : List Int, val (z.drop i) = z.getD i 0 + 10000 * val (z.drop (i + 1)) := fun z => by
    by_cases hi : i < z.length
    · rw [val_drop z i hi, gD_lt hi]
    · rw [gD_ge (by omega), List.drop_eq_nil_of_le (by omega), List.drop_eq_nil_of_le (by omega)]
      simp [val]
  rw [key a, key b, h, he]

/-! ### signs -/
def mkW (neg : Bool) (m : Int) : Int := if neg = true then -m else m
def ngB (n : Int) : Bool := decide (n < 0)
def ab (n : Int) : Int := (n.natAbs : Int)
theorem ab_nonneg (n : Int) : 0 ≤ ab n := by unfold ab; omega
theorem mkW_ng {neg : Bool} {m : Int} (h : 0 ≤ m) : ngB (mkW neg m) = (neg && decide (0 < m)) := by
  unfold ngB mkW
  cases neg
  · simp; omega
  · simp
theorem mkW_ab {neg : Bool} {m : Int} (h : 0 ≤ m) : ab (mkW neg m) = m := by
  unfold ab mkW; split <;> omega
theorem trim_res {neg : Bool} {zs : List Int} (hd : Dig zs) {k : Nat} (hk : k ≤ zs.length) (hz : ∀ j, k ≤ j → j < zs.length → zs.getD j 0 = 0) (hl : k = 0 ∨ zs.getD (k - 1) 0 ≠ 0) :
    zs.take k = limbs (ab (mkW neg (val zs))) ∧ ngB (mkW neg (val zs)) = (neg && decide (0 < k)) := by
  have h1 := trim_eq hd hk hz hl
  have h2 := val_nonneg hd
  rw [mkW_ab h2, mkW_ng h2]
  refine ⟨h1, ?_⟩
  congr 1
  rw [Bool.eq_iff_iff]
  simp only [decide_eq_true_eq]
  have h3 : (zs.take k).length = k := by simp; omega
  rw [h1] at h3
  have h4 := limbs_nil (n := val zs)
  rcases Nat.eq_zero_or_pos k with h | h
  · subst h
    have := h4.1 (List.length_eq_zero_iff.1 h3)
    omega
  · constructor
    · intro _; exact h
    · intro _
      rcases Int.lt_or_le 0 (val zs) with h5 | h5
      · exact h5
      · have := h4.2 h5
        rw [this] at h3; simp at h3; omega
theorem mkW_self (n : Int) : mkW (ngB n) (ab n) = n := by
  unfold mkW ngB ab; by_cases h : n < 0 <;> simp [h] <;> omega
theorem mkW_neg (n : Int) : mkW (!ngB n) (ab n) = -n := by
  unfold mkW ngB ab; by_cases h : n < 0 <;> simp [h] <;> omega
theorem add_same {a b : Int} (h : ngB a = ngB b) : mkW (ngB a) (ab a + ab b) = a + b := by
  unfold mkW ngB ab at *
  by_cases h1 : a < 0 <;> by_cases h2 : b < 0 <;> simp [h1, h2] at h ⊢ <;> omega
theorem add_other {a b : Int} (h : ngB a ≠ ngB b) (hs : ab b ≤ ab a) : mkW (ngB a) (ab a - ab b) = a + b := by
  unfold mkW ngB ab at *
  by_cases h1 : a < 0 <;> by_cases h2 : b < 0 <;> simp [h1, h2] at h ⊢ <;> omega
theorem mul_sign (a b : Int) : mkW (ngB a != ngB b) (ab a * ab b) = a * b := by
  unfold mkW ngB ab
  rcases Int.lt_or_le a 0 with h1 | h1 <;> rcases Int.lt_or_le b 0 with h2 | h2
  · have e1 : ((a.natAbs : Nat) : Int) = -a := by omega
    have e2 : ((b.natAbs : Nat) : Int) = -b := by omega
    simp [h1, h2, e1, e2, Int.neg_mul, Int.mul_neg]
  · have e1 : ((a.natAbs : Nat) : Int) = -a := by omega
    have e2 : ((b.natAbs : Nat) : Int) = b := by omega
    have : ¬ b < 0 := by omega
    simp [h1, this, e1, e2, Int.neg_mul, Int.mul_neg]
  · have e1 : ((a.natAbs : Nat) : Int) = a := by omega
    have e2 : ((b.natAbs : Nat) : Int) = -b := by omega
    have : ¬ a < 0 := by omega
    simp [h2, this, e1, e2, Int.neg_mul, Int.mul_neg]
  · have e1 : ((a.natAbs : Nat) : Int) = a := by omega
    have e2 : ((b.natAbs : Nat) : Int) = b := by omega
    have h3 : ¬ a < 0 := by omega
    have h4 : ¬ b < 0 := by omega
    simp [h3, h4, e1, e2]
/-! ### how many bits -/
/-! ### taking a number apart -/
theorem of_small {ys : List Int} {m N : Int} (hd : Dig ys) (h : val ys + 10000 ^ ys.length * m = N) (hm : 1 ≤ m) (hN : N ≤ 9223372036854775807) : ys.length ≤ 4 := by
  rcases Nat.lt_or_ge 4 ys.length with h1 | h1
  · exfalso
    have h2 := p4_mono h1
    have h3 := val_nonneg hd
    have h4 : 10000 ^ ys.length * 1 ≤ 10000 ^ ys.length * m := Int.mul_le_mul_of_nonneg_left hm (by have := p4_pos ys.length; omega)
    have h5 : (10000 : Int) ^ (4 + 1) = 100000000000000000000 := by decide
    omega
  · exact h1
theorem of_step {ys : List Int} {m N : Int} (h : val ys + 10000 ^ ys.length * m = N) : val (ys ++ [m % 10000]) + 10000 ^ (ys ++ [m % 10000]).length * (m / 10000) = N := by
  rw [val_append]
  simp only [val, List.length_append, List.length_singleton, Int.pow_succ]
  have := Int.emod_add_mul_ediv m 10000
  grind
theorem of_end {ys : List Int} {m n : Int} (hm : m = 0) (h : val ys + 10000 ^ ys.length * m = ab n) : mkW (ngB n) (val ys) = n := by
  subst hm
  rw [Int.mul_zero, Int.add_zero] at h
  rw [h, mkW_self]
end Go.Proofs.YtnemnkbcbokafaaGreat
