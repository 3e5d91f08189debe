/- Parts: Plain words on whole numbers of any size: lists of limbs below 10000, least first. No program in sight, Plain words: lengths of whole numbers, doubled ratios, and what becomes of a point that is doubled again and again. No program in sight, Plain words: which flags and digits are whole numbers. No program in sight, The plain law of intervals: places on the grid of 4096 and fractions in lowest terms, Plain words: the intervals of a height, and their common parts. No program in sight, Doublings of a ratio, one after the other: plain words. No program in sight. -/
import Derived.Test.YtijpfnkhaldfeaaBase
import Derived.Lib.BitFns
import Derived.Test.YtijpfnkhaldfeaaNum
namespace Go.Proofs.Ytijpfnkhaldfeaa
section
open Go.RowKit
set_option linter.unusedVariables false
set_option linter.unusedSimpArgs false

theorem gD_lt {a : List Int} {k : Nat} (h : k < a.length) : a.getD k 0 = a[k] := by simp [List.getD, h]
theorem gD_ge {a : List Int} {k : Nat} (h : a.length ≤ k) : a.getD k 0 = 0 := by simp [List.getD, h]
/-! ### the value of a list of limbs -/
def val : List Int → Int
  | [] => 0
  | z :: zs => z + 10000 * val zs
/-- every limb lies within its bounds -/
def Dig (zs : List Int) : Prop := ∀ z ∈ zs, 0 ≤ z ∧ z ≤ 9999
theorem Dig.nil : Dig [] := fun _ h => by cases h
theorem Dig.cons {z : Int} {zs : List Int} (h : 0 ≤ z ∧ z ≤ 9999) (hz : Dig zs) : Dig (z :: zs) := fun x hx => by
  rcases List.mem_cons.1 hx with rfl | hx
  · exact h
  · exact hz x hx
theorem Dig.head {z : Int} {zs : List Int} (h : Dig (z :: zs)) : 0 ≤ z ∧ z ≤ 9999 := h z (by simp)
theorem Dig.tail {z : Int} {zs : List Int} (h : Dig (z :: zs)) : Dig zs := fun x hx => h x (by simp [hx])
theorem Dig.append {a b : List Int} (ha : Dig a) (hb : Dig b) : Dig (a ++ b) := fun x hx => (List.mem_append.1 hx).elim (ha x) (hb x)
theorem Dig.take {a : List Int} (h : Dig a) (k : Nat) : Dig (a.take k) := fun x hx => h x (List.mem_of_mem_take hx)
theorem Dig.drop {a : List Int} (h : Dig a) (k : Nat) : Dig (a.drop k) := fun x hx => h x (List.mem_of_mem_drop hx)
theorem Dig.at {a : List Int} (h : Dig a) {k : Nat} (hk : k < a.length) : 0 ≤ a[k] ∧ a[k] ≤ 9999 := h _ (List.getElem_mem hk)
theorem Dig.getD {a : List Int} (h : Dig a) (k : Nat) : 0 ≤ a.getD k 0 ∧ a.getD k 0 ≤ 9999 := by
  by_cases hk : k < a.length
  · rw [gD_lt hk]; exact h.at hk
  · rw [gD_ge (by omega)]; omega
theorem Dig.set {a : List Int} (h : Dig a) (k : Nat) {x : Int} (hx : 0 ≤ x ∧ x ≤ 9999) : Dig (a.set k x) := fun y hy => by
  rcases List.mem_or_eq_of_mem_set hy with h1 | h1
  · exact h y h1
  · subst h1; exact hx
theorem Dig.zeros (n : Nat) : Dig (List.replicate n 0) := fun x hx => by
  have := List.eq_of_mem_replicate hx; subst this; omega
theorem p4_pos (k : Nat) : (0 : Int) < 10000 ^ k := Int.pow_pos (by omega)
theorem val_nonneg : ∀ {zs : List Int}, Dig zs → 0 ≤ val zs
  | [], _ => Int.le_refl 0
  | z :: zs, h => by
    have h1 := h.head
    have h2 := val_nonneg h.tail
    simp only [val]; omega
theorem val_lt : ∀ {zs : List Int}, Dig zs → val zs < 10000 ^ zs.length
  | [], _ => by simp [val]
  | z :: zs, h => by
    have h1 := h.head
    have h2 := val_lt h.tail
    simp only [val, List.length_cons, Int.pow_succ]
    omega
theorem val_append : ∀ (a b : List Int), val (a ++ b) = val a + 10000 ^ a.length * val b
  | [], b => by simp [val]
  | z :: a, b => by
    simp only [List.cons_append, val, val_append a b, List.length_cons, Int.pow_succ]
    grind
theorem val_zeros : ∀ n : Nat, val (List.replicate n 0) = 0
  | 0 => rfl
  | n + 1 => by simp [List.replicate_succ, val, val_zeros n]
theorem val_take_succ (a : List Int) (k : Nat) : val (a.take (k + 1)) = val (a.take k) + 10000 ^ k * a.getD k 0 := by
  by_cases hk : k < a.length
  · rw [List.take_succ_eq_append_getElem hk, val_append, gD_lt hk]
    simp [val, Nat.min_eq_left (Nat.le_of_lt hk)]
  · rw [gD_ge (by omega), List.take_of_length_le (by omega), List.take_of_length_le (by omega)]
    simp
theorem val_take_all (a : List Int) (k : Nat) (h : a.length ≤ k) : val (a.take k) = val a := by rw [List.take_of_length_le h]
theorem val_drop (a : List Int) (k : Nat) (hk : k < a.length) : val (a.drop k) = a[k] + 10000 * val (a.drop (k + 1)) := by
  rw [List.drop_eq_getElem_cons hk]; rfl
theorem val_set (a : List Int) (k : Nat) (x : Int) (hk : k < a.length) : val (a.set k x) = val a + 10000 ^ k * (x - a.getD k 0) := by
  rw [gD_lt hk]
  induction a generalizing k with
  | nil => simp at hk
  | cons z a ih =>
    cases k with
    | zero => simp [val]; omega
    | succ k =>
      simp only [List.set_cons_succ, val, List.getElem_cons_succ]
      rw [ih k (by simpa using hk)]
      rw [Int.pow_succ]
      grind
theorem getD_set (a : List Int) (k j : Nat) (x : Int) (hk : k < a.length) : (a.set k x).getD j 0 = if j = k then x else a.getD j 0 := by
  simp only [List.getD_eq_getElem?_getD, List.getElem?_set]
  by_cases h : k = j
  · subst h; simp [hk]
  · rw [if_neg h, if_neg (fun e => h e.symm)]

/-! ### the limbs of a number -/
def limbsF : Nat → Int → List Int
  | 0, _ => []
  | f + 1, n => if n ≤ 0 then [] else n % 10000 :: limbsF f (n / 10000)
def limbs (n : Int) : List Int := limbsF n.toNat n
theorem limbsF_dig : ∀ (f : Nat) (n : Int), Dig (limbsF f n)
  | 0, n => Dig.nil
  | f + 1, n => by
    unfold limbsF; split
    · exact Dig.nil
    · exact Dig.cons (by omega) (limbsF_dig f _)
theorem limbs_dig (n : Int) : Dig (limbs n) := limbsF_dig _ _
theorem limbsF_val : ∀ (f : Nat) (n : Int), 0 ≤ n → n.toNat ≤ f → val (limbsF f n) = n
  | 0, n, h, hf => by simp [limbsF, val]; omega
  | f + 1, n, h, hf => by
    unfold limbsF; split
    · simp [val]; omega
    · simp only [val]
      rw [limbsF_val f (n / 10000) (by omega) (by omega)]; omega
theorem limbs_val {n : Int} (h : 0 ≤ n) : val (limbs n) = n := limbsF_val _ n h (Nat.le_refl _)
/-- no limb of value 0 at the end -/
def Can (zs : List Int) : Prop := ∀ h : zs ≠ [], zs.getLast h ≠ 0
theorem can_tail {z : Int} {zs : List Int} (h : Can (z :: zs)) : Can zs := fun hne => by
  have := h (by simp)
  rwa [List.getLast_cons hne] at this
theorem can_zero : ∀ {zs : List Int}, Dig zs → Can zs → val zs = 0 → zs = []
  | [], _, _, _ => rfl
  | z :: zs, hd, hc, h => by
    exfalso
    simp only [val] at h
    have h1 := hd.head
    have h2 := val_nonneg hd.tail
    have h3 : val zs = 0 := by omega
    have h4 := can_zero hd.tail (can_tail hc) h3
    subst h4
    have := hc (by simp)
    simp at this; omega
theorem can_unique : ∀ {a b : List Int}, Dig a → Dig b → Can a → Can b → val a = val b → a = b
  | [], b, _, hb, _, cb, h => (can_zero hb cb h.symm).symm
  | a, [], ha, _, ca, _, h => can_zero ha ca h
  | x :: a, y :: b, ha, hb, ca, cb, h => by
    simp only [val] at h
    have h1 := ha.head
    have h2 := hb.head
    have e1 : x = y := by omega
    subst e1
    rw [can_unique ha.tail hb.tail (can_tail ca) (can_tail cb) (by omega)]
theorem limbsF_can : ∀ (f : Nat) (n : Int), n.toNat ≤ f → Can (limbsF f n)
  | 0, n, _ => fun h => absurd rfl h
  | f + 1, n, hf => by
    unfold limbsF; split
    · exact fun h => absurd rfl h
    · intro hne
      by_cases hz : limbsF f (n / 10000) = []
      · simp only [hz, List.getLast_singleton]
        have := limbsF_val f (n / 10000) (by omega) (by omega)
        rw [hz] at this
        simp [val] at this
        omega
      · rw [List.getLast_cons hz]
        exact limbsF_can f (n / 10000) (by omega) hz
theorem limbs_can (n : Int) : Can (limbs n) := limbsF_can _ _ (Nat.le_refl _)
theorem can_eq {zs : List Int} (hd : Dig zs) (hc : Can zs) : zs = limbs (val zs) := can_unique hd (limbs_dig _) hc (limbs_can _) (limbs_val (val_nonneg hd)).symm
theorem limbs_nil {n : Int} : limbs n = [] ↔ n ≤ 0 := by
  constructor
  · intro h
    rcases Int.lt_or_le n 0 with h1 | h1
    · omega
    · have := limbs_val h1
      rw [h] at this; simp [val] at this; omega
  · intro h
    unfold limbs
    rw [show n.toNat = 0 by omega]; rfl
theorem limbs_step {n : Int} (h : 0 < n) : limbs n = n % 10000 :: limbs (n / 10000) := by
  refine can_unique (limbs_dig _) (Dig.cons (by omega) (limbs_dig _)) (limbs_can _) ?_ ?_
  · intro hne
    by_cases hz : limbs (n / 10000) = []
    · simp only [hz, List.getLast_singleton]
      have := limbs_nil.1 hz
      omega
    · rw [List.getLast_cons hz]; exact limbs_can _ hz
  · rw [limbs_val (by omega)]; simp only [val]; rw [limbs_val (by omega)]; omega
theorem can_ge {zs : List Int} (hd : Dig zs) (hc : Can zs) (hne : zs ≠ []) : 10000 ^ (zs.length - 1) ≤ val zs := by
  have h := List.dropLast_concat_getLast hne
  have h1 : val zs = val zs.dropLast + 10000 ^ zs.dropLast.length * zs.getLast hne := by
    conv => lhs; rw [← h]
    rw [val_append]; simp [val]
  have h2 := hc hne
  have h3 := hd _ (List.getLast_mem hne)
  have h4 : 0 ≤ val zs.dropLast := val_nonneg fun z hz => hd z (List.dropLast_subset _ hz)
  have h5 := p4_pos zs.dropLast.length
  rw [List.length_dropLast] at h1 h5
  have h6 : 10000 ^ (zs.length - 1) * 1 ≤ 10000 ^ (zs.length - 1) * zs.getLast hne := Int.mul_le_mul_of_nonneg_left (by omega) (by omega)
  omega
theorem p4_mono {a b : Nat} (h : a ≤ b) : (10000 : Int) ^ a ≤ 10000 ^ b := by
  obtain ⟨d, rfl⟩ := Nat.exists_eq_add_of_le h
  rw [Int.pow_add]
  have h1 := p4_pos a
  have h2 := p4_pos d
  have := Int.mul_le_mul_of_nonneg_left (show (1 : Int) ≤ 10000 ^ d by omega) (show (0 : Int) ≤ 10000 ^ a by omega)
  omega
theorem limbs_len {n : Int} {k : Nat} : (limbs n).length ≤ k ↔ n < 10000 ^ k := by
  rcases Int.lt_or_le 0 n with h | h
  · have hv := limbs_val (n := n) (by omega)
    constructor
    · intro hl
      have h1 := val_lt (limbs_dig n)
      have h2 := p4_mono hl
      omega
    · intro hl
      rcases Nat.lt_or_ge k (limbs n).length with h1 | h1
      · exfalso
        have hne : limbs n ≠ [] := by intro e; rw [e] at h1; simp at h1
        have h2 := can_ge (limbs_dig n) (limbs_can n) hne
        have h3 := p4_mono (a := k) (b := (limbs n).length - 1) (by omega)
        omega
      · exact h1
  · have := limbs_nil.2 h
    have h2 := p4_pos k
    rw [this]; simp; omega

/-! ### cutting off zeros at the end -/
theorem trim_eq {zs : List Int} (hd : Dig zs) {k : Nat} (hk : k ≤ zs.length) (hz : ∀ j, k ≤ j → j < zs.length → zs.getD j 0 = 0) (hl : k = 0 ∨ zs.getD (k - 1) 0 ≠ 0) : zs.take k = limbs (val zs) := by
  have h1 : val zs = val (zs.take k) := by
    conv => lhs; rw [← List.take_append_drop k zs]
    rw [val_append]
    have : zs.drop k = List.replicate (zs.length - k) 0 := by
      rw [List.eq_replicate_iff]
      refine ⟨by simp, fun x hx => ?_⟩
      obtain ⟨i, hi, he⟩ := List.getElem_of_mem hx
      simp at hi
      have := hz (k + i) (by omega) (by omega)
      rw [gD_lt (by omega)] at this
      rw [← he, List.getElem_drop]; exact this
    rw [this, val_zeros]; simp
  rw [h1]
  refine can_eq (hd.take k) ?_
  intro hne
  rcases hl with rfl | hl
  · simp at hne
  · have hk0 : 0 < k := by
      rcases Nat.eq_zero_or_pos k with rfl | h
      · simp at hne
      · exact h
    rw [List.getLast_eq_getElem]
    rw [gD_lt (by omega)] at hl
    simp only [List.length_take, Nat.min_eq_left hk, List.getElem_take]
    exact hl

/-! ### sums -/
/-- one step of a sum with carry -/
theorem sum_step {a b ys : List Int} {s c x y c' : Int} {i : Nat} (h : val ys + 10000 ^ i * c = val (a.take i) + s * val (b.take i)) (hl : ys.length = i) (hx : x = c + a.getD i 0 + s * b.getD i 0) (hy : x = y + 10000 * c') :
    val (ys ++ [y]) + 10000 ^ (i + 1) * c' = val (a.take (i + 1)) + s * val (b.take (i + 1)) := by
  rw [val_append, val_take_succ, val_take_succ, hl]
  simp only [val, Int.pow_succ]
  subst hx
  grind
theorem sum_end {V c : Int} {n : Nat} {ys : List Int} (hd : Dig ys) (hl : ys.length = n) (h : val ys + 10000 ^ n * c = V) (h0 : 0 ≤ V) (h1 : V < 10000 ^ n) : val ys = V := by
  have a1 := val_nonneg hd
  have a2 := val_lt hd
  rw [hl] at a2
  have hp := p4_pos n
  have : c = 0 := by
    rcases Int.lt_trichotomy c 0 with hc | hc | hc
    · exfalso
      have := Int.mul_le_mul_of_nonneg_left (show c ≤ -1 by omega) (show (0 : Int) ≤ 10000 ^ n by omega)
      omega
    · exact hc
    · exfalso
      have := Int.mul_le_mul_of_nonneg_left (show 1 ≤ c by omega) (show (0 : Int) ≤ 10000 ^ n by omega)
      omega
  subst this; omega

/-! ### products -/
/-- the inner step of a product in place: y = out[k] + carry + x * b[k - i] -/
theorem mul_step {out b : List Int} {x c V y r q : Int} {i k : Nat} (hk : k < out.length) (hik : i ≤ k)
    (h : val out + 10000 ^ k * c = V + 10000 ^ i * (x * val (b.take (k - i)))) (hy : y = out.getD k 0 + c + x * b.getD (k - i) 0) (hq : y = r + 10000 * q) :
    val (out.set k r) + 10000 ^ (k + 1) * q = V + 10000 ^ i * (x * val (b.take (k + 1 - i))) := by
  rw [val_set _ _ _ hk, show k + 1 - i = k - i + 1 by omega, val_take_succ, Int.pow_succ]
  have hp : (10000 : Int) ^ k = 10000 ^ i * 10000 ^ (k - i) := by rw [← Int.pow_add]; congr 1; omega
  have : 10000 ^ k * q * 10000 = 10000 ^ k * (y - r) := by rw [hq]; grind
  grind
/-- sums of products without carries -/
theorem cross_step {sums b : List Int} {x y V : Int} {i k : Nat} (hk : i + k < sums.length) (h : val sums = V + 10000 ^ i * (x * val (b.take k))) (hy : y = sums.getD (i + k) 0 + x * b.getD k 0) :
    val (sums.set (i + k) y) = V + 10000 ^ i * (x * val (b.take (k + 1))) := by
  rw [val_set _ _ _ hk, val_take_succ, h, hy, Int.pow_add]
  grind
/-- one step of carrying: sums[i] := (sums[i] + carry) % 10000 -/
theorem carry_step {sums : List Int} {V c n r q : Int} {i : Nat} (hi : i < sums.length) (h : val sums + 10000 ^ i * c = V) (hn : n = sums.getD i 0 + c) (hq : n = r + 10000 * q) :
    val (sums.set i r) + 10000 ^ (i + 1) * q = V := by
  rw [val_set _ _ _ hi, Int.pow_succ]
  have : 10000 ^ i * q * 10000 = 10000 ^ i * (n - r) := by rw [hq]; grind
  grind

/-! ### quotients -/
theorem div_step {a q : List Int} {n rest x y : Int} {i : Nat} (hi : i < a.length) (hq : q.length = a.length) (h : val (a.drop (i + 1)) = n * val (q.drop (i + 1)) + rest) (hx : rest * 10000 + a.getD i 0 = n * y + x) :
    val (a.drop i) = n * val ((q.set i y).drop i) + x := by
  rw [val_drop a i hi, val_drop _ i (by simpa [hq] using hi)]
  rw [gD_lt hi] at hx
  have : (q.set i y).drop (i + 1) = q.drop (i + 1) := by rw [List.drop_set_of_lt (by omega)]
  rw [this, List.getElem_set_self, h]
  grind

/-! ### order -/
theorem cmp_hi {a b : List Int} (ha : Dig a) (hb : Dig b) {i : Nat} (h : val (a.drop (i + 1)) = val (b.drop (i + 1))) (hlt : a.getD i 0 < b.getD i 0) : val a < val b := by
  have key : ∀ z : List Int, val z = val (z.take i) + 10000 ^ i * z.getD i 0 + 10000 ^ (i + 1) * val (z.drop (i + 1)) := fun z => by
    by_cases hi : i < z.length
    · conv => lhs; rw [← List.take_append_drop (i + 1) z]
      rw [val_append, val_take_succ, List.length_take, Nat.min_eq_left (by omega)]
    · rw [gD_ge (by omega), List.take_of_length_le (by omega), List.drop_eq_nil_of_le (by omega)]
      simp [val]
  rw [key a, key b, h]
  have h1 := val_lt (ha.take i)
  have h2 := val_nonneg (hb.take i)
  have h3 : 10000 ^ (a.take i).length ≤ (10000 : Int) ^ i := p4_mono (by simp; omega)
  have h4 := Int.mul_le_mul_of_nonneg_left (show a.getD i 0 + 1 ≤ b.getD i 0 by omega) (show (0 : Int) ≤ 10000 ^ i by have := p4_pos i; omega)
  rw [Int.mul_add, Int.mul_one] at h4
  omega
theorem drop_eq_step {a b : List Int} {i : Nat} (h : val (a.drop (i + 1)) = val (b.drop (i + 1))) (he : a.getD i 0 = b.getD i 0) : val (a.drop i) = val (b.drop i) := by
  have key : ∀ z : List Int, val (z.drop i) = z.getD i 0 + 10000 * val (z.drop (i + 1)) := fun z => by
    by_cases hi : i < z.length
    · rw [val_drop z i hi, gD_lt hi]
    · rw [gD_ge (by omega), List.drop_eq_nil_of_le (by omega), List.drop_eq_nil_of_le (by omega)]
      simp [val]
  rw [key a, key b, h, he]

/-! ### signs -/
def mkW (neg : Bool) (m : Int) : Int := if neg = true then -m else m
def ngB (n : Int) : Bool := decide (n < 0)
def ab (n : Int) : Int := (n.natAbs : Int)
theorem ab_nonneg (n : Int) : 0 ≤ ab n := by unfold ab; omega
theorem mkW_ng {neg : Bool} {m : Int} (h : 0 ≤ m) : ngB (mkW neg m) = (neg && decide (0 < m)) := by
  unfold ngB mkW
  cases neg
  · simp; omega
  · simp
theorem mkW_ab {neg : Bool} {m : Int} (h : 0 ≤ m) : ab (mkW neg m) = m := by
  unfold ab mkW; split <;> omega
theorem trim_res {neg : Bool} {zs : List Int} (hd : Dig zs) {k : Nat} (hk : k ≤ zs.length) (hz : ∀ j, k ≤ j → j < zs.length → zs.getD j 0 = 0) (hl : k = 0 ∨ zs.getD (k - 1) 0 ≠ 0) :
    zs.take k = limbs (ab (mkW neg (val zs))) ∧ ngB (mkW neg (val zs)) = (neg && decide (0 < k)) := by
  have h1 := trim_eq hd hk hz hl
  have h2 := val_nonneg hd
  rw [mkW_ab h2, mkW_ng h2]
  refine ⟨h1, ?_⟩
  congr 1
  rw [Bool.eq_iff_iff]
  simp only [decide_eq_true_eq]
  have h3 : (zs.take k).length = k := by simp; omega
  rw [h1] at h3
  have h4 := limbs_nil (n := val zs)
  rcases Nat.eq_zero_or_pos k with h | h
  · subst h
    have := h4.1 (List.length_eq_zero_iff.1 h3)
    omega
  · constructor
    · intro _; exact h
    · intro _
      rcases Int.lt_or_le 0 (val zs) with h5 | h5
      · exact h5
      · have := h4.2 h5
        rw [this] at h3; simp at h3; omega
theorem mkW_self (n : Int) : mkW (ngB n) (ab n) = n := by
  unfold mkW ngB ab; by_cases h : n < 0 <;> simp [h] <;> omega
theorem mkW_neg (n : Int) : mkW (!ngB n) (ab n) = -n := by
  unfold mkW ngB ab; by_cases h : n < 0 <;> simp [h] <;> omega
theorem mkW_abs (n : Int) : mkW false (ab n) = ab n := rfl
theorem add_same {a b : Int} (h : ngB a = ngB b) : mkW (ngB a) (ab a + ab b) = a + b := by
  unfold mkW ngB ab at *
  by_cases h1 : a < 0 <;> by_cases h2 : b < 0 <;> simp [h1, h2] at h ⊢ <;> omega
theorem add_other {a b : Int} (h : ngB a ≠ ngB b) (hs : ab b ≤ ab a) : mkW (ngB a) (ab a - ab b) = a + b := by
  unfold mkW ngB ab at *
  by_cases h1 : a < 0 <;> by_cases h2 : b < 0 <;> simp [h1, h2] at h ⊢ <;> omega
theorem mul_sign (a b : Int) : mkW (ngB a != ngB b) (ab a * ab b) = a * b := by
  unfold mkW ngB ab
  rcases Int.lt_or_le a 0 with h1 | h1 <;> rcases Int.lt_or_le b 0 with h2 | h2
  · have e1 : ((a.natAbs : Nat) : Int) = -a := by omega
    have e2 : ((b.natAbs : Nat) : Int) = -b := by omega
    simp [h1, h2, e1, e2, Int.neg_mul, Int.mul_neg]
  · have e1 : ((a.natAbs : Nat) : Int) = -a := by omega
    have e2 : ((b.natAbs : Nat) : Int) = b := by omega
    have : ¬ b < 0 := by omega
    simp [h1, this, e1, e2, Int.neg_mul, Int.mul_neg]
  · have e1 : ((a.natAbs : Nat) : Int) = a := by omega
    have e2 : ((b.natAbs : Nat) : Int) = -b := by omega
    have : ¬ a < 0 := by omega
    simp [h2, this, e1, e2, Int.neg_mul, Int.mul_neg]
  · have e1 : ((a.natAbs : Nat) : Int) = a := by omega
    have e2 : ((b.natAbs : Nat) : Int) = b := by omega
    have h3 : ¬ a < 0 := by omega
    have h4 : ¬ b < 0 := by omega
    simp [h3, h4, e1, e2]
theorem div_pos {a n q r : Int} (hn : 0 < n) (h : ab a = n * q + r) (hr : 0 ≤ r ∧ r < n) (ha : 0 ≤ a ∨ r = 0) : mkW (ngB a) q = a / n ∧ r = a % n := by
  have hu : ∀ k s : Int, a = n * k + s → 0 ≤ s → s < n → k = a / n ∧ s = a % n := fun k s e h1 h2 => by
    have e1 : a / n = k := by
      rw [e, Int.add_comm, Int.add_mul_ediv_left _ _ (by omega), Int.ediv_eq_zero_of_lt h1 h2]; omega
    refine ⟨e1.symm, ?_⟩
    have := Int.emod_add_mul_ediv a n
    rw [e1] at this; omega
  unfold ab at h
  by_cases h1 : a < 0
  · have : r = 0 := by rcases ha with h' | h' <;> omega
    subst this
    have e : ngB a = true := by simp [ngB, h1]
    rw [e]; unfold mkW; simp only [if_true]
    exact hu (-q) 0 (by rw [Int.mul_neg]; omega) (by omega) (by omega)
  · have e : ngB a = false := by simp [ngB]; omega
    rw [e]; unfold mkW; simp only [Bool.false_eq_true, if_false]
    exact hu q r (by omega) hr.1 hr.2
theorem div_neg {a n q r : Int} (hn : 0 < n) (h : ab a = n * q + r) (hr : 0 < r ∧ r < n) (ha : a < 0) : mkW (ngB a) q + -1 = a / n ∧ n - r = a % n := by
  have hu : ∀ k s : Int, a = n * k + s → 0 ≤ s → s < n → k = a / n ∧ s = a % n := fun k s e h1 h2 => by
    have e1 : a / n = k := by
      rw [e, Int.add_comm, Int.add_mul_ediv_left _ _ (by omega), Int.ediv_eq_zero_of_lt h1 h2]; omega
    refine ⟨e1.symm, ?_⟩
    have := Int.emod_add_mul_ediv a n
    rw [e1] at this; omega
  unfold ab at h
  have e : ngB a = true := by simp [ngB, ha]
  rw [e]; unfold mkW; simp only [if_true]
  exact hu (-q + -1) (n - r) (by rw [Int.mul_add, Int.mul_neg]; omega) (by omega) (by omega)

theorem div_digit {d rest z : Int} (hd : 1 ≤ d) (hr : 0 ≤ rest ∧ rest < d) (hz : 0 ≤ z ∧ z ≤ 9999) : 0 ≤ (rest * 10000 + z) / d ∧ (rest * 10000 + z) / d ≤ 9999 := by
  refine ⟨Int.ediv_nonneg (by omega) (by omega), ?_⟩
  have : (rest * 10000 + z) / d < 10000 := Int.ediv_lt_of_lt_mul (by omega) (by omega)
  omega
theorem div_all {z d rest : Int} {qs : List Int} (hd : 1 ≤ d) (hz : ngB z = false) (hr : 0 ≤ rest ∧ rest < d) (h : val ((limbs (ab z)).drop 0) = d * val (qs.drop 0) + rest) : mkW false (val qs) = z / d ∧ rest = z % d := by
  rw [List.drop_zero, List.drop_zero, limbs_val (ab_nonneg z)] at h
  have := div_pos (a := z) (by omega) h hr (.inl (by simp [ngB] at hz; exact hz))
  rwa [hz] at this
/-! ### how many bits -/
def bl (n : Int) : Nat := Lib.bitLenAux n.toNat n.toNat
theorem bl_fuel {f x : Nat} (h : x < 2 ^ f) : Lib.bitLenAux f x = Lib.bitLenAux x x := by
  rcases Nat.le_total x f with h1 | h1
  · exact Lib.bitLenAux_fuel x x (Nat.lt_two_pow_self) f h1
  · exact (Lib.bitLenAux_fuel f x h x h1).symm
theorem bl_zero {n : Int} (h : n ≤ 0) : bl n = 0 := by
  unfold bl; rw [show n.toNat = 0 by omega]; rfl
theorem bl_half {n : Int} (h : 0 < n) : bl n = 1 + bl (n / 2) := by
  unfold bl
  obtain ⟨m, hm⟩ : ∃ m, n.toNat = m + 1 := ⟨n.toNat - 1, by omega⟩
  have h2 : (n / 2).toNat = n.toNat / 2 := by omega
  rw [h2, hm]
  show (if m + 1 = 0 then 0 else 1 + Lib.bitLenAux m ((m + 1) / 2)) = _
  rw [if_neg (by omega), bl_fuel]
  have := Nat.lt_two_pow_self (n := m)
  omega
theorem bl_shift : ∀ (k : Nat) (n : Int), 2 ^ k ≤ n → bl n = k + bl (n / 2 ^ k)
  | 0, n, _ => by simp
  | k + 1, n, h => by
    have hp : (0 : Int) < 2 ^ k := Int.pow_pos (by omega)
    rw [Int.pow_succ] at h
    rw [bl_half (by omega), bl_shift k (n / 2) (by omega), Int.ediv_ediv_of_nonneg (by omega), Int.pow_succ, Int.mul_comm 2]
    omega
theorem bl_lib {n : Int} (h : n < 18446744073709551616) : Lib.bitLen n.toNat = bl n := by
  unfold Lib.bitLen bl
  exact bl_fuel (by have : (2 : Nat) ^ 64 = 18446744073709551616 := by decide
                    omega)
theorem p4_two : ∀ n : Nat, (10000 : Int) ^ n ≤ 2 ^ (14 * n)
  | 0 => by simp
  | n + 1 => by
    rw [Int.pow_succ, show 14 * (n + 1) = 14 * n + 14 by omega, Int.pow_add]
    have h := p4_two n
    have h0 := p4_pos n
    have e : (2 : Int) ^ 14 = 16384 := by decide
    rw [e]
    omega
theorem bl_le {n : Int} {k : Nat} (h : n < 2 ^ k) : bl n ≤ k := by
  unfold bl
  refine Lib.bitLenAux_le _ _ k ?_
  have hp : (0 : Int) < 2 ^ k := Int.pow_pos (by omega)
  have : ((n.toNat : Nat) : Int) < ((2 ^ k : Nat) : Int) := by push_cast; omega
  exact_mod_cast this
theorem bl_len (z : Int) : bl z ≤ 14 * (limbs z).length := bl_le (Int.lt_of_lt_of_le (limbs_len.1 (Nat.le_refl _)) (p4_two _))
theorem limb0 {z : Int} (h0 : 0 ≤ z) (h : (limbs z).length ≤ 1) : (limbs z).getD 0 0 = z := by
  have h1 := limbs_len.1 h
  rcases Int.lt_or_le 0 z with h2 | h2
  · rw [limbs_step h2]
    simp at h1 ⊢
    omega
  · rw [limbs_nil.2 h2]; simp; omega
theorem ab_pos {z : Int} (h : 0 ≤ z) : ab z = z := by unfold ab; omega
/-! ### taking a number apart -/
theorem of_small {ys : List Int} {m N : Int} (hd : Dig ys) (h : val ys + 10000 ^ ys.length * m = N) (hm : 1 ≤ m) (hN : N ≤ 9223372036854775807) : ys.length ≤ 4 := by
  rcases Nat.lt_or_ge 4 ys.length with h1 | h1
  · exfalso
    have h2 := p4_mono h1
    have h3 := val_nonneg hd
    have h4 : 10000 ^ ys.length * 1 ≤ 10000 ^ ys.length * m := Int.mul_le_mul_of_nonneg_left hm (by have := p4_pos ys.length; omega)
    have h5 : (10000 : Int) ^ (4 + 1) = 100000000000000000000 := by decide
    omega
  · exact h1
theorem of_step {ys : List Int} {m N : Int} (h : val ys + 10000 ^ ys.length * m = N) : val (ys ++ [m % 10000]) + 10000 ^ (ys ++ [m % 10000]).length * (m / 10000) = N := by
  rw [val_append]
  simp only [val, List.length_append, List.length_singleton, Int.pow_succ]
  have := Int.emod_add_mul_ediv m 10000
  grind
theorem of_end {ys : List Int} {m n : Int} (hm : m = 0) (h : val ys + 10000 ^ ys.length * m = ab n) : mkW (ngB n) (val ys) = n := by
  subst hm
  rw [Int.mul_zero, Int.add_zero] at h
  rw [h, mkW_self]
end
section
open Go.RowKit
set_option linter.unusedVariables false
set_option linter.unusedSimpArgs false

/-! ### lengths -/
def ln (z : Int) : Nat := (limbs (ab z)).length
theorem ln_le {z : Int} {k : Nat} : ln z ≤ k ↔ ab z < 10000 ^ k := limbs_len
theorem ab_lt (z : Int) : ab z < 10000 ^ ln z := ln_le.1 (Nat.le_refl _)
theorem ab_mul (a b : Int) : ab (a * b) = ab a * ab b := by unfold ab; rw [Int.natAbs_mul]; push_cast; rfl
theorem ab_add (a b : Int) : ab (a + b) ≤ ab a + ab b := by unfold ab; omega
theorem ab_neg (a : Int) : ab (-a) = ab a := by unfold ab; omega
theorem ln_neg (a : Int) : ln (-a) = ln a := by unfold ln; rw [ab_neg]
theorem ln_ab (a : Int) : ln (ab a) = ln a := by unfold ln; rw [ab_pos (ab_nonneg a)]
theorem ln_mul (a b : Int) : ln (a * b) ≤ ln a + ln b := by
  rw [ln_le, ab_mul, Int.pow_add]
  exact Int.mul_lt_mul' (Int.le_of_lt (ab_lt a)) (ab_lt b) (ab_nonneg b) (p4_pos _)
theorem ln_mul_le {a b : Int} {i k : Nat} (ha : ln a ≤ i) (hb : ln b ≤ k) : ln (a * b) ≤ i + k := Nat.le_trans (ln_mul a b) (by omega)
theorem ln_add_le {a b : Int} {k : Nat} (ha : ln a ≤ k) (hb : ln b ≤ k) : ln (a + b) ≤ k + 1 := by
  rw [ln_le] at *
  have := ab_add a b
  have h := p4_pos k
  rw [Int.pow_succ]
  omega
theorem ln_mono {a b : Int} (h : ab a ≤ ab b) : ln a ≤ ln b := ln_le.2 (Int.lt_of_le_of_lt h (ab_lt b))
theorem ln_small {a : Int} (h1 : -9223372036854775808 ≤ a) (h2 : a ≤ 9223372036854775808) : ln a ≤ 5 := by
  rw [ln_le]; unfold ab
  have : (10000 : Int) ^ 5 = 100000000000000000000 := by decide
  omega
theorem ln_zero {a : Int} : ln a = 0 ↔ a = 0 := by
  unfold ln
  rw [List.length_eq_zero_iff, limbs_nil]
  unfold ab; omega

/-! ### the sums of the doubling -/
def topZ (A B x z : Int) : Int := x * x * (x * x) - x * x * (z * z) * (2 * A) - x * z * (z * z) * (8 * B) + z * z * (z * z) * (A * A)
def botZ (A B x z : Int) : Int := z * (x * x * x + x * (z * z) * A + z * (z * z) * B) * 4
theorem top_impl (A B x z : Int) : 0 + 1 * x * x * x * x + 1 * (-2 * A) * x * x * z * z + 1 * (-8 * B) * x * z * z * z + 1 * (A * A) * z * z * z * z = topZ A B x z := by unfold topZ; grind
theorem bot_impl (A B x z : Int) : 1 * 4 * z * (0 + 1 * x * x * x + 1 * A * x * z * z + 1 * B * z * z * z) = botZ A B x z := by unfold botZ; grind

/-! ### the divisor -/
def dvZ (n t b : Int) : Int := gcdI (gcdI n t) b
theorem gcdI_emod (n a : Int) (hn : 0 < n) : gcdI n (a % n) = gcdI n a := by
  unfold gcdI
  rw [Int.gcd_comm n (a % n), Int.emod_def]
  congr 1
  rw [Int.gcd_comm]
  have : a - n * (a / n) = a + n * (-(a / n)) := by rw [Int.mul_neg]; omega
  rw [this]
  simp
theorem gcdI_neg (n a : Int) : gcdI n (-a) = gcdI n a := by unfold gcdI; rw [Int.gcd_neg]
theorem gcdI_ab (n a : Int) : gcdI n (ab a) = gcdI n a := by unfold gcdI ab; simp [Int.gcd]
theorem dv_spec {n t b : Int} (hn : 0 < n) : gcdI (gcdI n (t % n)) (b % n) = dvZ n t b := by
  unfold dvZ
  rw [gcdI_emod n t hn]
  have h : (gcdI n t) ∣ n := by unfold gcdI; exact Int.gcd_dvd_left ..
  have hp : 0 < gcdI n t := by
    rcases Int.lt_or_le 0 (gcdI n t) with h' | h'
    · exact h'
    · have := gcdI_nonneg n t
      have e : gcdI n t = 0 := by omega
      rw [e] at h
      have := Int.zero_dvd.1 h
      omega
  rw [← gcdI_emod _ (b % n) hp, Int.emod_emod_of_dvd b h, gcdI_emod _ b hp]
theorem dv_impl {n t b : Int} (hn : 0 < n) : gcdI (ab b % gcdI (ab t % n) n) (gcdI (ab t % n) n) = dvZ n t b := by
  unfold dvZ
  rw [gcdI_comm (ab t % n) n, gcdI_emod _ _ hn, gcdI_ab]
  have hp : 0 < gcdI n t := by
    rcases Int.lt_or_le 0 (gcdI n t) with h' | h'
    · exact h'
    · have := gcdI_nonneg n t
      have e : gcdI n t = 0 := by omega
      have h : (gcdI n t) ∣ n := by unfold gcdI; exact Int.gcd_dvd_left ..
      rw [e] at h
      have := Int.zero_dvd.1 h
      omega
  rw [gcdI_comm, gcdI_emod _ _ hp, gcdI_ab]
theorem dv_pos {n t b : Int} (hn : 0 < n) : 1 ≤ dvZ n t b := by
  have h : dvZ n t b ∣ n := by
    unfold dvZ
    exact Int.dvd_trans (by unfold gcdI; exact Int.gcd_dvd_left ..) (show gcdI n t ∣ n by unfold gcdI; exact Int.gcd_dvd_left ..)
  have h0 : 0 ≤ dvZ n t b := gcdI_nonneg _ _
  rcases Int.lt_or_le 0 (dvZ n t b) with h' | h'
  · omega
  · have e : dvZ n t b = 0 := by omega
    rw [e] at h
    have := Int.zero_dvd.1 h
    omega
theorem dv_le {n t b : Int} (hn : 0 < n) : dvZ n t b ≤ n := by
  have h : dvZ n t b ∣ n := by
    unfold dvZ
    exact Int.dvd_trans (by unfold gcdI; exact Int.gcd_dvd_left ..) (show gcdI n t ∣ n by unfold gcdI; exact Int.gcd_dvd_left ..)
  exact Int.le_of_dvd hn h
theorem dv_top (n t b : Int) : dvZ n t b ∣ t := by
  unfold dvZ
  exact Int.dvd_trans (by unfold gcdI; exact Int.gcd_dvd_left ..) (show gcdI n t ∣ t by unfold gcdI; exact Int.gcd_dvd_right ..)
theorem dv_bot (n t b : Int) : dvZ n t b ∣ b := by unfold dvZ gcdI; exact Int.gcd_dvd_right ..
theorem dv_neg (n t b : Int) : dvZ n (-t) (-b) = dvZ n t b := by unfold dvZ; rw [gcdI_neg, gcdI_neg]
theorem neg_div {d t : Int} (h : d ∣ t) : -t / d = -(t / d) := by rw [Int.neg_ediv_of_dvd h]
theorem ln_div {a d : Int} (hd : 1 ≤ d) (h : d ∣ a) : ln (a / d) ≤ ln a := by
  apply ln_mono
  obtain ⟨q, rfl⟩ := h
  rw [Int.mul_ediv_cancel_left _ (by omega), ab_mul]
  have h1 := ab_nonneg q
  have h2 : 1 ≤ ab d := by unfold ab; omega
  have := Int.mul_le_mul h2 (Int.le_refl (ab q)) h1 (by omega)
  omega

/-! ### doubled ratios -/
def raB (x z : Int) : Bool := decide (ln x ≤ 80) && (decide (ln z ≤ 80) && decide (0 < z))
theorem raB_bd {x z : Int} (h : raB x z = true) : ln x ≤ 80 ∧ ln z ≤ 80 ∧ 0 < z := by
  simp only [raB, Bool.and_eq_true, decide_eq_true_eq] at h; exact ⟨h.1, h.2.1, h.2.2⟩
def sgZ (b t : Int) : Int := if b < 0 then -t else t
def dbN (n t b : Int) : Int := sgZ b (t / dvZ n t b)
def dbD (n t b : Int) : Int := sgZ b (b / dvZ n t b)
theorem db_spec (n t b : Int) : sgZ b t / dvZ n (sgZ b t) (sgZ b b) = dbN n t b ∧ sgZ b b / dvZ n (sgZ b t) (sgZ b b) = dbD n t b := by
  unfold dbN dbD sgZ
  by_cases h : b < 0
  · simp only [if_pos h]
    rw [dv_neg, neg_div (dv_top ..), neg_div (dv_bot ..)]
    exact ⟨rfl, rfl⟩
  · simp only [if_neg h]
    exact ⟨trivial, trivial⟩
/-- what has become of a point that was doubled some times -/
inductive RSt where
  | inf
  | bad
  | at (x z : Int)
def stp (n A B : Int) : RSt → RSt
  | .inf => .inf
  | .bad => .bad
  | .at x z => if botZ A B x z = 0 then .inf else if raB (dbN n (topZ A B x z) (botZ A B x z)) (dbD n (topZ A B x z) (botZ A B x z)) = true then .at (dbN n (topZ A B x z) (botZ A B x z)) (dbD n (topZ A B x z) (botZ A B x z)) else .bad
def dbl (n A B x z : Int) : Int × Int × Bool :=
  if botZ A B x z = 0 then (0, 0, false) else if raB (dbN n (topZ A B x z) (botZ A B x z)) (dbD n (topZ A B x z) (botZ A B x z)) = true then (dbN n (topZ A B x z) (botZ A B x z), dbD n (topZ A B x z) (botZ A B x z), true) else (0, 0, false)
def run (n A B x z : Int) : Nat → RSt
  | 0 => .at x z
  | k + 1 => stp n A B (run n A B x z k)
def okS : RSt → Bool
  | .at x z => raB x z
  | _ => true
theorem run_ok {n A B x z : Int} (h : raB x z = true) : ∀ k, okS (run n A B x z k) = true
  | 0 => h
  | k + 1 => by
    have := run_ok (n := n) (A := A) (B := B) h k
    simp only [run]
    cases hr : run n A B x z k with
    | inf => rfl
    | bad => rfl
    | «at» u v =>
      simp only [stp]
      split
      · rfl
      · split
        · next h2 => exact h2
        · rfl
theorem run_inf {n A B x z : Int} {j : Nat} (h : run n A B x z j = .inf) : ∀ k, j ≤ k → run n A B x z k = .inf := fun k hk => by
  obtain ⟨d, rfl⟩ : ∃ d, k = j + d := ⟨k - j, by omega⟩
  induction d with
  | zero => exact h
  | succ d ih => rw [← Nat.add_assoc]; simp only [run]; rw [ih (by omega)]; rfl
theorem run_bad {n A B x z : Int} {j : Nat} (h : run n A B x z j = .bad) : ∀ k, j ≤ k → run n A B x z k = .bad := fun k hk => by
  obtain ⟨d, rfl⟩ : ∃ d, k = j + d := ⟨k - j, by omega⟩
  induction d with
  | zero => exact h
  | succ d ih => rw [← Nat.add_assoc]; simp only [run]; rw [ih (by omega)]; rfl
end
section
open Go.RowKit
set_option linter.unusedVariables false
set_option linter.unusedSimpArgs false
def gwB (b : Bool) (zs : List Int) : Bool := decide (zs.length ≤ 400) && ((zs.all fun z => inB z 0 9999) && ((decide (0 < zs.length) || !b) && (decide (zs.length = 0) || decide (0 < zs.getD (zs.length - 1) 0))))
theorem gwB_cases {b : Bool} {zs : List Int} {n : Nat} (hn : zs.length = n) : (¬ n ≤ 400 ∧ gwB b zs = false) ∨ (n ≤ 400 ∧ ((zs.all fun z => inB z 0 9999) = false ∧ gwB b zs = false ∨ (zs.all fun z => inB z 0 9999) = true ∧
    (n = 0 ∧ (b = true ∧ gwB b zs = false ∨ b = false ∧ gwB b zs = true) ∨ 0 < n ∧ (¬ 0 < zs.getD (n - 1) 0 ∧ gwB b zs = false ∨ 0 < zs.getD (n - 1) 0 ∧ gwB b zs = true)))) := by
  unfold gwB
  rw [hn]
  by_cases h1 : n ≤ 400
  · right
    refine ⟨h1, ?_⟩
    cases h2 : (zs.all fun z => inB z 0 9999)
    · simp
    · right
      refine ⟨rfl, ?_⟩
      by_cases h0 : n = 0
      · left
        subst h0
        cases b <;> simp
      · right
        refine ⟨by omega, ?_⟩
        by_cases h3 : 0 < zs.getD (n - 1) 0
        · right; simp only [h1, decide_true, Bool.true_and]; refine ⟨h3, ?_⟩
          rw [show decide (0 < n) = true by simp; omega, show decide (n = 0) = false by simp; omega, show decide (0 < zs.getD (n - 1) 0) = true by simpa using h3]; rfl
        · left; refine ⟨h3, ?_⟩
          rw [show decide (0 < n) = true by simp; omega, show decide (n = 0) = false by simp; omega, show decide (0 < zs.getD (n - 1) 0) = false by simpa using h3]; simp
  · left
    exact ⟨h1, by simp [h1]⟩
theorem dig_all {zs : List Int} : (zs.all fun z => inB z 0 9999) = true ↔ Dig zs := by
  rw [List.all_eq_true]
  constructor
  · intro h z hz; exact inB_iff.1 (h z hz)
  · intro h z hz; exact inB_iff.2 (h z hz)
theorem can_iff {zs : List Int} (h : 0 < zs.length) (hd : Dig zs) : 0 < zs.getD (zs.length - 1) 0 ↔ Can zs := by
  have hne : zs ≠ [] := by intro e; subst e; simp at h
  have e : zs.getD (zs.length - 1) 0 = zs.getLast hne := by rw [gD_lt (by omega), List.getLast_eq_getElem]
  have hb := hd.getD (zs.length - 1)
  rw [e] at hb ⊢
  constructor
  · intro h1 _; omega
  · intro h1; have := h1 hne; omega
/-- the digits of a whole number -/
theorem gw_self (z : Int) : gwB (ngB z) (limbs (ab z)) = decide (ln z ≤ 400) := by
  have hd := limbs_dig (ab z)
  have hc := limbs_can (ab z)
  unfold gwB
  rw [dig_all.2 hd]
  rcases Nat.eq_zero_or_pos (limbs (ab z)).length with h | h
  · have h0 := ln_zero.1 h
    subst h0
    simp [ln, ngB, h]
  · have h3 := (can_iff h hd).2 hc
    rw [show decide (0 < (limbs (ab z)).length) = true by simpa using h, show decide (0 < (limbs (ab z)).getD ((limbs (ab z)).length - 1) 0) = true by simpa using h3]
    simp [ln]
    try rfl
theorem gw_mk {b : Bool} {zs : List Int} (h : gwB b zs = true) : zs = limbs (ab (mkW b (val zs))) ∧ b = ngB (mkW b (val zs)) ∧ zs.length ≤ 400 := by
  rcases gwB_cases (b := b) (zs := zs) rfl with ⟨_, h2⟩ | ⟨h1, ⟨_, h2⟩ | ⟨h2, ⟨h3, ⟨_, h4⟩ | ⟨h4, _⟩⟩ | ⟨h3, ⟨_, h4⟩ | ⟨h4, _⟩⟩⟩⟩
  · rw [h2] at h; cases h
  · rw [h2] at h; cases h
  · rw [h4] at h; cases h
  · have : zs = [] := List.length_eq_zero_iff.1 h3
    subst this; subst h4
    exact ⟨by decide, by decide, by simp⟩
  · rw [h4] at h; cases h
  · have hd := dig_all.1 h2
    have hc := (can_iff h3 hd).1 h4
    have hv := val_nonneg hd
    refine ⟨by rw [mkW_ab hv]; exact can_eq hd hc, ?_, h1⟩
    rw [mkW_ng hv]
    have : 0 < val zs := by
      rcases Int.lt_or_le 0 (val zs) with h' | h'
      · exact h'
      · have e := can_eq hd hc
        rw [limbs_nil.2 (by omega)] at e
        rw [e] at h3; simp at h3
    simp [this]
end
section
open Go.RowKit
set_option linter.unusedVariables false
set_option linter.unusedSimpArgs false

def pre1 (n d : Int) : Bool := frB n d && (4096 % d == 0)
def plN (n d : Int) : Int := if pre1 n d = true then n * (4096 / d) else 0
def plB (n d : Int) : Bool := pre1 n d && inB (plN n d) (-409600000) 409600000
def validB (a b : Int) : Bool := decide (a ≤ b) && decide (-409600000 ≤ a) && decide (b ≤ 409600000)
def goodB (n1 d1 n2 d2 : Int) : Bool := plB n1 d1 && plB n2 d2 && decide (plN n1 d1 ≤ plN n2 d2)
def spLo (n1 d1 n2 d2 : Int) : Int := if (pre1 n1 d1 && pre1 n2 d2) = true then plN n1 d1 else 0
def spHi (n1 d1 n2 d2 : Int) : Int := if (pre1 n1 d1 && pre1 n2 d2) = true then plN n2 d2 else 0

theorem goodB_eq (n1 d1 n2 d2 : Int) : goodB n1 d1 n2 d2 = (pre1 n1 d1 && pre1 n2 d2 && validB (plN n1 d1) (plN n2 d2)) := by
  unfold goodB plB validB inB
  cases pre1 n1 d1 <;> cases pre1 n2 d2 <;> simp
  rw [Bool.eq_iff_iff]; simp; omega
theorem validB_bd {a b : Int} (h : validB a b = true) : a ≤ b ∧ -409600000 ≤ a ∧ b ≤ 409600000 := by
  simp [validB] at h; omega
theorem validB_mk {a b : Int} (h1 : a ≤ b) (h2 : -409600000 ≤ a) (h3 : b ≤ 409600000) : validB a b = true := by
  simp [validB, h1, h2, h3]
theorem goodB_bd {n1 d1 n2 d2 : Int} (h : goodB n1 d1 n2 d2 = true) : plN n1 d1 ≤ plN n2 d2 ∧ -409600000 ≤ plN n1 d1 ∧ plN n2 d2 ≤ 409600000 := by
  rw [goodB_eq] at h; simp at h; exact validB_bd h.2
theorem goodB_pre {n1 d1 n2 d2 : Int} (h : goodB n1 d1 n2 d2 = true) : pre1 n1 d1 = true ∧ pre1 n2 d2 = true := by
  rw [goodB_eq] at h; simp at h; exact h.1
theorem spLo_good {n1 d1 n2 d2 : Int} (h : goodB n1 d1 n2 d2 = true) : spLo n1 d1 n2 d2 = plN n1 d1 := by
  have := goodB_pre h; simp [spLo, this]
theorem spHi_good {n1 d1 n2 d2 : Int} (h : goodB n1 d1 n2 d2 = true) : spHi n1 d1 n2 d2 = plN n2 d2 := by
  have := goodB_pre h; simp [spHi, this]
theorem pre1_bd {n d : Int} (h : pre1 n d = true) : 1 ≤ d ∧ d ≤ 4096 ∧ 4096 % d = 0 ∧ -1000000000 ≤ n ∧ n ≤ 1000000000 := by
  simp [pre1] at h
  have := frB_bd h.1
  have h2 : d ∣ 4096 := Int.dvd_of_emod_eq_zero h.2
  have := Int.le_of_dvd (by omega) h2
  exact ⟨by omega, by omega, h.2, by omega, by omega⟩
theorem plN_pre {n d : Int} (h : pre1 n d = true) : plN n d = n * (4096 / d) := by simp [plN, h]
theorem quo_bd (d : Int) (h : 1 ≤ d) : 0 ≤ 4096 / d ∧ 4096 / d ≤ 4096 := ⟨Int.ediv_nonneg (by omega) (by omega), Int.ediv_le_self _ (by omega)⟩
theorem plN_mul {n d : Int} (h : pre1 n d = true) : plN n d * d = n * 4096 := by
  obtain ⟨h1, _, h3, _, _⟩ := pre1_bd h
  rw [plN_pre h, Int.mul_assoc, Int.ediv_mul_cancel (Int.dvd_of_emod_eq_zero h3)]
theorem plN_sgn {n d : Int} (h : pre1 n d = true) : (0 < plN n d ↔ 0 < n) ∧ (plN n d < 0 ↔ n < 0) := by
  obtain ⟨h1, _, h3, _, _⟩ := pre1_bd h
  have hm := plN_mul h
  constructor <;> constructor <;> intro hh
  · rcases Int.lt_or_le 0 n with g | g
    · exact g
    · have : 0 < plN n d * d := Int.mul_pos hh (by omega)
      omega
  · rcases Int.lt_or_le 0 (plN n d) with g | g
    · exact g
    · have : plN n d * d ≤ 0 := Int.mul_nonpos_of_nonpos_of_nonneg g (by omega)
      omega
  · rcases Int.lt_or_le n 0 with g | g
    · exact g
    · have : plN n d * d < 0 := Int.mul_neg_of_neg_of_pos hh (by omega)
      omega
  · rcases Int.lt_or_le (plN n d) 0 with g | g
    · exact g
    · have : 0 ≤ plN n d * d := Int.mul_nonneg g (by omega)
      omega

/-- lowest terms of a positive denominator -/
theorem gcd_quo (n d : Int) (hd : d ≠ 0) : Int.gcd (n.tdiv (gcdI n d)) (d.tdiv (gcdI n d)) = 1 := by
  have hg : 0 < Int.gcd n d := Int.gcd_pos_of_ne_zero_right n hd
  obtain ⟨a, ha⟩ := Int.gcd_dvd_left n d
  obtain ⟨b, hb⟩ := Int.gcd_dvd_right n d
  have e1 : n.tdiv (gcdI n d) = a := by
    have : n.tdiv (gcdI n d) = (gcdI n d * a).tdiv (gcdI n d) := by rw [show gcdI n d * a = n from ha.symm]
    rw [this]
    exact Int.mul_tdiv_cancel_left _ (by have := gcdI_pos (a := n) hd; omega)
  have e2 : d.tdiv (gcdI n d) = b := by
    have : d.tdiv (gcdI n d) = (gcdI n d * b).tdiv (gcdI n d) := by rw [show gcdI n d * b = d from hb.symm]
    rw [this]
    exact Int.mul_tdiv_cancel_left _ (by have := gcdI_pos (a := n) hd; omega)
  rw [e1, e2]
  have h := Int.gcd_mul_left (Int.gcd n d : Int) a b
  rw [← ha, ← hb] at h
  have h2 : Int.gcd n d * 1 = Int.gcd n d * Int.gcd a b := by rw [Nat.mul_one]; simpa using h
  exact (Nat.eq_of_mul_eq_mul_left hg h2).symm
theorem quo_mul (n d : Int) (hd : d ≠ 0) : n.tdiv (gcdI n d) * gcdI n d = n ∧ d.tdiv (gcdI n d) * gcdI n d = d :=
  ⟨Int.tdiv_mul_cancel (by unfold gcdI; exact Int.gcd_dvd_left n d), Int.tdiv_mul_cancel (by unfold gcdI; exact Int.gcd_dvd_right n d)⟩
theorem mkND_pos {n d : Int} (hd : 0 < d) : mkN n d = n.tdiv (gcdI n d) ∧ mkD n d = d.tdiv (gcdI n d) := by
  unfold mkN mkD; rw [if_neg (by omega), if_neg (by omega)]; exact ⟨rfl, rfl⟩
theorem mkD_pos {n d : Int} (hd : 0 < d) : 1 ≤ mkD n d ∧ mkD n d ≤ d := by
  rw [(mkND_pos hd).2]
  have h1 := (quo_mul n d (by omega)).2
  have h2 := gcdI_pos (a := n) (b := d) (by omega)
  have h3 : 0 < d.tdiv (gcdI n d) := by
    rcases Int.lt_or_le 0 (d.tdiv (gcdI n d)) with g | g
    · exact g
    · have : d.tdiv (gcdI n d) * gcdI n d ≤ 0 := Int.mul_nonpos_of_nonpos_of_nonneg g (by omega)
      omega
  have h4 := tdiv_bd d (gcdI n d)
  omega
theorem mkN_bd (n d : Int) : (mkN n d).natAbs ≤ n.natAbs := by
  unfold mkN
  have := tdiv_bd n (gcdI n d)
  split <;> omega
/-- a quotient by a positive number is its lowest terms -/
theorem mk_mul {n d : Int} (hd : 0 < d) : mkN n d * d = n * mkD n d := by
  rw [(mkND_pos hd).1, (mkND_pos hd).2]
  obtain ⟨h1, h2⟩ := quo_mul n d (by omega)
  generalize gcdI n d = g at *
  generalize n.tdiv g = x at *
  generalize d.tdiv g = y at *
  subst h1 h2
  rw [Int.mul_assoc, Int.mul_comm g y]
theorem mk_gcd {n d : Int} (hd : 0 < d) : gcdI (mkN n d) (mkD n d) = 1 := by
  rw [(mkND_pos hd).1, (mkND_pos hd).2]
  unfold gcdI
  rw [show Int.gcd (n.tdiv (Int.gcd n d : Int)) (d.tdiv (Int.gcd n d : Int)) = 1 from gcd_quo n d (by omega)]
  rfl
theorem mk_fr {n d : Int} (hd : 0 < d) : frB (mkN n d) (mkD n d) = (decide (mkD n d ≤ 1000000000) && inB (mkN n d) (-1000000000) 1000000000) := by
  have h1 := mkD_pos (n := n) hd
  simp [frB, mk_gcd hd, inB, h1.1]
/-- on the grid -/
theorem mk_place (a : Int) : 4096 % mkD a 4096 = 0 ∧ mkN a 4096 * (4096 / mkD a 4096) = a := by
  have hd := mkD_pos (n := a) (d := 4096) (by omega)
  have hm := mk_mul (n := a) (d := 4096) (by omega)
  have h2 : mkD a 4096 ∣ 4096 := by
    rw [(mkND_pos (by omega)).2]
    exact ⟨gcdI a 4096, ((quo_mul a 4096 (by omega)).2).symm⟩
  refine ⟨Int.emod_eq_zero_of_dvd h2, ?_⟩
  have h3 : (mkN a 4096 * (4096 / mkD a 4096)) * mkD a 4096 = a * mkD a 4096 := by
    rw [Int.mul_assoc, Int.ediv_mul_cancel h2, hm]
  exact Int.eq_of_mul_eq_mul_right (by omega) h3
theorem mk_ok {a : Int} (h1 : -1000000000 ≤ a) (h2 : a ≤ 1000000000) : frB (mkN a 4096) (mkD a 4096) = true := by
  rw [mk_fr (by omega)]
  have h3 := mkD_pos (n := a) (d := 4096) (by omega)
  have h4 := mkN_bd a 4096
  simp [inB]; omega
theorem mk_pre {a : Int} (h : frB (mkN a 4096) (mkD a 4096) = true) : pre1 (mkN a 4096) (mkD a 4096) = true ∧ plN (mkN a 4096) (mkD a 4096) = a := by
  have hp := mk_place a
  have h1 : pre1 (mkN a 4096) (mkD a 4096) = true := by simp [pre1, h, hp.1]
  exact ⟨h1, by rw [plN_pre h1]; exact hp.2⟩
theorem mkF_grid {a : Int} (h1 : -1000000000 ≤ a) (h2 : a ≤ 1000000000) : mkF a 4096 = (mkN a 4096, mkD a 4096, true) := mkF_yes rfl rfl (mk_ok h1 h2)
/-- the interval between two places: valid or nothing -/
theorem make_good (a b : Int) : ((mkF a 4096).2.2 && (mkF b 4096).2.2 && goodB (mkF a 4096).1 (mkF a 4096).2.1 (mkF b 4096).1 (mkF b 4096).2.1) = validB a b := by
  unfold mkF
  by_cases ha : frB (mkN a 4096) (mkD a 4096) = true
  · by_cases hb : frB (mkN b 4096) (mkD b 4096) = true
    · obtain ⟨p1, q1⟩ := mk_pre ha
      obtain ⟨p2, q2⟩ := mk_pre hb
      simp only [if_pos ha, if_pos hb]
      rw [goodB_eq, p1, p2, q1, q2]
      simp
    · rw [if_pos ha, if_neg hb]
      simp only [Bool.and_false, Bool.false_and]
      symm
      rcases h : validB a b with _ | _
      · rfl
      · have := validB_bd h
        exact absurd (mk_ok (a := b) (by omega) (by omega)) hb
  · rw [if_neg ha]
    simp only [Bool.false_and]
    symm
    rcases h : validB a b with _ | _
    · rfl
    · have := validB_bd h
      exact absurd (mk_ok (a := a) (by omega) (by omega)) ha
/-- the interval of two places, or zeros -/
def ivN1 (ok : Bool) (a b : Int) : Int := if (ok && validB a b) = true then mkN a 4096 else 0
def ivD1 (ok : Bool) (a b : Int) : Int := if (ok && validB a b) = true then mkD a 4096 else 0
def ivN2 (ok : Bool) (a b : Int) : Int := if (ok && validB a b) = true then mkN b 4096 else 0
def ivD2 (ok : Bool) (a b : Int) : Int := if (ok && validB a b) = true then mkD b 4096 else 0
def ivV (ok : Bool) (a b : Int) : Value := .tuple #[.agg #[.int .i64 (ivN1 ok a b), .int .i64 (ivD1 ok a b), .int .i64 (ivN2 ok a b), .int .i64 (ivD2 ok a b)], .bool (ok && validB a b)]
theorem ivV_no {ok : Bool} {a b : Int} (h : (ok && validB a b) = false) : ivV ok a b = .tuple #[.agg #[.int .i64 0, .int .i64 0, .int .i64 0, .int .i64 0], .bool false] := by
  simp [ivV, ivN1, ivD1, ivN2, ivD2, h]
theorem ivV_yes {a b : Int} (h : validB a b = true) : ivV true a b = .tuple #[.agg #[.int .i64 (mkN a 4096), .int .i64 (mkD a 4096), .int .i64 (mkN b 4096), .int .i64 (mkD b 4096)], .bool true] := by
  simp [ivV, ivN1, ivD1, ivN2, ivD2, h]
theorem iv_read {a b : Int} (h : validB a b = true) : goodB (mkN a 4096) (mkD a 4096) (mkN b 4096) (mkD b 4096) = true ∧ plN (mkN a 4096) (mkD a 4096) = a ∧ plN (mkN b 4096) (mkD b 4096) = b := by
  have hv := validB_bd h
  have ha := mk_ok (a := a) (by omega) (by omega)
  have hb := mk_ok (a := b) (by omega) (by omega)
  obtain ⟨p1, q1⟩ := mk_pre ha
  obtain ⟨p2, q2⟩ := mk_pre hb
  exact ⟨by rw [goodB_eq, p1, p2, q1, q2, h]; rfl, q1, q2⟩
/-- what the functions on two intervals hand back -/
def opV (g : Bool) (a b : Int) : Value := if g = true then ivV true a b else .tuple #[.agg #[.int .i64 0, .int .i64 0, .int .i64 0, .int .i64 0], .bool false]
theorem opV_eq (g : Bool) (a b : Int) : opV g a b = ivV g a b := by
  cases g
  · rw [ivV_no rfl]; rfl
  · rfl
def mulLo (a b c d : Int) : Int := down (min (a * c) (min (a * d) (min (b * c) (b * d)))) 4096
def mulHi (a b c d : Int) : Int := up (max (a * c) (max (a * d) (max (b * c) (b * d)))) 4096
end
section
open Go.RowKit
set_option linter.unusedVariables false
set_option linter.unusedSimpArgs false

def bitsZ (x z : Int) : Int := most (bl (ab x) : Nat) (bl (ab z) : Nat)
theorem bitsZ_bd {x z : Int} (h : ln x ≤ 80 ∧ ln z ≤ 80) : 0 ≤ bitsZ x z ∧ bitsZ x z ≤ 1120 := by
  have h1 := bl_len (ab x)
  have h2 := bl_len (ab z)
  have h3 := h.1
  have h4 := h.2
  unfold ln at h3 h4
  unfold bitsZ
  rw [most_eq]
  omega
def hLo (C b p : Int) : Int := down (most 0 (3 * (b - 1) - C) * 4096) p
def hHi (C b p : Int) : Int := -(down (-((3 * b + C) * 4096)) p)
theorem down_mono {a b p : Int} (hp : 0 < p) (h : a ≤ b) : down a p ≤ down b p := Int.ediv_le_ediv hp h
theorem down_up {a p : Int} (hp : 0 < p) : down a p ≤ -(down (-a) p) := by
  unfold down
  have h1 := Int.ediv_mul_le a (b := p) (by omega)
  have h2 := Int.ediv_mul_le (-a) (b := p) (by omega)
  rcases Int.lt_or_le (-((-a) / p)) (a / p) with h | h
  · exfalso
    have h3 : 1 ≤ a / p + (-a) / p := by omega
    have h4 := Int.mul_le_mul_of_nonneg_right h3 (show 0 ≤ p by omega)
    rw [Int.add_mul] at h4
    omega
  · exact h
theorem hLo_hi {C b p : Int} (hp : 0 < p) (hC : 0 ≤ C) (hb : 0 ≤ b) : hLo C b p ≤ hHi C b p := by
  unfold hLo hHi
  exact Int.le_trans (down_mono hp (show most 0 (3 * (b - 1) - C) * 4096 ≤ (3 * b + C) * 4096 by rw [most_eq]; omega)) (down_up hp)
theorem hLo_bd {C b p : Int} (hp : 0 < p) (hC : 0 ≤ C ∧ C ≤ 64) (hb : 0 ≤ b ∧ b ≤ 1120) : 0 ≤ hLo C b p ∧ hLo C b p ≤ 14000000 := by
  unfold hLo down
  have h0 : 0 ≤ most 0 (3 * (b - 1) - C) * 4096 ∧ most 0 (3 * (b - 1) - C) * 4096 ≤ 14000000 := by rw [most_eq]; omega
  exact ⟨Int.ediv_nonneg h0.1 (by omega), Int.le_trans (Int.ediv_le_self _ h0.1) h0.2⟩
theorem hHi_bd {C b p : Int} (hp : 0 < p) (hC : 0 ≤ C ∧ C ≤ 64) (hb : 0 ≤ b ∧ b ≤ 1120) : 0 ≤ hHi C b p ∧ hHi C b p ≤ 14100000 := by
  have h1 := down_in (a := -((3 * b + C) * 4096)) (b := p) (M := 14100000) hp (by omega)
  have h2 := hLo_hi hp hC.1 hb.1
  have h3 := hLo_bd hp hC hb
  unfold hHi at *
  omega
def htOk : RSt → Bool
  | .bad => false
  | _ => true
def htLo (C : Int) (n : Nat) : RSt → Int
  | .at x z => hLo C (bitsZ x z) (4 ^ n * 3)
  | _ => 0
def htHi (C : Int) (n : Nat) : RSt → Int
  | .at x z => hHi C (bitsZ x z) (4 ^ n * 3)
  | _ => 0
theorem p43 (n : Nat) : (0 : Int) < 4 ^ n * 3 := by have : (0 : Int) < 4 ^ n := Int.pow_pos (by omega); omega
theorem ht_bd {C : Int} {n : Nat} {s : RSt} (hC : 0 ≤ C ∧ C ≤ 64) (hs : okS s = true) : 0 ≤ htLo C n s ∧ htLo C n s ≤ htHi C n s ∧ htHi C n s ≤ 14100000 := by
  cases s with
  | inf => simp [htLo, htHi]
  | bad => simp [htLo, htHi]
  | «at» x z =>
    have hr := raB_bd hs
    have hb := bitsZ_bd ⟨hr.1, hr.2.1⟩
    exact ⟨(hLo_bd (p43 n) hC hb).1, hLo_hi (p43 n) hC.1 hb.1, (hHi_bd (p43 n) hC hb).2⟩
/-- the common part of the first intervals -/
def bLo (C : Int) (st : Nat → RSt) : Nat → Int
  | 0 => htLo C 0 (st 0)
  | k + 1 => max (bLo C st k) (htLo C (k + 1) (st (k + 1)))
def bHi (C : Int) (st : Nat → RSt) : Nat → Int
  | 0 => htHi C 0 (st 0)
  | k + 1 => min (bHi C st k) (htHi C (k + 1) (st (k + 1)))
def bN (st : Nat → RSt) : Nat → Nat → Nat
  | 0, n => n
  | f + 1, n => if htOk (st (n + 1)) = true then bN st f (n + 1) else n
def bestN (st : Nat → RSt) : Nat := bN st 5 0
theorem bN_ge (st : Nat → RSt) : ∀ f n, n ≤ bN st f n
  | 0, n => Nat.le_refl _
  | f + 1, n => by
    unfold bN; split
    · have := bN_ge st f (n + 1); omega
    · exact Nat.le_refl _
theorem bN_le (st : Nat → RSt) : ∀ f n, bN st f n ≤ n + f
  | 0, n => Nat.le_refl _
  | f + 1, n => by
    unfold bN; split
    · have := bN_le st f (n + 1); omega
    · omega
theorem bN_go {st : Nat → RSt} {n : Nat} (hn : n < 5) (h : htOk (st (n + 1)) = true) : bN st (5 - n) n = bN st (5 - (n + 1)) (n + 1) := by
  obtain ⟨f, hf⟩ : ∃ f, 5 - n = f + 1 := ⟨5 - (n + 1), by omega⟩
  rw [hf, show 5 - (n + 1) = f by omega, bN, if_pos h]
theorem bN_stop {st : Nat → RSt} {n : Nat} (h : htOk (st (n + 1)) = false) : bN st (5 - n) n = n := by
  by_cases hn : n < 5
  · obtain ⟨f, hf⟩ : ∃ f, 5 - n = f + 1 := ⟨5 - (n + 1), by omega⟩
    rw [hf, bN, if_neg (by simp [h])]
  · rw [show 5 - n = 0 by omega]; rfl
theorem bN_end {st : Nat → RSt} {n : Nat} (hn : ¬ n < 5) : bN st (5 - n) n = n := by rw [show 5 - n = 0 by omega]; rfl
theorem b_bd {C : Int} {st : Nat → RSt} (hC : 0 ≤ C ∧ C ≤ 64) (hs : ∀ k, okS (st k) = true) : ∀ k, (0 ≤ bLo C st k ∧ bLo C st k ≤ 14100000) ∧ (0 ≤ bHi C st k ∧ bHi C st k ≤ 14100000)
  | 0 => by have := ht_bd (n := 0) hC (hs 0); simp only [bLo, bHi]; omega
  | k + 1 => by
    have h1 := b_bd hC hs k
    have h2 := ht_bd (n := k + 1) hC (hs (k + 1))
    simp only [bLo, bHi]; omega
theorem valid_b {C : Int} {st : Nat → RSt} (hC : 0 ≤ C ∧ C ≤ 64) (hs : ∀ k, okS (st k) = true) (k : Nat) : validB (bLo C st k) (bHi C st k) = decide (bLo C st k ≤ bHi C st k) := by
  have := b_bd hC hs k
  unfold validB
  rw [show decide (-409600000 ≤ bLo C st k) = true by simp; omega, show decide (bHi C st k ≤ 409600000) = true by simp; omega]
  simp
theorem b_anti {C : Int} {st : Nat → RSt} {n : Nat} : ∀ m, n ≤ m → bLo C st m ≤ bHi C st m → bLo C st n ≤ bHi C st n := fun m hm h => by
  obtain ⟨d, rfl⟩ : ∃ d, m = n + d := ⟨m - n, by omega⟩
  induction d with
  | zero => exact h
  | succ d ih =>
    apply ih (by omega)
    rw [← Nat.add_assoc] at h
    simp only [bLo, bHi] at h
    omega
theorem valid_ht {C : Int} {n : Nat} {s : RSt} (hC : 0 ≤ C ∧ C ≤ 64) (hs : okS s = true) : validB (htLo C n s) (htHi C n s) = true := by
  have := ht_bd (n := n) hC hs
  exact validB_mk this.2.1 (by omega) (by omega)
end
section
open Go.RowKit
set_option linter.unusedVariables false
set_option linter.unusedSimpArgs false
def dlV (N A B : Int) : Nat → Int → Int → Option (List (Int × Int))
  | 0, _, _ => some []
  | n + 1, x, z => if (dbl N A B x z).2.2 = true then (dlV N A B n (dbl N A B x z).1 (dbl N A B x z).2.1).map (((dbl N A B x z).1, (dbl N A B x z).2.1) :: ·) else none
theorem dl_start (r : Option (List (Int × Int))) : r = r.map (([] : List (Int × Int)) ++ ·) := by cases r <;> simp
theorem dl_step {N A B x z p q : Int} {k : Nat} {r : Option (List (Int × Int))} {zs : List (Int × Int)} (h : r = (dlV N A B (k + 1) x z).map (zs ++ ·)) (hd : dbl N A B x z = (p, q, true)) : r = (dlV N A B k p q).map ((zs ++ [(p, q)]) ++ ·) := by
  rw [h]
  simp only [dlV, hd, if_true]
  cases dlV N A B k p q <;> simp
theorem dl_fail {N A B x z p q : Int} {k : Nat} {r : Option (List (Int × Int))} {zs : List (Int × Int)} (h : r = (dlV N A B (k + 1) x z).map (zs ++ ·)) (hd : dbl N A B x z = (p, q, false)) : r = none := by
  rw [h]
  simp only [dlV, hd]
  rfl
theorem dl_end {N A B x z : Int} {r : Option (List (Int × Int))} {zs : List (Int × Int)} (h : r = (dlV N A B 0 x z).map (zs ++ ·)) : r = some zs := by
  rw [h]; simp [dlV]
theorem dl_len {N A B : Int} : ∀ (n : Nat) (x z : Int) (l : List (Int × Int)), dlV N A B n x z = some l → l.length = n
  | 0, x, z, l, h => by simp only [dlV, Option.some.injEq] at h; subst h; rfl
  | n + 1, x, z, l, h => by
    simp only [dlV] at h
    split at h
    · obtain ⟨l', h1, rfl⟩ := Option.map_eq_some_iff.1 h
      simp [dl_len n _ _ l' h1]
    · cases h
theorem dbl_cases (N A B x z : Int) : dbl N A B x z = (0, 0, false) ∨ ∃ p q, dbl N A B x z = (p, q, true) ∧ raB p q = true := by
  unfold dbl
  split
  · exact .inl rfl
  · split
    · next h => exact .inr ⟨_, _, rfl, h⟩
    · exact .inl rfl
/-- the values and the flag -/
def dlR (r : Option (List (Int × Int))) : List (Int × Int) × Bool := match r with | none => ([], false) | some l => (l, true)
end
end Go.Proofs.Ytijpfnkhaldfeaa
