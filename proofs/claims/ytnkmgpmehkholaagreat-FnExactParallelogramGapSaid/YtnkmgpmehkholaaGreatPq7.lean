/- Lemmas and contracts of functions. No condition. -/
import Derived.Test.YtnkmgpmehkholaaGreatPq2
import Derived.Lib.BitFns
namespace Go.Proofs.YtnkmgpmehkholaaGreat
section
open Go.RowKit
set_option linter.unusedVariables false
set_option linter.unusedSimpArgs false

theorem gD_lt {a : List Int} {k : Nat} (h : k < a.length) : a.getD k 0 = a[k] := by simp [List.getD, h]
theorem gD_ge {a : List Int} {k : Nat} (h : a.length ≤ k) : a.getD k 0 = 0 := by simp [List.getD, h]
/-! ### the value of a list of limbs -/
def val : List Int → Int
  | [] => 0
  | z :: zs => z + 10000 * val zs
/-- every limb lies within its bounds -/
def Dig (zs : List Int) : Prop := ∀ z ∈ zs, 0 ≤ z ∧ z ≤ 9999
theorem Dig.nil : Dig [] := fun _ h => by cases h
theorem Dig.cons {z : Int} {zs : List Int} (h : 0 ≤ z ∧ z ≤ 9999) (hz : Dig zs) : Dig (z :: zs) := fun x hx => by
  rcases List.mem_cons.1 hx with rfl | hx
  · exact h
  · exact hz x hx
theorem Dig.head {z : Int} {zs : List Int} (h : Dig (z :: zs)) : 0 ≤ z ∧ z ≤ 9999 := h z (by simp)
theorem Dig.tail {z : Int} {zs : List Int} (h : Dig (z :: zs)) : Dig zs := fun x hx => h x (by simp [hx])
theorem Dig.append {a b : List Int} (ha : Dig a) (hb : Dig b) : Dig (a ++ b) := fun x hx => (List.mem_append.1 hx).elim (ha x) (hb x)
theorem Dig.take {a : List Int} (h : Dig a) (k : Nat) : Dig (a.take k) := fun x hx => h x (List.mem_of_mem_take hx)
theorem Dig.drop {a : List Int} (h : Dig a) (k : Nat) : Dig (a.drop k) := fun x hx => h x (List.mem_of_mem_drop hx)
theorem Dig.at {a : List Int} (h : Dig a) {k : Nat} (hk : k < a.length) : 0 ≤ a[k] ∧ a[k] ≤ 9999 := h _ (List.getElem_mem hk)
theorem Dig.getD {a : List Int} (h : Dig a) (k : Nat) : 0 ≤ a.getD k 0 ∧ a.getD k 0 ≤ 9999 := by
  by_cases hk : k < a.length
  · rw [gD_lt hk]; exact h.at hk
  · rw [gD_ge (by omega)]; omega
theorem Dig.set {a : List Int} (h : Dig a) (k : Nat) {x : Int} (hx : 0 ≤ x ∧ x ≤ 9999) : Dig (a.set k x) := fun y hy => by
  rcases List.mem_or_eq_of_mem_set hy with h1 | h1
  · exact h y h1
  · subst h1; exact hx
theorem Dig.zeros (n : Nat) : Dig (List.replicate n 0) := fun x hx => by
  have := List.eq_of_mem_replicate hx; subst this; omega
theorem p4_pos (k : Nat) : (0 : Int) < 10000 ^ k := Int.pow_pos (by omega)
theorem val_nonneg : ∀ {zs : List Int}, Dig zs → 0 ≤ val zs
  | [], _ => Int.le_refl 0
  | z :: zs, h => by
    have h1 := h.head
    have h2 := val_nonneg h.tail
    simp only [val]; omega
theorem val_lt : ∀ {zs : List Int}, Dig zs → val zs < 10000 ^ zs.length
  | [], _ => by simp [val]
  | z :: zs, h => by
    have h1 := h.head
    have h2 := val_lt h.tail
    simp only [val, List.length_cons, Int.pow_succ]
    omega
theorem val_append : ∀ (a b : List Int), val (a ++ b) = val a + 10000 ^ a.length * val b
  | [], b => by simp [val]
  | z :: a, b => by
    simp only [List.cons_append, val, val_append a b, List.length_cons, Int.pow_succ]
    grind
theorem val_zeros : ∀ n : Nat, val (List.replicate n 0) = 0
  | 0 => rfl
  | n + 1 => by simp [List.replicate_succ, val, val_zeros n]
theorem val_take_succ (a : List Int) (k : Nat) : val (a.take (k + 1)) = val (a.take k) + 10000 ^ k * a.getD k 0 := by
  by_cases hk : k < a.length
  · rw [List.take_succ_eq_append_getElem hk, val_append, gD_lt hk]
    simp [val, Nat.min_eq_left (Nat.le_of_lt hk)]
  · rw [gD_ge (by omega), List.take_of_length_le (by omega), List.take_of_length_le (by omega)]
    simp
theorem val_take_all (a : List Int) (k : Nat) (h : a.length ≤ k) : val (a.take k) = val a := by rw [List.take_of_length_le h]
theorem val_drop (a : List Int) (k : Nat) (hk : k < a.length) : val (a.drop k) = a[k] + 10000 * val (a.drop (k + 1)) := by
  rw [List.drop_eq_getElem_cons hk]; rfl
theorem val_set (a : List Int) (k : Nat) (x : Int) (hk : k < a.length) : val (a.set k x) = val a + 10000 ^ k * (x - a.getD k 0) := by
  rw [gD_lt hk]
  induction a generalizing k with
  | nil => simp at hk
  | cons z a ih =>
    cases k with
    | zero => simp [val]; omega
    | succ k =>
      simp only [List.set_cons_succ, val, List.getElem_cons_succ]
      rw [ih k (by simpa using hk)]
      rw [Int.pow_succ]
      grind
theorem getD_set (a : List Int) (k j : Nat) (x : Int) (hk : k < a.length) : (a.set k x).getD j 0 = if j = k then x else a.getD j 0 := by
  simp only [List.getD_eq_getElem?_getD, List.getElem?_set]
  by_cases h : k = j
  · subst h; simp [hk]
  · rw [if_neg h, if_neg (fun e => h e.symm)]

/-! ### the limbs of a number -/
def limbsF : Nat → Int → List Int
  | 0, _ => []
  | f + 1, n => if n ≤ 0 then [] else n % 10000 :: limbsF f (n / 10000)
def limbs (n : Int) : List Int := limbsF n.toNat n
theorem limbsF_dig : ∀ (f : Nat) (n : Int), Dig (limbsF f n)
  | 0, n => Dig.nil
  | f + 1, n => by
    unfold limbsF; split
    · exact Dig.nil
    · exact Dig.cons (by omega) (limbsF_dig f _)
theorem limbs_dig (n : Int) : Dig (limbs n) := limbsF_dig _ _
theorem limbsF_val : ∀ (f : Nat) (n : Int), 0 ≤ n → n.toNat ≤ f → val (limbsF f n) = n
  | 0, n, h, hf => by simp [limbsF, val]; omega
  | f + 1, n, h, hf => by
    unfold limbsF; split
    · simp [val]; omega
    · simp only [val]
      rw [limbsF_val f (n / 10000) (by omega) (by omega)]; omega
theorem limbs_val {n : Int} (h : 0 ≤ n) : val (limbs n) = n := limbsF_val _ n h (Nat.le_refl _)
/-- no limb of value 0 at the end -/
def Can (zs : List Int) : Prop := ∀ h : zs ≠ [], zs.getLast h ≠ 0
theorem can_tail {z : Int} {zs : List Int} (h : Can (z :: zs)) : Can zs := fun hne => by
  have := h (by simp)
  rwa [List.getLast_cons hne] at this
theorem can_zero : ∀ {zs : List Int}, Dig zs → Can zs → val zs = 0 → zs = []
  | [], _, _, _ => rfl
  | z :: zs, hd, hc, h => by
    exfalso
    simp only [val] at h
    have h1 := hd.head
    have h2 := val_nonneg hd.tail
    have h3 : val zs = 0 := by omega
    have h4 := can_zero hd.tail (can_tail hc) h3
    subst h4
    have := hc (by simp)
    simp at this; omega
theorem can_unique : ∀ {a b : List Int}, Dig a → Dig b → Can a → Can b → val a = val b → a = b
  | [], b, _, hb, _, cb, h => (can_zero hb cb h.symm).symm
  | a, [], ha, _, ca, _, h => can_zero ha ca h
  | x :: a, y :: b, ha, hb, ca, cb, h => by
    simp only [val] at h
    have h1 := ha.head
    have h2 := hb.head
    have e1 : x = y := by omega
    subst e1
    rw [can_unique ha.tail hb.tail (can_tail ca) (can_tail cb) (by omega)]
theorem limbsF_can : ∀ (f : Nat) (n : Int), n.toNat ≤ f → Can (limbsF f n)
  | 0, n, _ => fun h => absurd rfl h
  | f + 1, n, hf => by
    unfold limbsF; split
    · exact fun h => absurd rfl h
    · intro hne
      by_cases hz : limbsF f (n / 10000) = []
      · simp only [hz, List.getLast_singleton]
        have := limbsF_val f (n / 10000) (by omega) (by omega)
        rw [hz] at this
        simp [val] at this
        omega
      · rw [List.getLast_cons hz]
        exact limbsF_can f (n / 10000) (by omega) hz
theorem limbs_can (n : Int) : Can (limbs n) := limbsF_can _ _ (Nat.le_refl _)
theorem can_eq {zs : List Int} (hd : Dig zs) (hc : Can zs) : zs = limbs (val zs) := can_unique hd (limbs_dig _) hc (limbs_can _) (limbs_val (val_nonneg hd)).symm
theorem limbs_nil {n : Int} : limbs n = [] ↔ n ≤ 0 := by
  constructor
  · intro h
    rcases Int.lt_or_le n 0 with h1 | h1
    · omega
    · have := limbs_val h1
      rw [h] at this; simp [val] at this; omega
  · intro h
    unfold limbs
    rw [show n.toNat = 0 by omega]; rfl
theorem limbs_step {n : Int} (h : 0 < n) : limbs n = n % 10000 :: limbs (n / 10000) := by
  refine can_unique (limbs_dig _) (Dig.cons (by omega) (limbs_dig _)) (limbs_can _) ?_ ?_
  · intro hne
    by_cases hz : limbs (n / 10000) = []
    · simp only [hz, List.getLast_singleton]
      have := limbs_nil.1 hz
      omega
    · rw [List.getLast_cons hz]; exact limbs_can _ hz
  · rw [limbs_val (by omega)]; simp only [val]; rw [limbs_val (by omega)]; omega
theorem can_ge {zs : List Int} (hd : Dig zs) (hc : Can zs) (hne : zs ≠ []) : 10000 ^ (zs.length - 1) ≤ val zs := by
  have h := List.dropLast_concat_getLast hne
  have h1 : val zs = val zs.dropLast + 10000 ^ zs.dropLast.length * zs.getLast hne := by
    conv => lhs; rw [← h]
    rw [val_append]; simp [val]
  have h2 := hc hne
  have h3 := hd _ (List.getLast_mem hne)
  have h4 : 0 ≤ val zs.dropLast := val_nonneg fun z hz => hd z (List.dropLast_subset _ hz)
  have h5 := p4_pos zs.dropLast.length
  rw [List.length_dropLast] at h1 h5
  have h6 : 10000 ^ (zs.length - 1) * 1 ≤ 10000 ^ (zs.length - 1) * zs.getLast hne := Int.mul_le_mul_of_nonneg_left (by omega) (by omega)
  omega
theorem p4_mono {a b : Nat} (h : a ≤ b) : (10000 : Int) ^ a ≤ 10000 ^ b := by
  obtain ⟨d, rfl⟩ := Nat.exists_eq_add_of_le h
  rw [Int.pow_add]
  have h1 := p4_pos a
  have h2 := p4_pos d
  have := Int.mul_le_mul_of_nonneg_left (show (1 : Int) ≤ 10000 ^ d by omega) (show (0 : Int) ≤ 10000 ^ a by omega)
  omega
theorem limbs_len {n : Int} {k : Nat} : (limbs n).length ≤ k ↔ n < 10000 ^ k := by
  rcases Int.lt_or_le 0 n with h | h
  · have hv := limbs_val (n := n) (by omega)
    constructor
    · intro hl
      have h1 := val_lt (limbs_dig n)
      have h2 := p4_mono hl
      omega
    · intro hl
      rcases Nat.lt_or_ge k (limbs n).length with h1 | h1
      · exfalso
        have hne : limbs n ≠ [] := by intro e; rw [e] at h1; simp at h1
        have h2 := can_ge (limbs_dig n) (limbs_can n) hne
        have h3 := p4_mono (a := k) (b := (limbs n).length - 1) (by omega)
        omega
      · exact h1
  · have := limbs_nil.2 h
    have h2 := p4_pos k
    rw [this]; simp; omega

/-! ### cutting off zeros at the end -/
theorem trim_eq {zs : List Int} (hd : Dig zs) {k : Nat} (hk : k ≤ zs.length) (hz : ∀ j, k ≤ j → j < zs.length → zs.getD j 0 = 0) (hl : k = 0 ∨ zs.getD (k - 1) 0 ≠ 0) : zs.take k = limbs (val zs) := by
  have h1 : val zs = val (zs.take k) := by
    conv => lhs; rw [← List.take_append_drop k zs]
    rw [val_append]
    have : zs.drop k = List.replicate (zs.length - k) 0 := by
      rw [List.eq_replicate_iff]
      refine ⟨by simp, fun x hx => ?_⟩
      obtain ⟨i, hi, he⟩ := List.getElem_of_mem hx
      simp at hi
      have := hz (k + i) (by omega) (by omega)
      rw [gD_lt (by omega)] at this
      rw [← he, List.getElem_drop]; exact this
    rw [this, val_zeros]; simp
  rw [h1]
  refine can_eq (hd.take k) ?_
  intro hne
  rcases hl with rfl | hl
  · simp at hne
  · have hk0 : 0 < k := by
      rcases Nat.eq_zero_or_pos k with rfl | h
      · simp at hne
      · exact h
    rw [List.getLast_eq_getElem]
    rw [gD_lt (by omega)] at hl
    simp only [List.length_take, Nat.min_eq_left hk, List.getElem_take]
    exact hl

/-! ### sums -/
/-- one step of a sum with carry -/
theorem sum_step {a b ys : List Int} {s c x y c' : Int} {i : Nat} (h : val ys + 10000 ^ i * c = val (a.take i) + s * val (b.take i)) (hl : ys.length = i) (hx : x = c + a.getD i 0 + s * b.getD i 0) (hy : x = y + 10000 * c') :
    val (ys ++ [y]) + 10000 ^ (i + 1) * c' = val (a.take (i + 1)) + s * val (b.take (i + 1)) := by
  rw [val_append, val_take_succ, val_take_succ, hl]
  simp only [val, Int.pow_succ]
  subst hx
  grind
theorem sum_end {V c : Int} {n : Nat} {ys : List Int} (hd : Dig ys) (hl : ys.length = n) (h : val ys + 10000 ^ n * c = V) (h0 : 0 ≤ V) (h1 : V < 10000 ^ n) : val ys = V := by
  have a1 := val_nonneg hd
  have a2 := val_lt hd
  rw [hl] at a2
  have hp := p4_pos n
  have : c = 0 := by
    rcases Int.lt_trichotomy c 0 with hc | hc | hc
    · exfalso
      have := Int.mul_le_mul_of_nonneg_left (show c ≤ -1 by omega) (show (0 : Int) ≤ 10000 ^ n by omega)
      omega
    · exact hc
    · exfalso
      have := Int.mul_le_mul_of_nonneg_left (show 1 ≤ c by omega) (show (0 : Int) ≤ 10000 ^ n by omega)
      omega
  subst this; omega

/-! ### products -/
/-- the inner step of a product in place: y = out[k] + carry + x * b[k - i] -/
theorem mul_step {out b : List Int} {x c V y r q : Int} {i k : Nat} (hk : k < out.length) (hik : i ≤ k)
    (h : val out + 10000 ^ k * c = V + 10000 ^ i * (x * val (b.take (k - i)))) (hy : y = out.getD k 0 + c + x * b.getD (k - i) 0) (hq : y = r + 10000 * q) :
    val (out.set k r) + 10000 ^ (k + 1) * q = V + 10000 ^ i * (x * val (b.take (k + 1 - i))) := by
  rw [val_set _ _ _ hk, show k + 1 - i = k - i + 1 by omega, val_take_succ, Int.pow_succ]
  have hp : (10000 : Int) ^ k = 10000 ^ i * 10000 ^ (k - i) := by rw [← Int.pow_add]; congr 1; omega
  have : 10000 ^ k * q * 10000 = 10000 ^ k * (y - r) := by rw [hq]; grind
  grind
/-- sums of products without carries -/
theorem cross_step {sums b : List Int} {x y V : Int} {i k : Nat} (hk : i + k < sums.length) (h : val sums = V + 10000 ^ i * (x * val (b.take k))) (hy : y = sums.getD (i + k) 0 + x * b.getD k 0) :
    val (sums.set (i + k) y) = V + 10000 ^ i * (x * val (b.take (k + 1))) := by
  rw [val_set _ _ _ hk, val_take_succ, h, hy, Int.pow_add]
  grind
/-- one step of carrying: sums[i] := (sums[i] + carry) % 10000 -/
theorem carry_step {sums : List Int} {V c n r q : Int} {i : Nat} (hi : i < sums.length) (h : val sums + 10000 ^ i * c = V) (hn : n = sums.getD i 0 + c) (hq : n = r + 10000 * q) :
    val (sums.set i r) + 10000 ^ (i + 1) * q = V := by
  rw [val_set _ _ _ hi, Int.pow_succ]
  have : 10000 ^ i * q * 10000 = 10000 ^ i * (n - r) := by rw [hq]; grind
  grind

/-! ### quotients -/
theorem div_step {a q : List Int} {n rest x y : Int} {i : Nat} (hi : i < a.length) (hq : q.length = a.length) (h : val (a.drop (i + 1)) = n * val (q.drop (i + 1)) + rest) (hx : rest * 10000 + a.getD i 0 = n * y + x) :
    val (a.drop i) = n * val ((q.set i y).drop i) + x := by
  rw [val_drop a i hi, val_drop _ i (by simpa [hq] using hi)]
  rw [gD_lt hi] at hx
  have : (q.set i y).drop (i + 1) = q.drop (i + 1) := by rw [List.drop_set_of_lt (by omega)]
  rw [this, List.getElem_set_self, h]
  grind

/-! ### order -/
theorem cmp_hi {a b : List Int} (ha : Dig a) (hb : Dig b) {i : Nat} (h : val (a.drop (i + 1)) = val (b.drop (i + 1))) (hlt : a.getD i 0 < b.getD i 0) : val a < val b := by
  have key : ∀ z : List Int, val z = val (z.take i) + 10000 ^ i * z.getD i 0 + 10000 ^ (i + 1) * val (z.drop (i + 1)) := fun z => by
    by_cases hi : i < z.length
    · conv => lhs; rw [← List.take_append_drop (i + 1) z]
      rw [val_append, val_take_succ, List.length_take, Nat.min_eq_left (by omega)]
    · rw [gD_ge (by omega), List.take_of_length_le (by omega), List.drop_eq_nil_of_le (by omega)]
      simp [val]
  rw [key a, key b, h]
  have h1 := val_lt (ha.take i)
  have h2 := val_nonneg (hb.take i)
  have h3 : 10000 ^ (a.take i).length ≤ (10000 : Int) ^ i := p4_mono (by simp; omega)
  have h4 := Int.mul_le_mul_of_nonneg_left (show a.getD i 0 + 1 ≤ b.getD i 0 by omega) (show (0 : Int) ≤ 10000 ^ i by have := p4_pos i; omega)
  rw [Int.mul_add, Int.mul_one] at h4
  omega
theorem drop_eq_step {a b : List Int} {i : Nat} (h : val (a.drop (i + 1)) = val (b.drop (i + 1))) (he : a.getD i 0 = b.getD i 0) : val (a.drop i) = val (b.drop i) := by
  have key : ∀ z : List Int, val (z.drop i) = z.getD i 0 + 10000 * val (z.drop (i + 1)) := fun z => by
    by_cases hi : i < z.length
    · rw [val_drop z i hi, gD_lt hi]
    · rw [gD_ge (by omega), List.drop_eq_nil_of_le (by omega), List.drop_eq_nil_of_le (by omega)]
      simp [val]
  rw [key a, key b, h, he]

/-! ### signs -/
def mkW (neg : Bool) (m : Int) : Int := if neg = true then -m else m
def ngB (n : Int) : Bool := decide (n < 0)
def ab (n : Int) : Int := (n.natAbs : Int)
theorem ab_nonneg (n : Int) : 0 ≤ ab n := by unfold ab; omega
theorem mkW_ng {neg : Bool} {m : Int} (h : 0 ≤ m) : ngB (mkW neg m) = (neg && decide (0 < m)) := by
  unfold ngB mkW
  cases neg
  · simp; omega
  · simp
theorem mkW_ab {neg : Bool} {m : Int} (h : 0 ≤ m) : ab (mkW neg m) = m := by
  unfold ab mkW; split <;> omega
theorem trim_res {neg : Bool} {zs : List Int} (hd : Dig zs) {k : Nat} (hk : k ≤ zs.length) (hz : ∀ j, k ≤ j → j < zs.length → zs.getD j 0 = 0) (hl : k = 0 ∨ zs.getD (k - 1) 0 ≠ 0) :
    zs.take k = limbs (ab (mkW neg (val zs))) ∧ ngB (mkW neg (val zs)) = (neg && decide (0 < k)) := by
  have h1 := trim_eq hd hk hz hl
  have h2 := val_nonneg hd
  rw [mkW_ab h2, mkW_ng h2]
  refine ⟨h1, ?_⟩
  congr 1
  rw [Bool.eq_iff_iff]
  simp only [decide_eq_true_eq]
  have h3 : (zs.take k).length = k := by simp; omega
  rw [h1] at h3
  have h4 := limbs_nil (n := val zs)
  rcases Nat.eq_zero_or_pos k with h | h
  · subst h
    have := h4.1 (List.length_eq_zero_iff.1 h3)
    omega
  · constructor
    · intro _; exact h
    · intro _
      rcases Int.lt_or_le 0 (val zs) with h5 | h5
      · exact h5
      · have := h4.2 h5
        rw [this] at h3; simp at h3; omega
theorem mkW_self (n : Int) : mkW (ngB n) (ab n) = n := by
  unfold mkW ngB ab; by_cases h : n < 0 <;> simp [h] <;> omega
theorem mkW_neg (n : Int) : mkW (!ngB n) (ab n) = -n := by
  unfold mkW ngB ab; by_cases h : n < 0 <;> simp [h] <;> omega
theorem mkW_abs (n : Int) : mkW false (ab n) = ab n := rfl
theorem add_same {a b : Int} (h : ngB a = ngB b) : mkW (ngB a) (ab a + ab b) = a + b := by
  unfold mkW ngB ab at *
  by_cases h1 : a < 0 <;> by_cases h2 : b < 0 <;> simp [h1, h2] at h ⊢ <;> omega
theorem add_other {a b : Int} (h : ngB a ≠ ngB b) (hs : ab b ≤ ab a) : mkW (ngB a) (ab a - ab b) = a + b := by
  unfold mkW ngB ab at *
  by_cases h1 : a < 0 <;> by_cases h2 : b < 0 <;> simp [h1, h2] at h ⊢ <;> omega
theorem mul_sign (a b : Int) : mkW (ngB a != ngB b) (ab a * ab b) = a * b := by
  unfold mkW ngB ab
  rcases Int.lt_or_le a 0 with h1 | h1 <;> rcases Int.lt_or_le b 0 with h2 | h2
  · have e1 : ((a.natAbs : Nat) : Int) = -a := by omega
    have e2 : ((b.natAbs : Nat) : Int) = -b := by omega
    simp [h1, h2, e1, e2, Int.neg_mul, Int.mul_neg]
  · have e1 : ((a.natAbs : Nat) : Int) = -a := by omega
    have e2 : ((b.natAbs : Nat) : Int) = b := by omega
    have : ¬ b < 0 := by omega
    simp [h1, this, e1, e2, Int.neg_mul, Int.mul_neg]
  · have e1 : ((a.natAbs : Nat) : Int) = a := by omega
    have e2 : ((b.natAbs : Nat) : Int) = -b := by omega
    have : ¬ a < 0 := by omega
    simp [h2, this, e1, e2, Int.neg_mul, Int.mul_neg]
  · have e1 : ((a.natAbs : Nat) : Int) = a := by omega
    have e2 : ((b.natAbs : Nat) : Int) = b := by omega
    have h3 : ¬ a < 0 := by omega
    have h4 : ¬ b < 0 := by omega
    simp [h3, h4, e1, e2]
theorem div_pos {a n q r : Int} (hn : 0 < n) (h : ab a = n * q + r) (hr : 0 ≤ r ∧ r < n) (ha : 0 ≤ a ∨ r = 0) : mkW (ngB a) q = a / n ∧ r = a % n := by
  have hu : ∀ k s : Int, a = n * k + s → 0 ≤ s → s < n → k = a / n ∧ s = a % n := fun k s e h1 h2 => by
    have e1 : a / n = k := by
      rw [e, Int.add_comm, Int.add_mul_ediv_left _ _ (by omega), Int.ediv_eq_zero_of_lt h1 h2]; omega
    refine ⟨e1.symm, ?_⟩
    have := Int.emod_add_mul_ediv a n
    rw [e1] at this; omega
  unfold ab at h
  by_cases h1 : a < 0
  · have : r = 0 := by rcases ha with h' | h' <;> omega
    subst this
    have e : ngB a = true := by simp [ngB, h1]
    rw [e]; unfold mkW; simp only [if_true]
    exact hu (-q) 0 (by rw [Int.mul_neg]; omega) (by omega) (by omega)
  · have e : ngB a = false := by simp [ngB]; omega
    rw [e]; unfold mkW; simp only [Bool.false_eq_true, if_false]
    exact hu q r (by omega) hr.1 hr.2
theorem div_neg {a n q r : Int} (hn : 0 < n) (h : ab a = n * q + r) (hr : 0 < r ∧ r < n) (ha : a < 0) : mkW (ngB a) q + -1 = a / n ∧ n - r = a % n := by
  have hu : ∀ k s : Int, a = n * k + s → 0 ≤ s → s < n → k = a / n ∧ s = a % n := fun k s e h1 h2 => by
    have e1 : a / n = k := by
      rw [e, Int.add_comm, Int.add_mul_ediv_left _ _ (by omega), Int.ediv_eq_zero_of_lt h1 h2]; omega
    refine ⟨e1.symm, ?_⟩
    have := Int.emod_add_mul_ediv a n
    rw [e1] at this; omega
  unfold ab at h
  have e : ngB a = true := by simp [ngB, ha]
  rw [e]; unfold mkW; simp only [if_true]
  exact hu (-q + -1) (n - r) (by rw [Int.mul_add, Int.mul_neg]; omega) (by omega) (by omega)

theorem div_digit {d rest z : Int} (hd : 1 ≤ d) (hr : 0 ≤ rest ∧ rest < d) (hz : 0 ≤ z ∧ z ≤ 9999) : 0 ≤ (rest * 10000 + z) / d ∧ (rest * 10000 + z) / d ≤ 9999 := by
  refine ⟨Int.ediv_nonneg (by omega) (by omega), ?_⟩
  have : (rest * 10000 + z) / d < 10000 := Int.ediv_lt_of_lt_mul (by omega) (by omega)
  omega
theorem div_all {z d rest : Int} {qs : List Int} (hd : 1 ≤ d) (hz : ngB z = false) (hr : 0 ≤ rest ∧ rest < d) (h : val ((limbs (ab z)).drop 0) = d * val (qs.drop 0) + rest) : mkW false (val qs) = z / d ∧ rest = z % d := by
  rw [List.drop_zero, List.drop_zero, limbs_val (ab_nonneg z)] at h
  have := div_pos (a := z) (by omega) h hr (.inl (by simp [ngB] at hz; exact hz))
  rwa [hz] at this
/-! ### how many bits -/
def bl (n : Int) : Nat := Lib.bitLenAux n.toNat n.toNat
theorem bl_fuel {f x : Nat} (h : x < 2 ^ f) : Lib.bitLenAux f x = Lib.bitLenAux x x := by
  rcases Nat.le_total x f with h1 | h1
  · exact Lib.bitLenAux_fuel x x (Nat.lt_two_pow_self) f h1
  · exact (Lib.bitLenAux_fuel f x h x h1).symm
theorem bl_zero {n : Int} (h : n ≤ 0) : bl n = 0 := by
  unfold bl; rw [show n.toNat = 0 by omega]; rfl
theorem bl_half {n : Int} (h : 0 < n) : bl n = 1 + bl (n / 2) := by
  unfold bl
  obtain ⟨m, hm⟩ : ∃ m, n.toNat = m + 1 := ⟨n.toNat - 1, by omega⟩
  have h2 : (n / 2).toNat = n.toNat / 2 := by omega
  rw [h2, hm]
  show (if m + 1 = 0 then 0 else 1 + Lib.bitLenAux m ((m + 1) / 2)) = _
  rw [if_neg (by omega), bl_fuel]
  have := Nat.lt_two_pow_self (n := m)
  omega
theorem bl_shift : ∀ (k : Nat) (n : Int), 2 ^ k ≤ n → bl n = k + bl (n / 2 ^ k)
  | 0, n, _ => by simp
  | k + 1, n, h => by
    have hp : (0 : Int) < 2 ^ k := Int.pow_pos (by omega)
    rw [Int.pow_succ] at h
    rw [bl_half (by omega), bl_shift k (n / 2) (by omega), Int.ediv_ediv_of_nonneg (by omega), Int.pow_succ, Int.mul_comm 2]
    omega
theorem bl_lib {n : Int} (h : n < 18446744073709551616) : Lib.bitLen n.toNat = bl n := by
  unfold Lib.bitLen bl
  exact bl_fuel (by have : (2 : Nat) ^ 64 = 18446744073709551616 := by decide
                    omega)
theorem p4_two : ∀ n : Nat, (10000 : Int) ^ n ≤ 2 ^ (14 * n)
  | 0 => by simp
  | n + 1 => by
    rw [Int.pow_succ, show 14 * (n + 1) = 14 * n + 14 by omega, Int.pow_add]
    have h := p4_two n
    have h0 := p4_pos n
    have e : (2 : Int) ^ 14 = 16384 := by decide
    rw [e]
    omega
theorem bl_le {n : Int} {k : Nat} (h : n < 2 ^ k) : bl n ≤ k := by
  unfold bl
  refine Lib.bitLenAux_le _ _ k ?_
  have hp : (0 : Int) < 2 ^ k := Int.pow_pos (by omega)
  have : ((n.toNat : Nat) : Int) < ((2 ^ k : Nat) : Int) := by push_cast; omega
  exact_mod_cast this
theorem bl_len (z : Int) : bl z ≤ 14 * (limbs z).length := bl_le (Int.lt_of_lt_of_le (limbs_len.1 (Nat.le_refl _)) (p4_two _))
theorem limb0 {z : Int} (h0 : 0 ≤ z) (h : (limbs z).length ≤ 1) : (limbs z).getD 0 0 = z := by
  have h1 := limbs_len.1 h
  rcases Int.lt_or_le 0 z with h2 | h2
  · rw [limbs_step h2]
    simp at h1 ⊢
    omega
  · rw [limbs_nil.2 h2]; simp; omega
theorem ab_pos {z : Int} (h : 0 ≤ z) : ab z = z := by unfold ab; omega
/-! ### taking a number apart -/
theorem of_small {ys : List Int} {m N : Int} (hd : Dig ys) (h : val ys + 10000 ^ ys.length * m = N) (hm : 1 ≤ m) (hN : N ≤ 9223372036854775807) : ys.length ≤ 4 := by
  rcases Nat.lt_or_ge 4 ys.length with h1 | h1
  · exfalso
    have h2 := p4_mono h1
    have h3 := val_nonneg hd
    have h4 : 10000 ^ ys.length * 1 ≤ 10000 ^ ys.length * m := Int.mul_le_mul_of_nonneg_left hm (by have := p4_pos ys.length; omega)
    have h5 : (10000 : Int) ^ (4 + 1) = 100000000000000000000 := by decide
    omega
  · exact h1
theorem of_step {ys : List Int} {m N : Int} (h : val ys + 10000 ^ ys.length * m = N) : val (ys ++ [m % 10000]) + 10000 ^ (ys ++ [m % 10000]).length * (m / 10000) = N := by
  rw [val_append]
  simp only [val, List.length_append, List.length_singleton, Int.pow_succ]
  have := Int.emod_add_mul_ediv m 10000
  grind
theorem of_end {ys : List Int} {m n : Int} (hm : m = 0) (h : val ys + 10000 ^ ys.length * m = ab n) : mkW (ngB n) (val ys) = n := by
  subst hm
  rw [Int.mul_zero, Int.add_zero] at h
  rw [h, mkW_self]
end
section
def tupAt (v : Value) (i : Nat) : Value := match v with
  | .tuple vs => vs.getD i undef
  | _ => undef
theorem tupAt0 (a b : Value) : tupAt (.tuple #[a, b]) 0 = a := rfl
theorem tupAt1 (a b : Value) : tupAt (.tuple #[a, b]) 1 = b := rfl
end
end Go.Proofs.YtnkmgpmehkholaaGreat
