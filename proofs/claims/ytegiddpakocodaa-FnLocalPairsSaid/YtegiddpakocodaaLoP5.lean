/- Plain words: the first pair that lifts, level after level; the least number that lifts, digit after digit. No program in sight. -/
import Derived.Test.YtegiddpakocodaaLoP4
namespace Go.Proofs.Ytegiddpakocodaa
open Go.RowKit
set_option linter.unusedVariables false
set_option linter.unusedSimpArgs false
/-! ### level after level -/
def fdL (D A C p : Int) (k : Nat) : Option (Int × Int) := (pl D A C p k).find? fun x => liB D A C x.1 x.2 p k
/-- what comes of level k and the f levels behind it -/
def lpF (D A C p : Int) : Nat → Nat → (Int × Int) × (Int × Bool)
  | 0, k => match fdL D A C p k with
    | some x => (x, (k, true))
    | none => ((0, 0), (0, !(pl D A C p k).isEmpty))
  | f + 1, k => match fdL D A C p k with
    | some x => (x, (k, true))
    | none => if (pl D A C p k).isEmpty = true then ((0, 0), (0, false)) else lpF D A C p f (k + 1)
def lpV (D A C p : Int) : (Int × Int) × (Int × Bool) := lpF D A C p (dp p - 1) 1
theorem lpF_some {D A C p : Int} {f k : Nat} {x : Int × Int} (h : fdL D A C p k = some x) : lpF D A C p f k = (x, ((k : Int), true)) := by
  cases f <;> simp [lpF, h]
theorem lpF_end {D A C p : Int} {k : Nat} (h : fdL D A C p k = none) : lpF D A C p 0 k = ((0, 0), (0, !(pl D A C p k).isEmpty)) := by simp [lpF, h]
theorem lpF_nil {D A C p : Int} {f k : Nat} (h : fdL D A C p k = none) (h2 : (pl D A C p k).isEmpty = true) : lpF D A C p f k = ((0, 0), (0, false)) := by
  cases f <;> simp [lpF, h, h2]
theorem lpF_next {D A C p : Int} {f k : Nat} (h : fdL D A C p k = none) (h2 : (pl D A C p k).isEmpty = false) : lpF D A C p (f + 1) k = lpF D A C p f (k + 1) := by simp [lpF, h, h2]
/-! ### digit after digit -/
def mnS (b y : Int) : Int := if 0 ≤ y ∧ (b < 0 ∨ y < b) then y else b
def IsMn (S : Int → Prop) (b : Int) : Prop := (b = -1 ∧ ∀ y, ¬ S y) ∨ (S b ∧ 0 ≤ b ∧ ∀ y, S y → b ≤ y)
theorem IsMn.union {S T U : Int → Prop} {b c : Int} (h : IsMn S b) (h' : IsMn T c) (hU : ∀ y, U y ↔ S y ∨ T y) : IsMn U (mnS b c) := by
  unfold mnS
  rcases h with ⟨rfl, h⟩ | ⟨h1, h2, h3⟩ <;> rcases h' with ⟨rfl, h'⟩ | ⟨h1', h2', h3'⟩
  · left; exact ⟨by simp, fun y hy => ((hU y).1 hy).elim (h y) (h' y)⟩
  · right
    rw [if_pos ⟨h2', by left; omega⟩]
    exact ⟨(hU c).2 (.inr h1'), h2', fun y hy => ((hU y).1 hy).elim (fun q => (h y q).elim) (h3' y)⟩
  · right
    rw [if_neg (by omega)]
    exact ⟨(hU b).2 (.inl h1), h2, fun y hy => ((hU y).1 hy).elim (h3 y) (fun q => (h' y q).elim)⟩
  · right
    by_cases hc : c < b
    · rw [if_pos ⟨h2', .inr hc⟩]
      exact ⟨(hU c).2 (.inr h1'), h2', fun y hy => ((hU y).1 hy).elim (fun q => by have := h3 y q; omega) (h3' y)⟩
    · rw [if_neg (by omega)]
      exact ⟨(hU b).2 (.inl h1), h2, fun y hy => ((hU y).1 hy).elim (h3 y) (fun q => by have := h3' y q; omega)⟩
theorem IsMn.congr {S U : Int → Prop} {b : Int} (h : IsMn S b) (hU : ∀ y, U y ↔ S y) : IsMn U b := by
  rcases h with ⟨h, h'⟩ | ⟨h1, h2, h3⟩
  · exact .inl ⟨h, fun y hy => h' y ((hU y).1 hy)⟩
  · exact .inr ⟨(hU b).2 h1, h2, fun y hy => h3 y ((hU y).1 hy)⟩
def mS (s r : Int × Bool) : Int × Bool := (mnS s.1 r.1, s.2 || r.2)
/-- how many digits come at level i -/
def dgN (p : Int) (tn : Bool) (i : Nat) : Nat := if (tn && i == 0) = true then 1 else p.toNat
def bv (po : Int → Nat → Bool) (li : Int → Bool) (p : Int) (tn : Bool) : Nat → Int → Nat → Int × Bool
  | 0, x, i => if po x i = true then (if li x = true then x else -1, true) else (-1, false)
  | f + 1, x, i => if i ≠ 0 ∧ po x i = false then (-1, false) else (List.range (dgN p tn i)).foldl (fun s (t : Nat) => mS s (bv po li p tn f (x + t * p ^ i) (i + 1))) (-1, false)
/-- the fold over the first n digits -/
def bvN (po : Int → Nat → Bool) (li : Int → Bool) (p : Int) (tn : Bool) (f : Nat) (x : Int) (i n : Nat) : Int × Bool := (List.range n).foldl (fun s (t : Nat) => mS s (bv po li p tn f (x + t * p ^ i) (i + 1))) (-1, false)
theorem bvN_zero (po : Int → Nat → Bool) (li : Int → Bool) (p : Int) (tn : Bool) (f : Nat) (x : Int) (i : Nat) : bvN po li p tn f x i 0 = (-1, false) := rfl
theorem bvN_succ (po : Int → Nat → Bool) (li : Int → Bool) (p : Int) (tn : Bool) (f : Nat) (x : Int) (i n : Nat) : bvN po li p tn f x i (n + 1) = mS (bvN po li p tn f x i n) (bv po li p tn f (x + n * p ^ i) (i + 1)) := by
  unfold bvN; rw [List.range_succ, List.foldl_append]; rfl
def cand (p x : Int) (i f : Nat) (y : Int) : Prop := ∃ t : Nat, (t : Int) < p ^ f ∧ y = x + t * p ^ i
theorem cand_zero {p x : Int} {i : Nat} {y : Int} : cand p x i 0 y ↔ y = x := by
  constructor
  · rintro ⟨t, h, rfl⟩; rw [Int.pow_zero] at h; obtain rfl : t = 0 := by omega
    simp
  · rintro rfl; exact ⟨0, by simp, by simp⟩
theorem cand_succ {p x : Int} (hp : 2 ≤ p) {i f : Nat} {y : Int} : cand p x i (f + 1) y ↔ ∃ t : Nat, t < p.toNat ∧ cand p (x + t * p ^ i) (i + 1) f y := by
  have hq := pow_pos' (p := p) (by omega) f
  constructor
  · rintro ⟨t, h, rfl⟩
    obtain ⟨P, rfl⟩ : ∃ P : Nat, p = P := ⟨p.toNat, by omega⟩
    refine ⟨t % P, by rw [Int.toNat_natCast]; exact Nat.mod_lt _ (by omega), t / P, ?_, ?_⟩
    · rw [Int.pow_succ] at h
      have h2 : ((t / P : Nat) : Int) = (t : Int) / P := by push_cast; rfl
      rw [h2]
      exact Int.ediv_lt_of_lt_mul (by omega) h
    · have h1 : (t : Int) = (t % P : Nat) + (t / P : Nat) * P := by
        have := Nat.mod_add_div t P
        rw [Nat.mul_comm] at this; omega
      rw [Int.add_assoc]
      congr 1
      conv => lhs; rw [h1]
      rw [Int.pow_succ, Int.add_mul, Int.mul_assoc, Int.mul_comm (P : Int) ((P : Int) ^ i)]
  · rintro ⟨t, ht, u, hu, rfl⟩
    obtain ⟨P, rfl⟩ : ∃ P : Nat, p = P := ⟨p.toNat, by omega⟩
    rw [Int.toNat_natCast] at ht
    refine ⟨t + u * P, ?_, ?_⟩
    · rw [Int.pow_succ]
      have h1 : (u : Int) + 1 ≤ (P : Int) ^ f := by omega
      have h2 : ((u : Int) + 1) * P ≤ (P : Int) ^ f * P := Int.mul_le_mul_of_nonneg_right h1 (by omega)
      rw [Int.add_mul] at h2
      push_cast
      omega
    · rw [Int.add_assoc]
      congr 1
      push_cast
      rw [Int.pow_succ, Int.add_mul, Int.mul_assoc (u : Int), Int.mul_comm (P : Int) ((P : Int) ^ i)]
theorem cand_cg {p x : Int} {i f : Nat} {y : Int} (h : cand p x i f y) : Cg (p ^ i) y x := by
  obtain ⟨t, _, rfl⟩ := h
  exact cg_shift _ _ _
theorem Cg.lower {p x y : Int} {i : Nat} (h : Cg (p ^ (i + 1)) x y) : Cg (p ^ i) x y := by
  unfold Cg at *
  rw [← Int.emod_emod_of_dvd x (pow_dvd_succ p i), h, Int.emod_emod_of_dvd _ (pow_dvd_succ p i)]
theorem po_down {po : Int → Nat → Bool} {p : Int} (hm : ∀ y x i, Cg (p ^ i) y x → po y (i + 1) = true → po x i = true) {y : Int} : ∀ (f i : Nat) {x : Int}, Cg (p ^ i) y x → po y (i + f + 1) = true → po x i = true
  | 0, i, x, hc, h => hm y x i hc h
  | f + 1, i, x, hc, h => hm y x i hc (po_down hm f (i + 1) (Cg.refl _ _) (by rw [show i + 1 + f + 1 = i + (f + 1) + 1 by omega]; exact h))
structure BvOk (po : Int → Nat → Bool) (li : Int → Bool) (k : Nat) (S : Int → Prop) (r : Int × Bool) : Prop where
  min : IsMn (fun y => S y ∧ li y = true) r.1
  any : r.2 = true ↔ ∃ y, S y ∧ po y k = true
theorem bv_fold {po : Int → Nat → Bool} {li : Int → Bool} {p : Int} {tn : Bool} {k f i : Nat} {x : Int} {S : Nat → Int → Prop} (h : ∀ t, BvOk po li k (S t) (bv po li p tn f (x + t * p ^ i) (i + 1))) : ∀ n, BvOk po li k (fun y => ∃ t, t < n ∧ S t y) (bvN po li p tn f x i n)
  | 0 => by
    rw [bvN_zero]
    refine ⟨.inl ⟨rfl, ?_⟩, ?_⟩
    · rintro y ⟨⟨t, ht, _⟩, _⟩; omega
    · simp
  | n + 1 => by
    rw [bvN_succ]
    obtain ⟨h1, h2⟩ := bv_fold h n
    obtain ⟨h3, h4⟩ := h n
    refine ⟨h1.union h3 fun y => ?_, ?_⟩
    · constructor
      · rintro ⟨⟨t, ht, hs⟩, hl⟩
        by_cases e : t = n
        · subst e; exact .inr ⟨hs, hl⟩
        · exact .inl ⟨⟨t, by omega, hs⟩, hl⟩
      · rintro (⟨⟨t, ht, hs⟩, hl⟩ | ⟨hs, hl⟩)
        · exact ⟨⟨t, by omega, hs⟩, hl⟩
        · exact ⟨⟨n, by omega, hs⟩, hl⟩
    · show (_ || _) = true ↔ _
      rw [Bool.or_eq_true, h2, h4]
      constructor
      · rintro (⟨y, ⟨t, ht, hs⟩, hl⟩ | ⟨y, hs, hl⟩)
        · exact ⟨y, ⟨t, by omega, hs⟩, hl⟩
        · exact ⟨y, ⟨n, by omega, hs⟩, hl⟩
      · rintro ⟨y, ⟨t, ht, hs⟩, hl⟩
        by_cases e : t = n
        · subst e; exact .inr ⟨y, hs, hl⟩
        · exact .inl ⟨y, ⟨t, by omega, hs⟩, hl⟩
theorem BvOk.congr {po : Int → Nat → Bool} {li : Int → Bool} {k : Nat} {S U : Int → Prop} {r : Int × Bool} (h : BvOk po li k S r) (hU : ∀ y, U y ↔ S y) : BvOk po li k U r :=
  ⟨h.min.congr fun y => by rw [hU], by rw [h.any]; exact ⟨fun ⟨y, a, b⟩ => ⟨y, (hU y).2 a, b⟩, fun ⟨y, a, b⟩ => ⟨y, (hU y).1 a, b⟩⟩⟩
theorem bv_ok {po : Int → Nat → Bool} {li : Int → Bool} {p : Int} {tn : Bool} {k : Nat} (hp : 2 ≤ p) (hm : ∀ y x i, Cg (p ^ i) y x → po y (i + 1) = true → po x i = true) (hl : ∀ y, li y = true → po y k = true) :
    ∀ (f i : Nat) (x : Int), i + f = k → 0 ≤ x → (tn = false ∨ 1 ≤ i) → BvOk po li k (cand p x i f) (bv po li p tn f x i)
  | 0, i, x, hk, hx, _ => by
    obtain rfl : i = k := by omega
    unfold bv
    cases h1 : po x i
    · have h2 : li x = false := by cases h2 : li x; · rfl
                                   · rw [hl x h2] at h1; cases h1
      refine ⟨.inl ⟨rfl, ?_⟩, ?_⟩
      · rintro y ⟨hy, h3⟩; rw [cand_zero.1 hy, h2] at h3; cases h3
      · simp only [Bool.false_eq_true, if_false, false_iff]
        rintro ⟨y, hy, h3⟩; rw [cand_zero.1 hy, h1] at h3; cases h3
    · cases h2 : li x
      · refine ⟨.inl ⟨rfl, ?_⟩, ?_⟩
        · rintro y ⟨hy, h3⟩; rw [cand_zero.1 hy, h2] at h3; cases h3
        · simp only [if_true, true_iff]
          exact ⟨x, cand_zero.2 rfl, h1⟩
      · refine ⟨.inr ⟨⟨cand_zero.2 rfl, h2⟩, hx, ?_⟩, ?_⟩
        · rintro y ⟨hy, h3⟩; rw [cand_zero.1 hy]; simp
        · simp only [if_true, true_iff]
          exact ⟨x, cand_zero.2 rfl, h1⟩
  | f + 1, i, x, hk, hx, ht => by
    unfold bv
    by_cases h : i ≠ 0 ∧ po x i = false
    · rw [if_pos h]
      have hn : ∀ y, cand p x i (f + 1) y → po y k = false := fun y hy => by
        cases h3 : po y k
        · rfl
        · have := po_down hm f i (cand_cg hy) (by rw [show i + f + 1 = k by omega]; exact h3)
          rw [h.2] at this; cases this
      refine ⟨.inl ⟨rfl, ?_⟩, ?_⟩
      · rintro y ⟨hy, h3⟩
        have := hl y h3; rw [hn y hy] at this; cases this
      · simp only [Bool.false_eq_true, false_iff]
        rintro ⟨y, hy, h3⟩; rw [hn y hy] at h3; cases h3
    · rw [if_neg h]
      have hd : dgN p tn i = p.toNat := by
        unfold dgN
        rw [if_neg]
        rcases ht with rfl | h1
        · simp
        · simp; omega
      rw [hd]
      have hq := pow_pos' (p := p) (by omega) i
      refine (bv_fold (S := fun t => cand p (x + t * p ^ i) (i + 1) f) (fun t => bv_ok hp hm hl f (i + 1) _ (by omega) ?_ (.inr (by omega))) p.toNat).congr fun y => cand_succ hp
      have : 0 ≤ (t : Int) * p ^ i := Int.mul_nonneg (by omega) (by omega)
      omega
theorem cand_turned {p : Int} (hp : 2 ≤ p) {f : Nat} {y : Int} : (cand p 0 0 (f + 1) y ∧ y % p = 0) ↔ cand p 0 1 f y := by
  obtain ⟨P, rfl⟩ : ∃ P : Nat, p = P := ⟨p.toNat, by omega⟩
  constructor
  · rintro ⟨⟨t, ht, rfl⟩, h⟩
    rw [Int.pow_zero, Int.mul_one, Int.zero_add] at h
    have h1 : (P : Int) ∣ (t : Int) := Int.dvd_of_emod_eq_zero h
    obtain ⟨u, hu⟩ := Int.natCast_dvd_natCast.1 h1
    subst hu
    refine ⟨u, ?_, ?_⟩
    · rw [Int.pow_succ] at ht
      push_cast at ht
      rw [Int.mul_comm] at ht
      exact Int.lt_of_mul_lt_mul_right ht (by omega)
    · rw [Int.pow_zero, Int.pow_succ, Int.pow_zero]; push_cast; rw [Int.mul_one, Int.one_mul, Int.mul_comm]
  · rintro ⟨u, hu, rfl⟩
    refine ⟨⟨u * P, ?_, ?_⟩, ?_⟩
    · rw [Int.pow_succ]
      push_cast
      exact Int.mul_lt_mul_of_pos_right hu (by omega)
    · push_cast; simp [Int.pow_succ]
    · rw [Int.zero_add, Int.pow_succ, Int.pow_zero, Int.one_mul]; exact Int.mul_emod_left _ _
/-- at the head of a turned search the first digit is 0 -/
theorem bv_turned {po : Int → Nat → Bool} {li : Int → Bool} {p : Int} {f : Nat} (hp : 2 ≤ p) (hm : ∀ y x i, Cg (p ^ i) y x → po y (i + 1) = true → po x i = true) (hl : ∀ y, li y = true → po y (f + 1) = true) :
    BvOk po li (f + 1) (fun y => cand p 0 0 (f + 1) y ∧ y % p = 0) (bv po li p true (f + 1) 0 0) := by
  unfold bv
  rw [if_neg (by simp)]
  obtain ⟨h1, h2⟩ := bv_ok (tn := true) (k := f + 1) hp hm hl f 1 (0 + (0 : Nat) * p ^ 0) (by omega) (by simp) (.inr (by omega))
  have e : (0 + ((0 : Nat) : Int) * p ^ 0) = 0 := by simp
  show BvOk _ _ _ _ (mS (-1, false) (bv po li p true f (0 + ((0 : Nat) : Int) * p ^ 0) 1))
  rw [e] at h1 h2 ⊢
  refine ⟨?_, ?_⟩
  · refine (IsMn.union (S := fun _ => False) (.inl ⟨rfl, fun _ => id⟩) h1 fun y => ?_)
    rw [cand_turned hp, false_or]
  · rw [show (mS (-1, false) (bv po li p true f 0 1)).2 = (bv po li p true f 0 1).2 from Bool.false_or _, h2]
    exact ⟨fun ⟨y, a, b⟩ => ⟨y, (cand_turned hp).2 a, b⟩, fun ⟨y, a, b⟩ => ⟨y, (cand_turned hp).1 a, b⟩⟩
/-! ### both roads meet -/
theorem find_rg {q : Int → Bool} {b : Int} {N : Nat} (h : IsMn (fun y => (0 ≤ y ∧ y < N) ∧ q y = true) b) : (rg N).find? q = if b < 0 then none else some b := by
  have hr : (rg N).find? q = ((List.range N).find? fun i : Nat => q i).map fun (i : Nat) => (i : Int) := by
    unfold rg; rw [Int.toNat_natCast, List.find?_map]; rfl
  rw [hr]
  rcases h with ⟨rfl, h⟩ | ⟨⟨⟨h1, h2⟩, h3⟩, h4, h5⟩
  · rw [if_pos (by omega), Option.map_eq_none_iff, List.find?_eq_none]
    intro i hi hq
    rw [List.mem_range] at hi
    exact h i ⟨⟨by omega, by omega⟩, hq⟩
  · rw [if_neg (by omega)]
    obtain ⟨B, rfl⟩ : ∃ B : Nat, b = B := ⟨b.toNat, by omega⟩
    have : (List.range N).find? (fun i : Nat => q i) = some B := by
      rw [List.find?_range_eq_some]
      refine ⟨h3, List.mem_range.2 (by omega), fun j hj => ?_⟩
      cases hq : q j
      · rfl
      · have := h5 j ⟨⟨by omega, by omega⟩, hq⟩; omega
    rw [this]; rfl
theorem cand_all {p : Int} (hp : 2 ≤ p) {k : Nat} {y : Int} : cand p 0 0 k y ↔ 0 ≤ y ∧ y < p ^ k := by
  constructor
  · rintro ⟨t, h, rfl⟩; rw [Int.pow_zero]; omega
  · rintro ⟨h1, h2⟩; exact ⟨y.toNat, by omega, by rw [Int.pow_zero]; omega⟩
def bv1 (D A C p : Int) (k : Nat) : Int × Bool := bv (fun y i => poB D A C y 1 p i) (fun y => liB D A C y 1 p k) p false k 0 0
def bv2 (D A C p : Int) (k : Nat) : Int × Bool := bv (fun y i => poB D A C 1 y p i) (fun y => liB D A C 1 y p k) p true k 0 0
theorem bv1_ok {D A C p : Int} {k : Nat} (hp : 2 ≤ p) : BvOk (fun y i => poB D A C y 1 p i) (fun y => liB D A C y 1 p k) k (fun y => 0 ≤ y ∧ y < p ^ k) (bv1 D A C p k) :=
  (bv_ok hp (fun y x i h1 h2 => po_mono hp h1 (Cg.refl _ _) h2) (fun y h => li_po h) k 0 0 (by omega) (by omega) (.inl rfl)).congr fun y => (cand_all hp).symm
theorem bv2_ok {D A C p : Int} {k : Nat} (hp : 2 ≤ p) (hk : 1 ≤ k) : BvOk (fun y i => poB D A C 1 y p i) (fun y => liB D A C 1 y p k) k (fun y => (0 ≤ y ∧ y < p ^ k) ∧ y % p = 0) (bv2 D A C p k) := by
  obtain ⟨f, rfl⟩ : ∃ f, k = f + 1 := ⟨k - 1, by omega⟩
  exact (bv_turned hp (fun y x i h1 h2 => po_mono hp (Cg.refl _ _) h1 h2) (fun y h => li_po h)).congr fun y => by rw [cand_all hp]
theorem pl_find {D A C p : Int} {k : Nat} (hp : 2 ≤ p) (hk : 1 ≤ k) : fdL D A C p k = if (bv1 D A C p k).1 < 0 then (if (bv2 D A C p k).1 < 0 then none else some (1, (bv2 D A C p k).1)) else some ((bv1 D A C p k).1, 1) := by
  have hq := pow_pos' (p := p) (by omega) k
  have h1 := (bv1_ok (D := D) (A := A) (C := C) (k := k) hp).min
  have h2 := (bv2_ok (D := D) (A := A) (C := C) hp hk).min
  obtain ⟨N, hN⟩ : ∃ N : Nat, p ^ k = N := ⟨(p ^ k).toNat, by omega⟩
  have e1 : (pl1 D A C p k).find? (fun x => liB D A C x.1 x.2 p k) = ((rg (p ^ k)).find? fun y => liB D A C y 1 p k).map fun y => (y, 1) := by
    unfold pl1
    rw [List.find?_map, List.find?_filter]
    congr 1
    congr 1; funext y
    simp only [Function.comp]
    rw [Bool.eq_iff_iff]
    simp only [decide_eq_true_eq]
    exact ⟨fun h => h.2, fun h => ⟨li_po h, h⟩⟩
  have e2 : (pl2 D A C p k).find? (fun x => liB D A C x.1 x.2 p k) = ((rg (p ^ k)).find? fun y => decide (y % p = 0) && liB D A C 1 y p k).map fun y => (1, y) := by
    unfold pl2
    rw [List.find?_map, List.find?_filter]
    congr 1
    congr 1; funext y
    simp only [Function.comp]
    rw [Bool.eq_iff_iff]
    simp only [decide_eq_true_eq, Bool.and_eq_true]
    exact ⟨fun h => ⟨h.1.1, h.2⟩, fun h => ⟨⟨h.1, li_po h.2⟩, h.2⟩⟩
  unfold fdL pl
  rw [List.find?_append, e1, e2]
  rw [hN] at h1 h2 ⊢
  rw [find_rg h1]
  rw [find_rg (q := fun y => decide (y % p = 0) && liB D A C 1 y p k) (h2.congr fun y => by simp [and_assoc])]
  by_cases c1 : (bv1 D A C p k).1 < 0
  · rw [if_pos c1, if_pos c1]
    by_cases c2 : (bv2 D A C p k).1 < 0
    · rw [if_pos c2, if_pos c2]; rfl
    · rw [if_neg c2, if_neg c2]; rfl
  · rw [if_neg c1, if_neg c1]; rfl
theorem pl_any {D A C p : Int} {k : Nat} (hp : 2 ≤ p) (hk : 1 ≤ k) : (!(pl D A C p k).isEmpty) = ((bv1 D A C p k).2 || (bv2 D A C p k).2) := by
  have h1 := (bv1_ok (D := D) (A := A) (C := C) (k := k) hp).any
  have h2 := (bv2_ok (D := D) (A := A) (C := C) hp hk).any
  rw [Bool.eq_iff_iff, Bool.or_eq_true, h1, h2]
  simp only [Bool.not_eq_true', List.isEmpty_eq_false_iff_exists_mem, pl, List.mem_append, pl1, pl2, List.mem_map, List.mem_filter, mem_rg, Bool.and_eq_true, decide_eq_true_eq]
  constructor
  · rintro ⟨x, ⟨y, h, _⟩ | ⟨y, ⟨h3, h4, h5⟩, _⟩⟩
    · exact .inl ⟨y, h⟩
    · exact .inr ⟨y, ⟨h3, h4⟩, h5⟩
  · rintro (⟨y, h⟩ | ⟨y, ⟨h3, h4⟩, h5⟩)
    · exact ⟨_, .inl ⟨y, h, rfl⟩⟩
    · exact ⟨_, .inr ⟨y, ⟨h3, h4, h5⟩, rfl⟩⟩
theorem bv_least {po : Int → Nat → Bool} {li : Int → Bool} {k : Nat} {S : Int → Prop} {r : Int × Bool} (h : BvOk po li k S r) : -1 ≤ r.1 := by
  rcases h.min with ⟨h, _⟩ | ⟨_, h, _⟩ <;> omega
end Go.Proofs.Ytegiddpakocodaa
