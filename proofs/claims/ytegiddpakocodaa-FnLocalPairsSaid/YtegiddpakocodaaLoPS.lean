/- Plain words: a solution in integers shows at the primes 2, 3 and 5, and makes a real point; what a pair that lifts is. No program in sight. -/
import Derived.Test.YtegiddpakocodaaLoP5
namespace Go.Proofs.Ytegiddpakocodaa
open Go.RowKit
set_option linter.unusedVariables false
set_option linter.unusedSimpArgs false
/-! ### squares modulo a power of a prime -/
/-- what is asked of a prime: it divides a square's root, and odd parts of squares are squares -/
structure GoodQ (p : Int) : Prop where
  two : 2 ≤ p
  root : ∀ a b : Int, a * b % p = 0 → a % p = 0 ∨ b % p = 0
  sym : ∀ u : Int, 2 < p → u % p ≠ 0 → symB (u * u) p = true
/-- and that there are inverses -/
structure GoodP (p : Int) : Prop extends GoodQ p where
  inv : ∀ a : Int, a % p ≠ 0 → ∃ b : Int, a * b % p = 1
theorem mod_mul (a b p : Int) : a * b % p = a % p * (b % p) % p := Int.mul_emod a b p
theorem good2 : GoodP 2 := ⟨⟨by omega, fun a b h => by
    rw [mod_mul] at h
    rcases (show a % 2 = 0 ∨ a % 2 = 1 by omega) with e | e <;> rcases (show b % 2 = 0 ∨ b % 2 = 1 by omega) with f | f <;> rw [e, f] at h <;> omega,
  fun u h => by omega⟩,
  fun a h => ⟨1, by omega⟩⟩
theorem good3 : GoodP 3 := ⟨⟨by omega, fun a b h => by
    rw [mod_mul] at h
    rcases (show a % 3 = 0 ∨ a % 3 = 1 ∨ a % 3 = 2 by omega) with e | e | e <;> rcases (show b % 3 = 0 ∨ b % 3 = 1 ∨ b % 3 = 2 by omega) with f | f | f <;> rw [e, f] at h <;> omega,
  fun u _ h => by
    unfold symB
    rw [decide_eq_true_eq, show ((3 - 1) / 2 : Int).toNat = 1 from rfl, Int.pow_succ, Int.pow_zero, Int.one_mul, mod_mul]
    rcases (show u % 3 = 1 ∨ u % 3 = 2 by omega) with e | e <;> rw [e] <;> rfl⟩,
  fun a h => by
    rcases (show a % 3 = 1 ∨ a % 3 = 2 by omega) with e | e
    · exact ⟨1, by omega⟩
    · exact ⟨2, by omega⟩⟩
theorem good5 : GoodP 5 := ⟨⟨by omega, fun a b h => by
    rw [mod_mul] at h
    rcases (show a % 5 = 0 ∨ a % 5 = 1 ∨ a % 5 = 2 ∨ a % 5 = 3 ∨ a % 5 = 4 by omega) with e | e | e | e | e <;> rcases (show b % 5 = 0 ∨ b % 5 = 1 ∨ b % 5 = 2 ∨ b % 5 = 3 ∨ b % 5 = 4 by omega) with f | f | f | f | f <;> rw [e, f] at h <;> omega,
  fun u _ h => by
    unfold symB
    rw [decide_eq_true_eq, show ((5 - 1) / 2 : Int).toNat = 2 from rfl, Int.pow_succ, Int.pow_succ, Int.pow_zero, Int.one_mul, mod_mul (u * u), mod_mul u]
    rcases (show u % 5 = 1 ∨ u % 5 = 2 ∨ u % 5 = 3 ∨ u % 5 = 4 by omega) with e | e | e | e <;> rw [e] <;> rfl⟩,
  fun a h => by
    rcases (show a % 5 = 1 ∨ a % 5 = 2 ∨ a % 5 = 3 ∨ a % 5 = 4 by omega) with e | e | e | e
    · exact ⟨1, by omega⟩
    · exact ⟨3, by omega⟩
    · exact ⟨2, by omega⟩
    · exact ⟨4, by omega⟩⟩
theorem sq_yes {p s : Int} (G : GoodQ p) {k : Nat} : sqLo (s * s % p ^ k) p k = true := by
  have hp := G.two
  by_cases h0 : s * s % p ^ k = 0
  · simp [sqLo, h0]
  · obtain ⟨a1, a2, t, a3⟩ := vl_red hp h0
    have hs : s ≠ 0 := fun e => h0 (by rw [e]; simp)
    obtain ⟨u, hu, hu2⟩ := vl_spec hp hs
    have huu : u * u % p ≠ 0 := fun e => by rcases G.root u u e with f | f <;> exact hu2 f
    have hss : s * s ≠ 0 := fun e => by rcases Int.mul_eq_zero.1 e with f | f <;> exact hs f
    have e1 : s * s = u * u * p ^ (2 * vl s p) := by
      rw [show 2 * vl s p = vl s p + vl s p by omega, Int.pow_add]
      generalize vl s p = n at *
      rw [hu]; grind
    have e2 := vl_eq hp hss e1 huu
    have hpp := pow_pos' (p := p) (by omega) (2 * vl s p)
    have e3 : s * s / p ^ vl (s * s) p = u * u := by
      rw [e2]
      conv => lhs; rw [e1]
      exact Int.mul_ediv_cancel _ (by omega)
    unfold sqLo
    rw [if_neg h0, a1, if_neg (by rw [e2]; omega)]
    by_cases h2 : 2 < p
    · rw [if_pos h2, ← sy_red (t := t) (d := k - vl (s * s) p) hp (by omega), ← a3, e3]
      exact G.sym u h2 hu2
    · rw [if_neg h2]
      have hp2 : p = 2 := by omega
      subst hp2
      rw [e3] at a3
      generalize hd : k - vl (s * s) 2 = d at *
      have hd1 : 1 ≤ d := by omega
      have hodd : u % 2 = 1 := by omega
      have h8 : u * u % 8 = 1 := by
        rw [mod_mul]
        rcases (show u % 8 = 1 ∨ u % 8 = 3 ∨ u % 8 = 5 ∨ u % 8 = 7 by omega) with e | e | e | e <;> rw [e] <;> rfl
      generalize s * s % 2 ^ k / 2 ^ vl (s * s) 2 = r at *
      rw [decide_eq_true_eq]
      rcases (show d = 1 ∨ d = 2 ∨ 3 ≤ d by omega) with rfl | rfl | h3
      · rw [show min 3 1 = 1 from rfl]
        have : (2 : Int) ^ 1 = 2 := rfl
        rw [this] at a3 ⊢
        omega
      · rw [show min 3 2 = 2 from rfl]
        have : (2 : Int) ^ 2 = 4 := rfl
        rw [this] at a3 ⊢
        omega
      · rw [show min 3 d = 3 by omega]
        obtain ⟨c, rfl⟩ : ∃ c, d = c + 3 := ⟨d - 3, by omega⟩
        rw [Int.pow_add, show (2 : Int) ^ 3 = 8 from rfl, ← Int.mul_assoc] at a3
        show r % 8 = 1
        omega
/-! ### inverses modulo a power -/
theorem inv_pow {p y : Int} (G : GoodP p) (hy : y % p ≠ 0) : ∀ k : Nat, 1 ≤ k → ∃ i t : Int, y * i = 1 + p ^ k * t
  | 0, h => by omega
  | 1, _ => by
    obtain ⟨b, hb⟩ := G.inv y hy
    refine ⟨b, y * b / p, ?_⟩
    have := Int.mul_ediv_add_emod (y * b) p
    rw [Int.pow_succ, Int.pow_zero, Int.one_mul]
    omega
  | k + 2, _ => by
    obtain ⟨i, t, h⟩ := inv_pow G hy (k + 1) (by omega)
    obtain ⟨b, hb⟩ := G.inv y hy
    have := Int.mul_ediv_add_emod (y * b) p
    generalize y * b / p = q at *
    refine ⟨i - p ^ (k + 1) * t * b, -(t * q), ?_⟩
    have e0 : p ^ (k + 2) = p ^ (k + 1) * p := Int.pow_succ p (k + 1)
    rw [e0]
    clear e0
    generalize p ^ (k + 1) = P at *
    have e : y * b = p * q + 1 := by omega
    have : y * (i - P * t * b) = y * i - P * t * (y * b) := by grind
    rw [this, h, e]
    grind
/-! ### a solution modulo every power -/
def qvV (D A C x y : Int) : Int := D * (x * x) * (x * x) + A * (x * x) * (y * y) + C * (y * y) * (y * y)
theorem dvd_root {p n : Int} (G : GoodP p) (h : p ∣ n * n) : p ∣ n := by
  rcases G.root n n (Int.emod_eq_zero_of_dvd h) with e | e <;> exact Int.dvd_of_emod_eq_zero e
theorem prim {p D A C : Int} (G : GoodP p) : ∀ (N : Nat) (x y n : Int), x.natAbs + y.natAbs ≤ N → (x ≠ 0 ∨ y ≠ 0) → n * n = qvV D A C x y → ∃ x' y' n' : Int, n' * n' = qvV D A C x' y' ∧ (x' % p ≠ 0 ∨ y' % p ≠ 0)
  | 0, x, y, n, h, h0, _ => by omega
  | N + 1, x, y, n, h, h0, hn => by
    have hp := G.two
    by_cases hx : x % p = 0
    · by_cases hy : y % p = 0
      · obtain ⟨a, rfl⟩ := Int.dvd_of_emod_eq_zero hx
        obtain ⟨b, rfl⟩ := Int.dvd_of_emod_eq_zero hy
        have e : qvV D A C (p * a) (p * b) = p * (p * (p * (p * qvV D A C a b))) := by unfold qvV; grind
        rw [e] at hn
        obtain ⟨n1, rfl⟩ := dvd_root G ⟨_, hn⟩
        have e2 : p * (n1 * n1) = p * (p * (p * qvV D A C a b)) := Int.eq_of_mul_eq_mul_left (show p ≠ 0 by omega) (by rw [← hn]; grind)
        have e3 := Int.eq_of_mul_eq_mul_left (show p ≠ 0 by omega) e2
        obtain ⟨n2, rfl⟩ := dvd_root G ⟨_, e3⟩
        have e4 : p * (n2 * n2) = p * qvV D A C a b := Int.eq_of_mul_eq_mul_left (show p ≠ 0 by omega) (by rw [← e3]; grind)
        have e5 := Int.eq_of_mul_eq_mul_left (show p ≠ 0 by omega) e4
        refine prim G N a b n2 ?_ ?_ e5
        · have ha : a.natAbs ≤ (p * a).natAbs ∧ (a ≠ 0 → a.natAbs < (p * a).natAbs) := by
            rw [Int.natAbs_mul]
            have : 2 ≤ p.natAbs := by omega
            refine ⟨Nat.le_mul_of_pos_left _ (by omega), fun h => ?_⟩
            have := Nat.mul_le_mul_right a.natAbs this
            omega
          have hb : b.natAbs ≤ (p * b).natAbs ∧ (b ≠ 0 → b.natAbs < (p * b).natAbs) := by
            rw [Int.natAbs_mul]
            have : 2 ≤ p.natAbs := by omega
            refine ⟨Nat.le_mul_of_pos_left _ (by omega), fun h => ?_⟩
            have := Nat.mul_le_mul_right b.natAbs this
            omega
          rcases h0 with h0 | h0
          · have : a ≠ 0 := fun e => h0 (by rw [e]; simp)
            have := ha.2 this
            omega
          · have : b ≠ 0 := fun e => h0 (by rw [e]; simp)
            have := hb.2 this
            omega
        · rcases h0 with h0 | h0
          · exact .inl fun e => h0 (by rw [e]; simp)
          · exact .inr fun e => h0 (by rw [e]; simp)
      · exact ⟨x, y, n, hn, .inr hy⟩
    · exact ⟨x, y, n, hn, .inl hx⟩
theorem va_cong {D A C m e m' e' n : Int} (h1 : Cg n m m') (h2 : Cg n e e') : vaM D A C m e n = vaM D A C m' e' n := by
  unfold vaM
  have r := Cg.refl n
  exact ((((((r D).mul h1).mul h1).mul h1).mul h1).add (((((r A).mul h1).mul h1).mul h2).mul h2)).add (((((r C).mul h2).mul h2).mul h2).mul h2)
theorem pl_full {p D A C x y n : Int} (G : GoodP p) (h0 : x ≠ 0 ∨ y ≠ 0) (hn : n * n = qvV D A C x y) {k : Nat} (hk : 1 ≤ k) : (pl D A C p k).isEmpty = false := by
  have hp := G.two
  obtain ⟨x, y, n, hn, hxy⟩ := prim (p := p) G _ x y n (Nat.le_refl _) h0 hn
  have hP := pow_pos' (p := p) (by omega) k
  have key : ∃ z, z ∈ pl D A C p k := by
    by_cases hy : y % p = 0
    · have hx : x % p ≠ 0 := by omega
      obtain ⟨i, t, hi⟩ := inv_pow G hx k hk
      refine ⟨(1, y * i % p ^ k), List.mem_append_right _ ?_⟩
      unfold pl2
      rw [List.mem_map]
      refine ⟨y * i % p ^ k, ?_, rfl⟩
      rw [List.mem_filter]
      refine ⟨mem_rg.2 ⟨Int.emod_nonneg _ (by omega), Int.emod_lt_of_pos _ (by omega)⟩, ?_⟩
      rw [Bool.and_eq_true]
      refine ⟨?_, ?_⟩
      · rw [decide_eq_true_eq]
        obtain ⟨c, rfl⟩ : ∃ c, k = c + 1 := ⟨k - 1, by omega⟩
        rw [Int.emod_emod_of_dvd _ ⟨p ^ c, by rw [Int.pow_succ, Int.mul_comm]⟩, mod_mul, hy]
        simp
      · unfold poB
        rw [va_cong (m' := x * i) (e' := y * i) (by unfold Cg; rw [hi, Int.add_mul_emod_self_left]) (by unfold Cg; exact Int.emod_emod _ _)]
        have e : vaM D A C (x * i) (y * i) (p ^ k) = (n * (i * i)) * (n * (i * i)) % p ^ k := by
          unfold vaM
          congr 1
          have : n * (i * i) * (n * (i * i)) = n * n * (i * i * (i * i)) := by grind
          rw [this, hn]
          unfold qvV
          grind
        rw [e]
        exact sq_yes G.toGoodQ
    · obtain ⟨i, t, hi⟩ := inv_pow G hy k hk
      refine ⟨(x * i % p ^ k, 1), List.mem_append_left _ ?_⟩
      unfold pl1
      rw [List.mem_map]
      refine ⟨x * i % p ^ k, ?_, rfl⟩
      rw [List.mem_filter]
      refine ⟨mem_rg.2 ⟨Int.emod_nonneg _ (by omega), Int.emod_lt_of_pos _ (by omega)⟩, ?_⟩
      unfold poB
      rw [va_cong (m' := x * i) (e' := y * i) (by unfold Cg; exact Int.emod_emod _ _) (by unfold Cg; rw [hi, Int.add_mul_emod_self_left])]
      have e : vaM D A C (x * i) (y * i) (p ^ k) = (n * (i * i)) * (n * (i * i)) % p ^ k := by
        unfold vaM
        congr 1
        have : n * (i * i) * (n * (i * i)) = n * n * (i * i * (i * i)) := by grind
        rw [this, hn]
        unfold qvV
        grind
      rw [e]
      exact sq_yes G.toGoodQ
  obtain ⟨z, hz⟩ := key
  cases hl : pl D A C p k
  · rw [hl] at hz; cases hz
  · rfl
/-- where every level has a possible pair, the last one has, too, or a pair lifts -/
theorem lpF_full {D A C p : Int} : ∀ (f k : Nat), 1 ≤ k → (∀ j, k ≤ j → (pl D A C p j).isEmpty = false) → 0 < (lpF D A C p f k).2.1 ∨ (lpF D A C p f k).2.2 = true := by
  intro f
  induction f with
  | zero =>
    intro k hk h
    cases hf : fdL D A C p k with
    | some x => left; rw [lpF_some hf]; dsimp only; omega
    | none => right; rw [lpF_end hf, h k (Nat.le_refl _)]; rfl
  | succ f ih =>
    intro k hk h
    cases hf : fdL D A C p k with
    | some x => left; rw [lpF_some hf]; dsimp only; omega
    | none =>
      rw [lpF_next hf (h k (Nat.le_refl _))]
      exact ih (k + 1) (by omega) fun j hj => h j (by omega)
theorem lp_told {D A C p x y n : Int} (G : GoodP p) (h0 : x ≠ 0 ∨ y ≠ 0) (hn : n * n = qvV D A C x y) : 0 < (lpV D A C p).2.1 ∨ (lpV D A C p).2.2 = true :=
  lpF_full _ 1 (Nat.le_refl _) fun j hj => pl_full G h0 hn hj
/-! ### the pair that is found -/
theorem lpF_pos {D A C p : Int} : ∀ (f k : Nat), 1 ≤ k → 0 < (lpF D A C p f k).2.1 → ∃ j : Nat, k ≤ j ∧ j ≤ k + f ∧ (lpF D A C p f k).2.1 = j ∧ fdL D A C p j = some (lpF D A C p f k).1 := by
  intro f
  induction f with
  | zero =>
    intro k hk h
    cases hf : fdL D A C p k with
    | some x => exact ⟨k, Nat.le_refl _, by omega, by rw [lpF_some hf], by rw [lpF_some hf]; exact hf⟩
    | none => rw [lpF_end hf] at h; simp at h
  | succ f ih =>
    intro k hk h
    cases hf : fdL D A C p k with
    | some x => exact ⟨k, Nat.le_refl _, by omega, by rw [lpF_some hf], by rw [lpF_some hf]; exact hf⟩
    | none =>
      cases he : (pl D A C p k).isEmpty with
      | true => rw [lpF_nil hf he] at h; simp at h
      | false =>
        rw [lpF_next hf he] at h ⊢
        obtain ⟨j, j1, j2, j3, j4⟩ := ih (k + 1) (by omega) h
        exact ⟨j, by omega, by omega, j3, j4⟩
theorem fdL_some {D A C p : Int} {k : Nat} {x : Int × Int} (h : fdL D A C p k = some x) : liB D A C x.1 x.2 p k = true ∧ x ∈ pl D A C p k := by
  unfold fdL at h
  have := List.find?_some (p := fun x : Int × Int => liB D A C x.1 x.2 p k) h
  exact ⟨this, List.mem_of_find?_eq_some h⟩
theorem pl_pair {D A C p : Int} {k : Nat} {x : Int × Int} (hp : 2 ≤ p) (hk : 1 ≤ k) (h : x ∈ pl D A C p k) : (x.2 = 1 ∧ 0 ≤ x.1 ∧ x.1 < p ^ k) ∨ (x.1 = 1 ∧ 0 ≤ x.2 ∧ x.2 < p ^ k ∧ x.2 % p = 0) := by
  unfold pl at h
  rcases List.mem_append.1 h with h | h
  · unfold pl1 at h
    obtain ⟨m, hm, rfl⟩ := List.mem_map.1 h
    have := mem_rg.1 (List.mem_filter.1 hm).1
    exact .inl ⟨rfl, this.1, this.2⟩
  · unfold pl2 at h
    obtain ⟨e, he, rfl⟩ := List.mem_map.1 h
    have h1 := List.mem_filter.1 he
    have := mem_rg.1 h1.1
    have h2 := h1.2
    rw [Bool.and_eq_true, decide_eq_true_eq] at h2
    exact .inr ⟨rfl, this.1, this.2, h2.1⟩
/-! ### a real point -/
def rlP (D A C : Int) : Prop := 0 < D ∨ 0 < C ∨ (0 < A ∧ 4 * D * C ≤ A * A)
theorem sq_nn (x : Int) : 0 ≤ x * x := by
  rcases Int.le_total 0 x with h | h
  · exact Int.mul_nonneg h h
  · exact Int.mul_nonneg_of_nonpos_of_nonpos h h
theorem sq_pos' {x : Int} (h : x ≠ 0) : 0 < x * x := by
  rcases Int.lt_trichotomy x 0 with h1 | h1 | h1
  · have := Int.mul_pos (show 0 < -x by omega) (show 0 < -x by omega)
    rw [Int.neg_mul, Int.mul_neg, Int.neg_neg] at this
    exact this
  · exact (h h1).elim
  · exact Int.mul_pos h1 h1
theorem real_point {D A C x y : Int} (hD : D ≠ 0) (hC : C ≠ 0) (h0 : x ≠ 0 ∨ y ≠ 0) (h : 0 ≤ qvV D A C x y) : rlP D A C := by
  rcases Int.lt_trichotomy D 0 with d | d | d
  · rcases Int.lt_trichotomy C 0 with c | c | c
    · have X0 := sq_nn x
      have Y0 := sq_nn y
      have hXY : 0 < x * x ∨ 0 < y * y := by
        rcases h0 with h0 | h0
        · exact .inl (sq_pos' h0)
        · exact .inr (sq_pos' h0)
      unfold qvV at h
      generalize x * x = X at *
      generalize y * y = Y at *
      have t1 : 0 ≤ -D * X * X := Int.mul_nonneg (Int.mul_nonneg (by omega) X0) X0
      have t2 : 0 ≤ -C * Y * Y := Int.mul_nonneg (Int.mul_nonneg (by omega) Y0) Y0
      have u1 : -D * X * X = -(D * X * X) := by grind
      have u2 : -C * Y * Y = -(C * Y * Y) := by grind
      have hA : 0 < A := by
        rcases (show 0 < A ∨ A ≤ 0 by omega) with a | a
        · exact a
        · exfalso
          have t3 : 0 ≤ -A * X * Y := Int.mul_nonneg (Int.mul_nonneg (by omega) X0) Y0
          have u3 : -A * X * Y = -(A * X * Y) := by grind
          rcases hXY with e | e
          · have := Int.mul_pos (Int.mul_pos (show 0 < -D by omega) e) e
            omega
          · have := Int.mul_pos (Int.mul_pos (show 0 < -C by omega) e) e
            omega
      refine .inr (.inr ⟨hA, ?_⟩)
      have hY : 0 < Y := by
        rcases (show 0 < Y ∨ Y = 0 by omega) with e | e
        · exact e
        · exfalso
          subst e
          have e : 0 < X := by omega
          have := Int.mul_pos (Int.mul_pos (show 0 < -D by omega) e) e
          simp at h
          omega
      have id : 4 * D * (D * X * X + A * X * Y + C * Y * Y) = (2 * D * X + A * Y) * (2 * D * X + A * Y) - (A * A - 4 * D * C) * (Y * Y) := by grind
      have s := sq_nn (2 * D * X + A * Y)
      have t4 : 0 ≤ -D * (D * X * X + A * X * Y + C * Y * Y) := Int.mul_nonneg (by omega) h
      have u4 : -D * (D * X * X + A * X * Y + C * Y * Y) = -(D * (D * X * X + A * X * Y + C * Y * Y)) := Int.neg_mul _ _
      have u5 : 4 * D * (D * X * X + A * X * Y + C * Y * Y) = 4 * (D * (D * X * X + A * X * Y + C * Y * Y)) := Int.mul_assoc _ _ _
      rcases (show 4 * D * C ≤ A * A ∨ A * A - 4 * D * C < 0 by omega) with e | e
      · exact e
      · exfalso
        have := Int.mul_pos (show 0 < -(A * A - 4 * D * C) by omega) (Int.mul_pos hY hY)
        rw [Int.neg_mul] at this
        omega
    · exact (hC c).elim
    · exact .inr (.inl c)
  · exact (hD d).elim
  · exact .inl d
end Go.Proofs.Ytegiddpakocodaa
