/- Lemmas and contracts of functions. No condition. -/
import Derived.Test.YtbnglnbcfabmgaaPk35
namespace Go.Proofs.Ytbnglnbcfabmgaa
open Go.RowKit
set_option linter.unusedVariables false
set_option maxHeartbeats 1000000
set_option maxRecDepth 20000
set_option linter.unusedSectionVars false
namespace LN
theorem qX1 (x : Int) : qX x 1 = (x : Rat) := by unfold qX; simp; grind
theorem qY1 (y : Int) : qY y 1 = (y : Rat) := by unfold qY; simp; grind
section
variable {A B x y : Int} {n : Nat}
theorem three_le (hA : -1000 ≤ A ∧ A ≤ 1000) (hB : -10000 ≤ B ∧ B ≤ 10000) (hp : ptB A B x y 1 = true) (ho : OrdT A x y 1 n) (hy : y ≠ 0) : 3 ≤ n := by
  have h2 := two_le hp (by decide) ho
  rcases Nat.lt_or_ge n 3 with h | h
  · obtain rfl : n = 2 := by omega
    obtain ⟨f1, f2, f3⟩ := end_k hA hB hp (by decide) ho
    rw [show ptM A x y 1 (2 - 1) = (x, y, 1, true) by simp [ptM, ptS]] at f2
    simp only at f2
    omega
  · exact h
theorem dbl_add (hA : -1000 ≤ A ∧ A ≤ 1000) (hB : -10000 ≤ B ∧ B ≤ 10000) (hp : ptB A B x y 1 = true) (ho : OrdT A x y 1 n) (hy : y ≠ 0) : Add A (qX x 1) (qY y 1) (qX x 1) (qY y 1) (qX (ptM A x y 1 2).1 (ptM A x y 1 2).2.2.1) (qY (ptM A x y 1 2).2.1 (ptM A x y 1 2).2.2.1) := by
  have h3 := three_le hA hB hp ho hy
  have := add_k hA hB hp (by decide) ho (k := 1) (by omega) (by omega)
  rw [show ptM A x y 1 1 = (x, y, 1, true) by simp [ptM, ptS]] at this
  exact this
/-- E of the doubled point is 1 -/
theorem ord_e2 (hA : -1000 ≤ A ∧ A ≤ 1000) (hB : -10000 ≤ B ∧ B ≤ 10000) (hp : ptB A B x y 1 = true) (ho : OrdT A x y 1 n) (hy : y ≠ 0) (h16 : n < 16) : (ptM A x y 1 2).2.2.1 = 1 := by
  have h3 := three_le hA hB hp ho hy
  have hQ := dbl_add hA hB hp ho hy
  obtain ⟨xq, yq, eq, hq, q1, q2, q3⟩ := fin_k hA hB hp ho (k := 2) (by omega) (by omega)
  obtain ⟨_, _, c⟩ := here hA hB hp (by decide) ho
  rw [hq] at hQ ⊢
  dsimp only at hQ ⊢
  apply Classical.byContradiction
  intro hne
  have e2 : 2 ≤ eq := by omega
  have gq := gcd_y q2 q3
  have kb := ker_base (x := xq) e2 gq
  have cq := q_curve (show eq ≠ 0 by omega) q3
  have c0 := q_curve (show (1 : Int) ≠ 0 by decide) c
  have y0 : qY y 1 ≠ 0 := by rw [qY1]; exact ne_cast hy
  have far : ∀ {X Y τ σ : Rat}, Ker eq X Y τ σ → Y * Y = X * X * X + (A : Rat) * X + (B : Rat) → X ≠ qX x 1 := fun hk hc hx => by
    rw [hx, ← c0, qY1] at hc
    exact ker_int (z := y * y) e2 hk (by rw [hc]; simp)
  have chain : ∀ k, 1 ≤ k → 2 * k < n → ∃ τ σ w, Ker eq (qX (ptM A x y 1 (2 * k)).1 (ptM A x y 1 (2 * k)).2.2.1) (qY (ptM A x y 1 (2 * k)).2.1 (ptM A x y 1 (2 * k)).2.2.1) τ σ ∧ In eq w ∧ τ = (k : Rat) * ((xq : Rat) * (yq : Rat)⁻¹) + (eq : Rat) * eq * eq * eq * w := by
    intro k
    induction k with
    | zero => intro h; omega
    | succ k ih =>
      intro _ hk
      by_cases h0 : k = 0
      · subst h0
        rw [show 2 * (0 + 1) = 2 by rfl, hq]
        exact ⟨_, _, 0, kb, In.int eq 0, by grind⟩
      · obtain ⟨τ, σ, w, t3, t4, t5⟩ := ih (by omega) (by omega)
        have cR := curve_k hA hB hp (by decide) ho (k := 2 * k) (by omega) (by omega)
        have aS := add_k hA hB hp (by decide) ho (k := 2 * k) (by omega) (by omega)
        have aT := add_k hA hB hp (by decide) ho (k := 2 * k + 1) (by omega) (by omega)
        obtain ⟨L, hL, hX, hY⟩ := assoc c0 cR y0 (far t3 cR) aS aT hQ
        obtain ⟨τ3, σ3, w3, k1, k2, k3⟩ := kstep e2 cR cq t3 kb hL hX hY
        rw [show 2 * (k + 1) = 2 * k + 1 + 1 by omega]
        refine ⟨τ3, σ3, w + w3, k1, t4.add k2, ?_⟩
        rw [k3, t5]
        have : ((k + 1 : Nat) : Rat) = (k : Rat) + 1 := by simp
        rw [this]; grind
  obtain ⟨f1, f2, f3⟩ := end_k hA hB hp (by decide) ho
  rcases Nat.mod_two_eq_zero_or_one n with hm | hm
  · -- n is even: the multiple n-2 is the opposite of the double
    obtain ⟨m, hm⟩ : ∃ m, n = 2 * m + 2 := ⟨n / 2 - 1, by omega⟩
    obtain ⟨τ, σ, w, t3, t4, t5⟩ := chain m (by omega) (by omega)
    have cR := curve_k hA hB hp (by decide) ho (k := 2 * m) (by omega) (by omega)
    have aS := add_k hA hB hp (by decide) ho (k := 2 * m) (by omega) (by omega)
    rw [show n - 1 = 2 * m + 1 by omega] at f1 f2 f3
    rw [f1, f2, f3] at aS
    have hneg : qY (-y) 1 = -(qY y 1) := by rw [qY1, qY1]; simp
    rw [hneg] at aS
    obtain ⟨r1, r2⟩ := cancel c0 cR y0 (far t3 cR) aS hQ
    rw [r1, r2] at t3
    have ht := ker_neg e2 kb t3
    refine final (N := m + 1) (w := -w) e2 q2 gq (by omega) (by omega) t4.neg ?_
    have : ((m + 1 : Nat) : Rat) = (m : Rat) + 1 := by simp
    rw [this]
    rw [t5] at ht
    grind
  · obtain ⟨τ, σ, w, t3, t4, t5⟩ := chain (n / 2) (by omega) (by omega)
    have cR := curve_k hA hB hp (by decide) ho (k := 2 * (n / 2)) (by omega) (by omega)
    rw [show n - 1 = 2 * (n / 2) by omega] at f1 f2 f3
    rw [f1, f2, f3] at t3
    exact ker_int (z := y * y) e2 t3 (by rw [qY1]; simp; grind)
theorem ord_d (hA : -1000 ≤ A ∧ A ≤ 1000) (hB : -10000 ≤ B ∧ B ≤ 10000) (hp : ptB A B x y 1 = true) (ho : OrdT A x y 1 n) (hy : y ≠ 0) (h16 : n < 16) : y * y ∣ 4 * A * A * A + 27 * B * B := by
  have hE := ord_e2 hA hB hp ho hy h16
  have hQ := dbl_add hA hB hp ho hy
  obtain ⟨_, _, c⟩ := here hA hB hp (by decide) ho
  rw [hE] at hQ
  generalize (ptM A x y 1 2).1 = xq at hQ
  generalize (ptM A x y 1 2).2.1 = yq at hQ
  rw [qX1, qX1, qY1, qY1] at hQ
  obtain ⟨k, hk, hX, -⟩ := hQ
  rcases hk with ⟨h, _⟩ | ⟨_, _, hk⟩
  · exact absurd rfl h
  have h1 : (4 : Rat) * ((y : Rat) * y) * ((xq : Rat) + 2 * x) = (3 * x * x + A) * (3 * x * x + A) := by
    rw [hX, ← hk]; grind
  have h2 : 4 * (y * y) * (xq + 2 * x) = (3 * x * x + A) * (3 * x * x + A) := by exact_mod_cast h1
  have h3 : y * y = x * x * x + A * x + B := by rw [c]; unfold evV; grind
  refine ⟨4 * (3 * x * x + 4 * A) * (xq + 2 * x) - 27 * (x * x * x + A * x - B), ?_⟩
  have h4 : 4 * A * A * A + 27 * B * B = (3 * x * x + 4 * A) * ((3 * x * x + A) * (3 * x * x + A)) - 27 * (x * x * x + A * x - B) * (x * x * x + A * x + B) := by grind
  rw [h4, ← h2, ← h3]; grind
end
theorem sq_pos {a : Int} (h : a ≠ 0) : 0 < a * a := by
  rcases Int.lt_or_gt_of_ne h with t | t
  · exact Int.mul_pos_of_neg_of_neg t t
  · exact Int.mul_pos t t
theorem disc_bd {A B : Int} (hA : -1000 ≤ A ∧ A ≤ 1000) (hB : -10000 ≤ B ∧ B ≤ 10000) : -6700000000 ≤ 4 * A * A * A + 27 * B * B ∧ 4 * A * A * A + 27 * B * B ≤ 6700000000 := by
  have h1 := mul_bd (a := A) (b := A) (A := 1000) (B := 1000) (by omega) (by omega)
  have h2 := mul_bd (a := A * A) (b := A) (A := 1000000) (B := 1000) (by omega) (by omega)
  have h3 := mul_bd (a := B) (b := B) (A := 10000) (B := 10000) (by omega) (by omega)
  have e1 : 4 * A * A * A = 4 * (A * A * A) := by grind
  have e2 : 27 * B * B = 27 * (B * B) := by grind
  omega
theorem x_small {A B x V : Int} (hA : -1000 ≤ A ∧ A ≤ 1000) (hB : -10000 ≤ B ∧ B ≤ 10000) (h0 : 0 ≤ V) (hV : V ≤ 6700000000) (h : V = x * x * x + A * x + B) : -3000 ≤ x ∧ x ≤ 3000 := by
  have k : x * x * x + A * x = x * (x * x + A) := by grind
  constructor
  · apply Int.not_lt.1; intro hx
    have h1 : 3000 * 3000 ≤ (-x) * (-x) := Int.mul_le_mul (by omega) (by omega) (by omega) (by omega)
    rw [Int.neg_mul_neg] at h1
    have h2 : 3000 * 8999000 ≤ (-x) * (x * x + A) := Int.mul_le_mul (by omega) (by omega) (by omega) (by omega)
    rw [Int.neg_mul] at h2
    omega
  · apply Int.not_lt.1; intro hx
    have h1 : 3000 * 3000 ≤ x * x := Int.mul_le_mul (by omega) (by omega) (by omega) (by omega)
    have h2 : 3000 * 8999000 ≤ x * (x * x + A) := Int.mul_le_mul (by omega) (by omega) (by omega) (by omega)
    omega
end LN
/-- what every point is whose order is told to be 15 or less -/
theorem ord_cand {A B x y e : Int} {n : Nat} (hA : -1000 ≤ A ∧ A ≤ 1000) (hB : -10000 ≤ B ∧ B ≤ 10000) (hp : ptB A B x y e = true) (hd : 4 * A * A * A + 27 * B * B ≠ 0) (he : e ≠ 0) (ho : OrdT A x y e n) (h16 : n < 16) :
    e = 1 ∧ (-3000 ≤ x ∧ x ≤ 3000) ∧ (y = 0 ∨ y * y ∣ 4 * A * A * A + 27 * B * B) := by
  obtain rfl := LN.ord_e hA hB hp he ho h16
  have hdiv : y = 0 ∨ y * y ∣ 4 * A * A * A + 27 * B * B := by
    by_cases hy : y = 0
    · exact Or.inl hy
    · exact Or.inr (LN.ord_d hA hB hp ho hy h16)
  obtain ⟨_, _, c⟩ := LN.here hA hB hp (by decide) ho
  have h3 : y * y = x * x * x + A * x + B := by rw [c]; unfold evV; grind
  refine ⟨rfl, ?_, hdiv⟩
  have hb := LN.disc_bd hA hB
  have h0 : 0 ≤ y * y := by
    by_cases hy : y = 0
    · subst hy; simp
    · exact Int.le_of_lt (LN.sq_pos hy)
  refine LN.x_small hA hB h0 ?_ h3
  rcases hdiv with rfl | ⟨q, hq⟩
  · simp
  · by_cases hy : y = 0
    · subst hy; simp
    have h1 := LN.sq_pos hy
    have hq0 : q ≠ 0 := by rintro rfl; simp at hq; exact hd hq
    generalize 4 * A * A * A + 27 * B * B = D at *
    rcases Int.lt_or_gt_of_ne hq0 with t | t
    · have : (y * y) * 1 ≤ (y * y) * (-q) := Int.mul_le_mul_of_nonneg_left (by omega) (by omega)
      rw [Int.mul_neg] at this
      omega
    · have : (y * y) * 1 ≤ (y * y) * q := Int.mul_le_mul_of_nonneg_left (by omega) (by omega)
      omega
end Go.Proofs.Ytbnglnbcfabmgaa
