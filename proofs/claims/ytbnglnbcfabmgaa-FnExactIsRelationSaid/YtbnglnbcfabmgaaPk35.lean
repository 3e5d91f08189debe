/- Lemmas and contracts of functions. No condition. -/
import Derived.Test.YtbnglnbcfabmgaaPk32
namespace Go.Proofs.Ytbnglnbcfabmgaa
open Go.RowKit
set_option linter.unusedVariables false
set_option maxHeartbeats 1000000
set_option maxRecDepth 20000
set_option linter.unusedSectionVars false
/-- the order of a point is told to be n -/
def OrdT (A x y e : Int) (n : Nat) : Prop := 1 ≤ n ∧ (∀ k, 1 ≤ k → k < n → (ptM A x y e k).2.2.2 = true ∧ (ptM A x y e k).2.2.1 ≠ 0) ∧ (ptM A x y e n).2.2.2 = true ∧ (ptM A x y e n).2.2.1 = 0
namespace LN
theorem ker_base {e x y : Int} (he : 2 ≤ e) (hy : Int.gcd y e = 1) : Ker e (qX x e) (qY y e) ((x : Rat) * (y : Rat)⁻¹) ((y : Rat)⁻¹) := by
  have hy0 : y ≠ 0 := fun h => by subst h; simp at hy; omega
  have iy : In e ((y : Rat)⁻¹) := ⟨1, y, hy, by rw [inv_mul hy0]; rfl⟩
  refine ⟨(In.int e x).mul iy, iy, ?_, ?_⟩
  · have a := inv_mul hy0
    have b := inv_mul (show e ≠ 0 by omega)
    unfold qY
    generalize (y : Rat)⁻¹ = v at *
    generalize (e : Rat)⁻¹ = u at *
    have : (e : Rat) * e * e * v * (y * (u * u * u)) = (v * y) * ((u * e) * (u * e) * (u * e)) := by grind
    rw [this, a, b]; grind
  · have b := inv_mul (show e ≠ 0 by omega)
    unfold qX
    generalize (y : Rat)⁻¹ = v at *
    generalize (e : Rat)⁻¹ = u at *
    have : (x : Rat) * (u * u) * ((e : Rat) * e * e * v) = (e * (x * v)) * ((u * e) * (u * e)) := by grind
    rw [this, b]; grind
theorem ker_neg {e : Int} {X Y τ σ τ' σ' : Rat} (he : 2 ≤ e) (h : Ker e X Y τ σ) (h' : Ker e X (-Y) τ' σ') : τ' = -τ := by
  obtain ⟨-, -, a, b⟩ := h
  obtain ⟨-, -, c, d⟩ := h'
  have ne : (e : Rat) ≠ 0 := ne_cast (by omega)
  have h1 : (e : Rat) * e * e * σ' = -((e : Rat) * e * e * σ) := inv_uniq (y := -Y) c (by rw [← a]; grind)
  have : (e : Rat) * (τ' + τ) = 0 := by
    rw [Rat.mul_add, ← d, ← b, h1]; grind
  rcases Rat.mul_eq_zero.1 this with h | h
  · exact absurd h ne
  · grind
theorem ker_int {e z : Int} {X Y τ σ : Rat} (he : 2 ≤ e) (h : Ker e X Y τ σ) (hz : Y * Y = (z : Rat)) : False := by
  obtain ⟨-, ⟨a, b, hg, hb⟩, k, -⟩ := h
  have h1 : (e : Rat) * e * e * e * e * e * (a * a) * z = (b : Rat) * b := by
    rw [← hb, ← hz]
    have : (e : Rat) * e * e * e * e * e * (σ * b * (σ * b)) * (Y * Y) = ((e * e * e * σ) * Y) * ((e * e * e * σ) * Y) * (b * b) := by grind
    rw [this, k]; grind
  have h2 : e * e * e * e * e * e * (a * a) * z = b * b := by exact_mod_cast h1
  have h3 : e ∣ b * b := ⟨e * e * e * e * e * (a * a) * z, by rw [← h2]; grind⟩
  have hgg := gcd_mul hg hg
  have h4 : (e : Int) ∣ Int.gcd (b * b) e := Int.dvd_coe_gcd h3 (Int.dvd_refl e)
  rw [hgg] at h4
  have := Int.le_of_dvd (by decide) h4
  omega
theorem final {e x y : Int} {N : Nat} {w : Rat} (he : 2 ≤ e) (hx : Int.gcd x e = 1) (hy : Int.gcd y e = 1) (hN : 0 < N) (hN2 : N < 16) (hw : In e w) (h : (N : Rat) * ((x : Rat) * (y : Rat)⁻¹) = (e : Rat) * e * e * e * w) : False := by
  have hy0 : y ≠ 0 := fun h => by subst h; simp at hy; omega
  obtain ⟨a, b, hb, hab⟩ := hw
  have h1 : (N : Rat) * (x * b) = (e : Rat) * e * e * e * (a * y) := by
    rw [← hab]
    have i := inv_mul hy0
    generalize (y : Rat)⁻¹ = v at *
    have : (e : Rat) * e * e * e * (w * b * y) = (e * e * e * e * w) * (b * y) := by grind
    rw [this, ← h]
    have : (N : Rat) * (x * v) * (b * y) = (v * y) * (N * (x * b)) := by grind
    rw [this, i]; grind
  have h2 : (N : Int) * (x * b) = e * e * e * e * (a * y) := by exact_mod_cast h1
  have h3 : e * e * e * e ∣ (x * b) * N := ⟨a * y, by rw [← h2]; grind⟩
  have g1 := gcd_mul hx hb
  have g2 : Int.gcd (e * e * e * e) (x * b) = 1 := by
    have g : Int.gcd e (x * b) = 1 := by rw [Int.gcd_comm]; exact g1
    exact gcd_mul (gcd_mul (gcd_mul g g) g) g
  have h4 := dvd_cop h3 g2
  have h5 := Int.le_of_dvd (by omega) h4
  have e2 : 2 * 2 ≤ e * e := Int.mul_le_mul he he (by omega) (by omega)
  have e4 : 4 * 4 ≤ (e * e) * (e * e) := Int.mul_le_mul e2 e2 (by omega) (by omega)
  have : e * e * e * e = (e * e) * (e * e) := by grind
  omega
/-- a sum that is infinity is that of opposite points -/
theorem ptS_inf {A B x1 y1 e1 x2 y2 e2 x y : Int} (he1 : 1 ≤ e1 ∧ e1 ≤ 20) (he2 : 1 ≤ e2 ∧ e2 ≤ 20) (hg1 : Int.gcd x1 e1 = 1) (hg2 : Int.gcd x2 e2 = 1) (c1 : y1*y1 = evV A B x1 e1) (c2 : y2*y2 = evV A B x2 e2)
    (h : ptS A x1 y1 e1 x2 y2 e2 = (x, y, 0, true)) : x1 = x2 ∧ y1 = -y2 ∧ e1 = e2 := by
  apply Classical.byContradiction
  intro hz
  rw [ptS_thV (by omega) (by omega) hz] at h
  have hzd : slD x1 y1 e1 x2 y2 e2 ≠ 0 := fun t => hz ((sl_zero he1.1 he2.1 hg1 hg2 c1 c2).1 t)
  obtain ⟨r, hr⟩ := third_ex he1.1 he2.1 c1 c2 hzd
  rw [thV_eq hzd (by omega) (by omega) hr] at h
  subst h
  rcases hr with ⟨z, u, f, hr, hf, -⟩ | ⟨hr, -⟩
  · simp only [Prod.mk.injEq] at hr
    omega
  · simp at hr
theorem gcd_y {A B x y e : Int} (hg : Int.gcd x e = 1) (h : y * y = evV A B x e) : Int.gcd y e = 1 := by
  unfold evV at h
  have h3 : Int.gcd (x * x * x) e = 1 := gcd_mul (gcd_mul hg hg) hg
  have hk : y * y = x * x * x + e * (A * x * e * e * e + B * e * e * e * e * e) := by rw [h]; grind
  have h4 : Int.gcd (y * y) e = 1 := by
    rw [hk, Int.gcd_comm]; simp; rw [Int.gcd_comm]; exact h3
  have h5 : (Int.gcd y e : Int) ∣ Int.gcd (y * y) e := Int.dvd_coe_gcd (Int.dvd_trans (Int.gcd_dvd_left ..) (Int.dvd_mul_right ..)) (Int.gcd_dvd_right ..)
  rw [h4] at h5
  have := Int.le_of_dvd (by decide) h5
  have h6 : 0 < Int.gcd y e := by
    rcases Nat.eq_zero_or_pos (Int.gcd y e) with h0 | h0
    · rw [h0] at h5; simp at h5
    · exact h0
  omega
section
variable {A B x y e : Int} {n : Nat}
theorem fin_k (hA : -1000 ≤ A ∧ A ≤ 1000) (hB : -10000 ≤ B ∧ B ≤ 10000) (hp : ptB A B x y e = true) (ho : OrdT A x y e n) {k : Nat} (h1 : 1 ≤ k) (h2 : k < n) : ∃ xk yk ek, ptM A x y e k = (xk, yk, ek, true) ∧ (1 ≤ ek ∧ ek ≤ 20) ∧ Int.gcd xk ek = 1 ∧ yk * yk = evV A B xk ek := by
  obtain ⟨t, ne⟩ := ho.2.1 k h1 h2
  rcases ptM_ok hA hB hp k with ⟨_, hb⟩ | h0
  · rcases pt_cases hA hB hb with ⟨_, _, h⟩ | ⟨a, _, _, b, c⟩
    · exact absurd h ne
    · exact ⟨_, _, _, by rw [← t], a, b, c⟩
  · rw [h0] at t; simp at t
theorem two_le (hp : ptB A B x y e = true) (he : e ≠ 0) (ho : OrdT A x y e n) : 2 ≤ n := by
  rcases ho with ⟨h1, _, _, h3⟩
  rcases Nat.lt_or_ge n 2 with h | h
  · obtain rfl : n = 1 := by omega
    rw [show ptM A x y e 1 = (x, y, e, true) by simp [ptM, ptS]] at h3
    exact absurd h3 he
  · exact h
theorem here (hA : -1000 ≤ A ∧ A ≤ 1000) (hB : -10000 ≤ B ∧ B ≤ 10000) (hp : ptB A B x y e = true) (he : e ≠ 0) (ho : OrdT A x y e n) : (1 ≤ e ∧ e ≤ 20) ∧ Int.gcd x e = 1 ∧ y * y = evV A B x e := by
  rcases pt_cases hA hB hp with ⟨_, _, h⟩ | ⟨a, _, _, b, c⟩
  · exact absurd h he
  · exact ⟨a, b, c⟩
theorem add_k (hA : -1000 ≤ A ∧ A ≤ 1000) (hB : -10000 ≤ B ∧ B ≤ 10000) (hp : ptB A B x y e = true) (he : e ≠ 0) (ho : OrdT A x y e n) {k : Nat} (h1 : 1 ≤ k) (h2 : k + 1 < n) : Add A (qX (ptM A x y e k).1 (ptM A x y e k).2.2.1) (qY (ptM A x y e k).2.1 (ptM A x y e k).2.2.1) (qX x e) (qY y e) (qX (ptM A x y e (k + 1)).1 (ptM A x y e (k + 1)).2.2.1) (qY (ptM A x y e (k + 1)).2.1 (ptM A x y e (k + 1)).2.2.1) := by
  obtain ⟨x1, y1, e1, h3, h4, h5, h6⟩ := fin_k hA hB hp ho h1 (by omega : k < n)
  obtain ⟨x2, y2, e2, g3, g4, g5, g6⟩ := fin_k hA hB hp ho (by omega : 1 ≤ k + 1) h2
  obtain ⟨a, b, c⟩ := here hA hB hp he ho
  have hs : ptS A x1 y1 e1 x y e = (x2, y2, e2, true) := by
    rw [← g3, ptM, h3]; simp
  rw [h3, g3]
  dsimp only
  exact add_of h4 a h5 b h6 c hs (by omega)
theorem end_k (hA : -1000 ≤ A ∧ A ≤ 1000) (hB : -10000 ≤ B ∧ B ≤ 10000) (hp : ptB A B x y e = true) (he : e ≠ 0) (ho : OrdT A x y e n) : (ptM A x y e (n - 1)).1 = x ∧ (ptM A x y e (n - 1)).2.1 = -y ∧ (ptM A x y e (n - 1)).2.2.1 = e := by
  have h2 := two_le hp he ho
  obtain ⟨x1, y1, e1, h3, h4, h5, h6⟩ := fin_k hA hB hp ho (by omega : 1 ≤ n - 1) (by omega)
  obtain ⟨a, b, c⟩ := here hA hB hp he ho
  have hn := ho.2.2
  rw [show n = n - 1 + 1 by omega, ptM, h3] at hn
  simp only [if_pos] at hn
  rw [h3]
  obtain ⟨t, u⟩ := hn
  exact ptS_inf h4 a h5 b h6 c (x := (ptS A x1 y1 e1 x y e).1) (y := (ptS A x1 y1 e1 x y e).2.1) (by rw [← t, ← u])
theorem curve_k (hA : -1000 ≤ A ∧ A ≤ 1000) (hB : -10000 ≤ B ∧ B ≤ 10000) (hp : ptB A B x y e = true) (he : e ≠ 0) (ho : OrdT A x y e n) {k : Nat} (h1 : 1 ≤ k) (h2 : k < n) : qY (ptM A x y e k).2.1 (ptM A x y e k).2.2.1 * qY (ptM A x y e k).2.1 (ptM A x y e k).2.2.1 = qX (ptM A x y e k).1 (ptM A x y e k).2.2.1 * qX (ptM A x y e k).1 (ptM A x y e k).2.2.1 * qX (ptM A x y e k).1 (ptM A x y e k).2.2.1 + (A : Rat) * qX (ptM A x y e k).1 (ptM A x y e k).2.2.1 + (B : Rat) := by
  obtain ⟨x1, y1, e1, h3, h4, h5, h6⟩ := fin_k hA hB hp ho h1 h2
  rw [h3]
  dsimp only
  exact q_curve (by omega) h6
/-- E = 1 -/
theorem ord_e (hA : -1000 ≤ A ∧ A ≤ 1000) (hB : -10000 ≤ B ∧ B ≤ 10000) (hp : ptB A B x y e = true) (he : e ≠ 0) (ho : OrdT A x y e n) (h16 : n < 16) : e = 1 := by
  apply Classical.byContradiction
  intro h1
  obtain ⟨a, b, c⟩ := here hA hB hp he ho
  have h2 := two_le hp he ho
  have e2 : 2 ≤ e := by omega
  have gy := gcd_y b c
  have kb := ker_base (x := x) e2 gy
  have q0 := q_curve he c
  have chain : ∀ k, 1 ≤ k → k < n → ∃ τ σ w, Ker e (qX (ptM A x y e k).1 (ptM A x y e k).2.2.1) (qY (ptM A x y e k).2.1 (ptM A x y e k).2.2.1) τ σ ∧ In e w ∧ τ = (k : Rat) * ((x : Rat) * (y : Rat)⁻¹) + (e : Rat) * e * e * e * w := by
    intro k
    induction k with
    | zero => intro h; omega
    | succ k ih =>
      intro _ hk
      by_cases h0 : k = 0
      · subst h0
        rw [show ptM A x y e (0 + 1) = (x, y, e, true) by simp [ptM, ptS]]
        exact ⟨_, _, 0, kb, In.int e 0, by grind⟩
      · obtain ⟨τ, σ, w, h3, h4, h5⟩ := ih (by omega) (by omega)
        have hadd := add_k hA hB hp he ho (by omega : 1 ≤ k) hk
        obtain ⟨L, hL, hX, hY⟩ := hadd
        obtain ⟨τ3, σ3, w3, k1, k2, k3⟩ := kstep e2 (curve_k hA hB hp he ho (by omega : 1 ≤ k) (by omega)) q0 h3 kb hL hX hY
        refine ⟨τ3, σ3, w + w3, k1, h4.add k2, ?_⟩
        rw [k3, h5]
        have : ((k + 1 : Nat) : Rat) = (k : Rat) + 1 := by simp
        rw [this]; grind
  obtain ⟨τ, σ, w, h3, h4, h5⟩ := chain (n - 1) (by omega) (by omega)
  obtain ⟨f1, f2, f3⟩ := end_k hA hB hp he ho
  rw [f1, f2, f3] at h3
  have hneg : qY (-y) e = -(qY y e) := by unfold qY; simp only [Rat.intCast_neg]; grind
  rw [hneg] at h3
  have ht := ker_neg e2 kb h3
  refine final (N := n) (w := -w) e2 b gy (by omega) h16 h4.neg ?_
  have : ((n - 1 : Nat) : Rat) = (n : Rat) - 1 := by
    have : (n : Rat) = ((n - 1 : Nat) : Rat) + 1 := by
      have : n = (n - 1) + 1 := by omega
      rw [show (n : Rat) = ((n - 1 + 1 : Nat) : Rat) by rw [← this]]; simp
    rw [this]; grind
  rw [this] at h5
  rw [h5] at ht
  grind
end
end LN
end Go.Proofs.Ytbnglnbcfabmgaa
