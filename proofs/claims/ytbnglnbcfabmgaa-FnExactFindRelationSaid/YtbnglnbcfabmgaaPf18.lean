/- Lemmas and contracts of functions. No condition. -/
import Derived.Test.YtbnglnbcfabmgaaPf7
import Derived.Test.YtbnglnbcfabmgaaPf14
namespace Go.Proofs.Ytbnglnbcfabmgaa
section
open Go.RowKit
set_option linter.unusedVariables false
set_option maxHeartbeats 1000000
set_option maxRecDepth 20000
namespace LN
/-- the point's coordinates as rationals -/
def qX (x e : Int) : Rat := (x : Rat) * ((e : Rat)⁻¹ * (e : Rat)⁻¹)
def qY (y e : Int) : Rat := (y : Rat) * ((e : Rat)⁻¹ * (e : Rat)⁻¹ * (e : Rat)⁻¹)
theorem ne_cast {z : Int} (h : z ≠ 0) : (z : Rat) ≠ 0 := fun hh => h (by exact_mod_cast hh)
theorem inv_mul {z : Int} (h : z ≠ 0) : (z : Rat)⁻¹ * (z : Rat) = 1 := Rat.inv_mul_cancel _ (ne_cast h)
theorem q_curve {A B x y e : Int} (he : e ≠ 0) (h : y * y = evV A B x e) : qY y e * qY y e = qX x e * qX x e * qX x e + (A : Rat) * qX x e + (B : Rat) := by
  unfold evV at h
  have h' : (y : Rat) * y = (x : Rat) * x * x + A * x * e * e * e * e + B * e * e * e * e * e * e := by
    have := congrArg (fun z : Int => (z : Rat)) h
    simp only [Rat.intCast_mul, Rat.intCast_add] at this
    rw [this]
  unfold qX qY
  exact onC _ _ _ _ _ _ (inv_mul he) h'
theorem q_x3 {x1 e1 n d v x y1 e : Rat} {u1 w : Rat} (hw : w * e = 1) (h1 : u1 * e1 = 1) (hv : v * d = 1) {y : Rat}
  (hS : (n*(x1*(e*e) - x*(e1*e1))*e1 - y1*d*(e*e)) * e = (d*(e1*e1*e1))*y) :
  y * (w * w * w) = (n*v) * (x1*(u1*u1) - x*(w*w)) - y1*(u1*u1*u1) := by
  have e3 : (d*(e1*e1*e1)) * (y * (w*w*w)) = (d*(e1*e1*e1)) * ((n*v) * (x1*(u1*u1) - x*(w*w)) - y1*(u1*u1*u1)) := by
    have : (d*(e1*e1*e1)) * (y * (w*w*w)) = (n*(x1*(e*e) - x*(e1*e1))*e1 - y1*d*(e*e)) * e * (w*w*w) := by rw [hS]; grind
    rw [this]
    have a1 : (n*(x1*(e*e) - x*(e1*e1))*e1 - y1*d*(e*e)) * e * (w*w*w) = (n*(x1*((w*e)*(w*e)) - x*(w*w)*(e1*e1))*e1 - y1*d*((w*e)*(w*e)))*(w*e) := by grind
    have a2 : (d*(e1*e1*e1)) * ((n*v) * (x1*(u1*u1) - x*(w*w)) - y1*(u1*u1*u1)) = (v*d)*n*(x1*((u1*e1)*(u1*e1)) - x*(w*w)*(e1*e1))*e1 - y1*d*((u1*e1)*(u1*e1)*(u1*e1)) := by grind
    rw [a1, a2, hw, h1, hv]; grind
  have ne : d*(e1*e1*e1) ≠ 0 := by
    intro h0
    have : (v*d)*((u1*e1)*(u1*e1)*(u1*e1)) = (v*(u1*u1*u1))*(d*(e1*e1*e1)) := by grind
    rw [h0, hv, h1] at this; simp at this
  have : (d*(e1*e1*e1)) * (y * (w*w*w) - ((n*v) * (x1*(u1*u1) - x*(w*w)) - y1*(u1*u1*u1))) = 0 := by rw [Rat.sub_eq_add_neg, Rat.mul_add, e3]; grind
  rcases Rat.mul_eq_zero.1 this with h | h
  · exact absurd h ne
  · grind
section
variable {A B x1 y1 e1 x2 y2 e2 x y e : Int}
theorem add_of (he1 : 1 ≤ e1 ∧ e1 ≤ 20) (he2 : 1 ≤ e2 ∧ e2 ≤ 20) (hg1 : Int.gcd x1 e1 = 1) (hg2 : Int.gcd x2 e2 = 1) (c1 : y1*y1 = evV A B x1 e1) (c2 : y2*y2 = evV A B x2 e2)
    (h : ptS A x1 y1 e1 x2 y2 e2 = (x, y, e, true)) (he : e ≠ 0) : Add A (qX x1 e1) (qY y1 e1) (qX x2 e2) (qY y2 e2) (qX x e) (qY y e) := by
  have hz : ¬ (x1 = x2 ∧ y1 = -y2 ∧ e1 = e2) := fun hz => by
    simp only [ptS, if_neg (show e1 ≠ 0 by omega), if_neg (show e2 ≠ 0 by omega), if_pos hz, Prod.mk.injEq] at h
    omega
  rw [ptS_thV (by omega) (by omega) hz] at h
  have hzd : slD x1 y1 e1 x2 y2 e2 ≠ 0 := fun t => hz ((sl_zero he1.1 he2.1 hg1 hg2 c1 c2).1 t)
  obtain ⟨r, hr⟩ := third_ex he1.1 he2.1 c1 c2 hzd
  rw [thV_eq hzd (by omega) (by omega) hr] at h
  subst h
  rcases hr with ⟨z, u, f, hr, hf, hx, hg, ht, hy⟩ | ⟨hr, -⟩
  rotate_left
  · simp at hr
  simp only [Prod.mk.injEq] at hr
  obtain ⟨rfl, rfl, rfl, -⟩ := hr
  have q1 := q_curve (by omega) c1
  have q2 := q_curve (by omega) c2
  have i1 := inv_mul (show e1 ≠ 0 by omega)
  have i2 := inv_mul (show e2 ≠ 0 by omega)
  have i3 := inv_mul he
  have i4 := inv_mul hzd
  have ht' : (x : Rat) * ((slD x1 y1 e1 x2 y2 e2 : Int)*(slD x1 y1 e1 x2 y2 e2 : Int)*(((e1 : Rat)*e1)*((e2 : Rat)*e2))) = ((slN A x1 y1 e1 x2 y2 e2 : Int)*(slN A x1 y1 e1 x2 y2 e2 : Int)*(((e1 : Rat)*e1)*((e2 : Rat)*e2)) - (slD x1 y1 e1 x2 y2 e2 : Int)*(slD x1 y1 e1 x2 y2 e2 : Int)*((x1 : Rat)*((e2 : Rat)*e2) + (x2 : Rat)*((e1 : Rat)*e1)))*((e : Rat)*e) := by
    unfold thX at ht
    have := congrArg (fun z : Int => (z : Rat)) ht
    simpa only [Rat.intCast_mul, Rat.intCast_add, Rat.intCast_sub] using this
  have hy' : ((slN A x1 y1 e1 x2 y2 e2 : Int)*((x1 : Rat)*((e : Rat)*e) - (x : Rat)*((e1 : Rat)*e1))*(e1 : Rat) - (y1 : Rat)*(slD x1 y1 e1 x2 y2 e2 : Int)*((e : Rat)*e)) * (e : Rat) = ((slD x1 y1 e1 x2 y2 e2 : Int)*((e1 : Rat)*e1*e1))*(y : Rat) := by
    unfold sdV at hy
    have := congrArg (fun z : Int => (z : Rat)) hy
    simpa only [Rat.intCast_mul, Rat.intCast_add, Rat.intCast_sub] using this
  have hNs : (x1 = x2 ∧ y1 = y2 ∧ e1 = e2) → slN A x1 y1 e1 x2 y2 e2 = 3*x1*x1 + A*e1*e1*e1*e1 ∧ slD x1 y1 e1 x2 y2 e2 = 2*y1*e1 := fun hs => by
    simp only [slN, slD, if_pos hs, and_self]
  have hNn : ¬ (x1 = x2 ∧ y1 = y2 ∧ e1 = e2) → slN A x1 y1 e1 x2 y2 e2 = y2*e1*e1*e1 - y1*e2*e2*e2 ∧ slD x1 y1 e1 x2 y2 e2 = e1*e2*(x2*e1*e1 - x1*e2*e2) := fun hs => by
    simp only [slN, slD, if_neg hs, and_self]
  generalize slN A x1 y1 e1 x2 y2 e2 = N at *
  generalize slD x1 y1 e1 x2 y2 e2 = D at *
  refine ⟨(N : Rat) * (D : Rat)⁻¹, ?_, ?_, ?_⟩
  · by_cases hs : x1 = x2 ∧ y1 = y2 ∧ e1 = e2
    · obtain ⟨hn, hd⟩ := hNs hs
      obtain ⟨rfl, rfl, rfl⟩ := hs
      refine Or.inr ⟨rfl, rfl, ?_⟩
      have hn' : (N : Rat) = 3*(x1:Rat)*x1 + A*e1*e1*e1*e1 := by rw [hn]; simp only [Rat.intCast_mul, Rat.intCast_add]; grind
      have hd' : (D : Rat) = 2*(y1:Rat)*e1 := by rw [hd]; simp only [Rat.intCast_mul]; grind
      have := tgt (A : Rat) x1 y1 e1 _ (N : Rat) (D : Rat) _ i1 i4 (by rw [hn', hd']; grind)
      unfold qX qY
      generalize (N : Rat) * (D : Rat)⁻¹ = L at *
      generalize (x1 : Rat) * ((e1 : Rat)⁻¹ * (e1 : Rat)⁻¹) = X at *
      generalize (y1 : Rat) * ((e1 : Rat)⁻¹ * (e1 : Rat)⁻¹ * (e1 : Rat)⁻¹) = Y at *
      clear ht' hy' q1 q2 hNs hNn hn' hd' c1 c2 hn hd ht hy hz
      grind
    · obtain ⟨hn, hd⟩ := hNn hs
      refine Or.inl ?_
      have hn' : (N : Rat) = (y2:Rat)*e1*e1*e1 - y1*e2*e2*e2 := by rw [hn]; simp only [Rat.intCast_mul, Rat.intCast_sub]
      have hd' : (D : Rat) = (e1:Rat)*e2*(x2*e1*e1 - x1*e2*e2) := by rw [hd]; simp only [Rat.intCast_mul, Rat.intCast_sub]
      have hsl := slp (x1 : Rat) y1 e1 _ x2 y2 e2 _ (N : Rat) (D : Rat) _ i1 i2 i4 (by rw [hn', hd']; grind)
      refine ⟨?_, ?_⟩
      · intro hx0
        apply hzd
        have : x2*e1*e1 - x1*e2*e2 = 0 := by
          have h0 : (x2 : Rat)*e1*e1 - x1*e2*e2 = 0 := by
            unfold qX at hx0
            have a : (x2 : Rat)*e1*e1 = (x2 * ((e2 : Rat)⁻¹*(e2 : Rat)⁻¹))*(e1*e1*e2*e2) := by
              generalize (e2 : Rat)⁻¹ = u2 at *
              have : (x2 : Rat) * (u2*u2)*(e1*e1*e2*e2) = x2*e1*e1*((u2*e2)*(u2*e2)) := by grind
              rw [this, i2]; grind
            have b : (x1 : Rat)*e2*e2 = (x1 * ((e1 : Rat)⁻¹*(e1 : Rat)⁻¹))*(e1*e1*e2*e2) := by
              generalize (e1 : Rat)⁻¹ = u1 at *
              have : (x1 : Rat) * (u1*u1)*(e1*e1*e2*e2) = x1*e2*e2*((u1*e1)*(u1*e1)) := by grind
              rw [this, i1]; grind
            rw [a, b, hx0]; grind
          exact_mod_cast h0
        rw [hd, this]; simp
      · unfold qX qY; exact hsl
  · have := x3 (x1 : Rat) e1 _ x2 e2 _ (N : Rat) (D : Rat) _ x e _ i1 i2 i4 i3 ht'
    unfold qX; exact this
  · have := q_x3 (x1 := (x1 : Rat)) (y1 := (y1 : Rat)) (y := (y : Rat)) (x := (x : Rat)) i3 i1 i4 hy'
    unfold qX qY; exact this
end
end LN
end
section
open Go.RowKit
set_option linter.unusedVariables false
set_option maxHeartbeats 1000000
set_option maxRecDepth 20000
set_option linter.unusedSectionVars false
/-- the order of a point is told to be n -/
def OrdT (A x y e : Int) (n : Nat) : Prop := 1 ≤ n ∧ (∀ k, 1 ≤ k → k < n → (ptM A x y e k).2.2.2 = true ∧ (ptM A x y e k).2.2.1 ≠ 0) ∧ (ptM A x y e n).2.2.2 = true ∧ (ptM A x y e n).2.2.1 = 0
namespace LN
theorem ker_base {e x y : Int} (he : 2 ≤ e) (hy : Int.gcd y e = 1) : Ker e (qX x e) (qY y e) ((x : Rat) * (y : Rat)⁻¹) ((y : Rat)⁻¹) := by
  have hy0 : y ≠ 0 := fun h => by subst h; simp at hy; omega
  have iy : In e ((y : Rat)⁻¹) := ⟨1, y, hy, by rw [inv_mul hy0]; rfl⟩
  refine ⟨(In.int e x).mul iy, iy, ?_, ?_⟩
  · have a := inv_mul hy0
    have b := inv_mul (show e ≠ 0 by omega)
    unfold qY
    generalize (y : Rat)⁻¹ = v at *
    generalize (e : Rat)⁻¹ = u at *
    have : (e : Rat) * e * e * v * (y * (u * u * u)) = (v * y) * ((u * e) * (u * e) * (u * e)) := by grind
    rw [this, a, b]; grind
  · have b := inv_mul (show e ≠ 0 by omega)
    unfold qX
    generalize (y : Rat)⁻¹ = v at *
    generalize (e : Rat)⁻¹ = u at *
    have : (x : Rat) * (u * u) * ((e : Rat) * e * e * v) = (e * (x * v)) * ((u * e) * (u * e)) := by grind
    rw [this, b]; grind
theorem ker_neg {e : Int} {X Y τ σ τ' σ' : Rat} (he : 2 ≤ e) (h : Ker e X Y τ σ) (h' : Ker e X (-Y) τ' σ') : τ' = -τ := by
  obtain ⟨-, -, a, b⟩ := h
  obtain ⟨-, -, c, d⟩ := h'
  have ne : (e : Rat) ≠ 0 := ne_cast (by omega)
  have h1 : (e : Rat) * e * e * σ' = -((e : Rat) * e * e * σ) := inv_uniq (y := -Y) c (by rw [← a]; grind)
  have : (e : Rat) * (τ' + τ) = 0 := by
    rw [Rat.mul_add, ← d, ← b, h1]; grind
  rcases Rat.mul_eq_zero.1 this with h | h
  · exact absurd h ne
  · grind
theorem ker_int {e z : Int} {X Y τ σ : Rat} (he : 2 ≤ e) (h : Ker e X Y τ σ) (hz : Y * Y = (z : Rat)) : False := by
  obtain ⟨-, ⟨a, b, hg, hb⟩, k, -⟩ := h
  have h1 : (e : Rat) * e * e * e * e * e * (a * a) * z = (b : Rat) * b := by
    rw [← hb, ← hz]
    have : (e : Rat) * e * e * e * e * e * (σ * b * (σ * b)) * (Y * Y) = ((e * e * e * σ) * Y) * ((e * e * e * σ) * Y) * (b * b) := by grind
    rw [this, k]; grind
  have h2 : e * e * e * e * e * e * (a * a) * z = b * b := by exact_mod_cast h1
  have h3 : e ∣ b * b := ⟨e * e * e * e * e * (a * a) * z, by rw [← h2]; grind⟩
  have hgg := gcd_mul hg hg
  have h4 : (e : Int) ∣ Int.gcd (b * b) e := Int.dvd_coe_gcd h3 (Int.dvd_refl e)
  rw [hgg] at h4
  have := Int.le_of_dvd (by decide) h4
  omega
theorem final {e x y : Int} {N : Nat} {w : Rat} (he : 2 ≤ e) (hx : Int.gcd x e = 1) (hy : Int.gcd y e = 1) (hN : 0 < N) (hN2 : N < 16) (hw : In e w) (h : (N : Rat) * ((x : Rat) * (y : Rat)⁻¹) = (e : Rat) * e * e * e * w) : False := by
  have hy0 : y ≠ 0 := fun h => by subst h; simp at hy; omega
  obtain ⟨a, b, hb, hab⟩ := hw
  have h1 : (N : Rat) * (x * b) = (e : Rat) * e * e * e * (a * y) := by
    rw [← hab]
    have i := inv_mul hy0
    generalize (y : Rat)⁻¹ = v at *
    have : (e : Rat) * e * e * e * (w * b * y) = (e * e * e * e * w) * (b * y) := by grind
    rw [this, ← h]
    have : (N : Rat) * (x * v) * (b * y) = (v * y) * (N * (x * b)) := by grind
    rw [this, i]; grind
  have h2 : (N : Int) * (x * b) = e * e * e * e * (a * y) := by exact_mod_cast h1
  have h3 : e * e * e * e ∣ (x * b) * N := ⟨a * y, by rw [← h2]; grind⟩
  have g1 := gcd_mul hx hb
  have g2 : Int.gcd (e * e * e * e) (x * b) = 1 := by
    have g : Int.gcd e (x * b) = 1 := by rw [Int.gcd_comm]; exact g1
    exact gcd_mul (gcd_mul (gcd_mul g g) g) g
  have h4 := dvd_cop h3 g2
  have h5 := Int.le_of_dvd (by omega) h4
  have e2 : 2 * 2 ≤ e * e := Int.mul_le_mul he he (by omega) (by omega)
  have e4 : 4 * 4 ≤ (e * e) * (e * e) := Int.mul_le_mul e2 e2 (by omega) (by omega)
  have : e * e * e * e = (e * e) * (e * e) := by grind
  omega
/-- a sum that is infinity is that of opposite points -/
theorem ptS_inf {A B x1 y1 e1 x2 y2 e2 x y : Int} (he1 : 1 ≤ e1 ∧ e1 ≤ 20) (he2 : 1 ≤ e2 ∧ e2 ≤ 20) (hg1 : Int.gcd x1 e1 = 1) (hg2 : Int.gcd x2 e2 = 1) (c1 : y1*y1 = evV A B x1 e1) (c2 : y2*y2 = evV A B x2 e2)
    (h : ptS A x1 y1 e1 x2 y2 e2 = (x, y, 0, true)) : x1 = x2 ∧ y1 = -y2 ∧ e1 = e2 := by
  apply Classical.byContradiction
  intro hz
  rw [ptS_thV (by omega) (by omega) hz] at h
  have hzd : slD x1 y1 e1 x2 y2 e2 ≠ 0 := fun t => hz ((sl_zero he1.1 he2.1 hg1 hg2 c1 c2).1 t)
  obtain ⟨r, hr⟩ := third_ex he1.1 he2.1 c1 c2 hzd
  rw [thV_eq hzd (by omega) (by omega) hr] at h
  subst h
  rcases hr with ⟨z, u, f, hr, hf, -⟩ | ⟨hr, -⟩
  · simp only [Prod.mk.injEq] at hr
    omega
  · simp at hr
theorem gcd_y {A B x y e : Int} (hg : Int.gcd x e = 1) (h : y * y = evV A B x e) : Int.gcd y e = 1 := by
  unfold evV at h
  have h3 : Int.gcd (x * x * x) e = 1 := gcd_mul (gcd_mul hg hg) hg
  have hk : y * y = x * x * x + e * (A * x * e * e * e + B * e * e * e * e * e) := by rw [h]; grind
  have h4 : Int.gcd (y * y) e = 1 := by
    rw [hk, Int.gcd_comm]; simp; rw [Int.gcd_comm]; exact h3
  have h5 : (Int.gcd y e : Int) ∣ Int.gcd (y * y) e := Int.dvd_coe_gcd (Int.dvd_trans (Int.gcd_dvd_left ..) (Int.dvd_mul_right ..)) (Int.gcd_dvd_right ..)
  rw [h4] at h5
  have := Int.le_of_dvd (by decide) h5
  have h6 : 0 < Int.gcd y e := by
    rcases Nat.eq_zero_or_pos (Int.gcd y e) with h0 | h0
    · rw [h0] at h5; simp at h5
    · exact h0
  omega
section
variable {A B x y e : Int} {n : Nat}
theorem fin_k (hA : -1000 ≤ A ∧ A ≤ 1000) (hB : -10000 ≤ B ∧ B ≤ 10000) (hp : ptB A B x y e = true) (ho : OrdT A x y e n) {k : Nat} (h1 : 1 ≤ k) (h2 : k < n) : ∃ xk yk ek, ptM A x y e k = (xk, yk, ek, true) ∧ (1 ≤ ek ∧ ek ≤ 20) ∧ Int.gcd xk ek = 1 ∧ yk * yk = evV A B xk ek := by
  obtain ⟨t, ne⟩ := ho.2.1 k h1 h2
  rcases ptM_ok hA hB hp k with ⟨_, hb⟩ | h0
  · rcases pt_cases hA hB hb with ⟨_, _, h⟩ | ⟨a, _, _, b, c⟩
    · exact absurd h ne
    · exact ⟨_, _, _, by rw [← t], a, b, c⟩
  · rw [h0] at t; simp at t
theorem two_le (hp : ptB A B x y e = true) (he : e ≠ 0) (ho : OrdT A x y e n) : 2 ≤ n := by
  rcases ho with ⟨h1, _, _, h3⟩
  rcases Nat.lt_or_ge n 2 with h | h
  · obtain rfl : n = 1 := by omega
    rw [show ptM A x y e 1 = (x, y, e, true) by simp [ptM, ptS]] at h3
    exact absurd h3 he
  · exact h
theorem here (hA : -1000 ≤ A ∧ A ≤ 1000) (hB : -10000 ≤ B ∧ B ≤ 10000) (hp : ptB A B x y e = true) (he : e ≠ 0) (ho : OrdT A x y e n) : (1 ≤ e ∧ e ≤ 20) ∧ Int.gcd x e = 1 ∧ y * y = evV A B x e := by
  rcases pt_cases hA hB hp with ⟨_, _, h⟩ | ⟨a, _, _, b, c⟩
  · exact absurd h he
  · exact ⟨a, b, c⟩
theorem add_k (hA : -1000 ≤ A ∧ A ≤ 1000) (hB : -10000 ≤ B ∧ B ≤ 10000) (hp : ptB A B x y e = true) (he : e ≠ 0) (ho : OrdT A x y e n) {k : Nat} (h1 : 1 ≤ k) (h2 : k + 1 < n) : Add A (qX (ptM A x y e k).1 (ptM A x y e k).2.2.1) (qY (ptM A x y e k).2.1 (ptM A x y e k).2.2.1) (qX x e) (qY y e) (qX (ptM A x y e (k + 1)).1 (ptM A x y e (k + 1)).2.2.1) (qY (ptM A x y e (k + 1)).2.1 (ptM A x y e (k + 1)).2.2.1) := by
  obtain ⟨x1, y1, e1, h3, h4, h5, h6⟩ := fin_k hA hB hp ho h1 (by omega : k < n)
  obtain ⟨x2, y2, e2, g3, g4, g5, g6⟩ := fin_k hA hB hp ho (by omega : 1 ≤ k + 1) h2
  obtain ⟨a, b, c⟩ := here hA hB hp he ho
  have hs : ptS A x1 y1 e1 x y e = (x2, y2, e2, true) := by
    rw [← g3, ptM, h3]; simp
  rw [h3, g3]
  dsimp only
  exact add_of h4 a h5 b h6 c hs (by omega)
theorem end_k (hA : -1000 ≤ A ∧ A ≤ 1000) (hB : -10000 ≤ B ∧ B ≤ 10000) (hp : ptB A B x y e = true) (he : e ≠ 0) (ho : OrdT A x y e n) : (ptM A x y e (n - 1)).1 = x ∧ (ptM A x y e (n - 1)).2.1 = -y ∧ (ptM A x y e (n - 1)).2.2.1 = e := by
  have h2 := two_le hp he ho
  obtain ⟨x1, y1, e1, h3, h4, h5, h6⟩ := fin_k hA hB hp ho (by omega : 1 ≤ n - 1) (by omega)
  obtain ⟨a, b, c⟩ := here hA hB hp he ho
  have hn := ho.2.2
  rw [show n = n - 1 + 1 by omega, ptM, h3] at hn
  simp only [if_pos] at hn
  rw [h3]
  obtain ⟨t, u⟩ := hn
  exact ptS_inf h4 a h5 b h6 c (x := (ptS A x1 y1 e1 x y e).1) (y := (ptS A x1 y1 e1 x y e).2.1) (by rw [← t, ← u])
theorem curve_k (hA : -1000 ≤ A ∧ A ≤ 1000) (hB : -10000 ≤ B ∧ B ≤ 10000) (hp : ptB A B x y e = true) (he : e ≠ 0) (ho : OrdT A x y e n) {k : Nat} (h1 : 1 ≤ k) (h2 : k < n) : qY (ptM A x y e k).2.1 (ptM A x y e k).2.2.1 * qY (ptM A x y e k).2.1 (ptM A x y e k).2.2.1 = qX (ptM A x y e k).1 (ptM A x y e k).2.2.1 * qX (ptM A x y e k).1 (ptM A x y e k).2.2.1 * qX (ptM A x y e k).1 (ptM A x y e k).2.2.1 + (A : Rat) * qX (ptM A x y e k).1 (ptM A x y e k).2.2.1 + (B : Rat) := by
  obtain ⟨x1, y1, e1, h3, h4, h5, h6⟩ := fin_k hA hB hp ho h1 h2
  rw [h3]
  dsimp only
  exact q_curve (by omega) h6
/-- E = 1 -/
theorem ord_e (hA : -1000 ≤ A ∧ A ≤ 1000) (hB : -10000 ≤ B ∧ B ≤ 10000) (hp : ptB A B x y e = true) (he : e ≠ 0) (ho : OrdT A x y e n) (h16 : n < 16) : e = 1 := by
  apply Classical.byContradiction
  intro h1
  obtain ⟨a, b, c⟩ := here hA hB hp he ho
  have h2 := two_le hp he ho
  have e2 : 2 ≤ e := by omega
  have gy := gcd_y b c
  have kb := ker_base (x := x) e2 gy
  have q0 := q_curve he c
  have chain : ∀ k, 1 ≤ k → k < n → ∃ τ σ w, Ker e (qX (ptM A x y e k).1 (ptM A x y e k).2.2.1) (qY (ptM A x y e k).2.1 (ptM A x y e k).2.2.1) τ σ ∧ In e w ∧ τ = (k : Rat) * ((x : Rat) * (y : Rat)⁻¹) + (e : Rat) * e * e * e * w := by
    intro k
    induction k with
    | zero => intro h; omega
    | succ k ih =>
      intro _ hk
      by_cases h0 : k = 0
      · subst h0
        rw [show ptM A x y e (0 + 1) = (x, y, e, true) by simp [ptM, ptS]]
        exact ⟨_, _, 0, kb, In.int e 0, by grind⟩
      · obtain ⟨τ, σ, w, h3, h4, h5⟩ := ih (by omega) (by omega)
        have hadd := add_k hA hB hp he ho (by omega : 1 ≤ k) hk
        obtain ⟨L, hL, hX, hY⟩ := hadd
        obtain ⟨τ3, σ3, w3, k1, k2, k3⟩ := kstep e2 (curve_k hA hB hp he ho (by omega : 1 ≤ k) (by omega)) q0 h3 kb hL hX hY
        refine ⟨τ3, σ3, w + w3, k1, h4.add k2, ?_⟩
        rw [k3, h5]
        have : ((k + 1 : Nat) : Rat) = (k : Rat) + 1 := by simp
        rw [this]; grind
  obtain ⟨τ, σ, w, h3, h4, h5⟩ := chain (n - 1) (by omega) (by omega)
  obtain ⟨f1, f2, f3⟩ := end_k hA hB hp he ho
  rw [f1, f2, f3] at h3
  have hneg : qY (-y) e = -(qY y e) := by unfold qY; simp only [Rat.intCast_neg]; grind
  rw [hneg] at h3
  have ht := ker_neg e2 kb h3
  refine final (N := n) (w := -w) e2 b gy (by omega) h16 h4.neg ?_
  have : ((n - 1 : Nat) : Rat) = (n : Rat) - 1 := by
    have : (n : Rat) = ((n - 1 : Nat) : Rat) + 1 := by
      have : n = (n - 1) + 1 := by omega
      rw [show (n : Rat) = ((n - 1 + 1 : Nat) : Rat) by rw [← this]]; simp
    rw [this]; grind
  rw [this] at h5
  rw [h5] at ht
  grind
end
end LN
end
section
open Go.RowKit
set_option linter.unusedVariables false
set_option maxHeartbeats 1000000
set_option maxRecDepth 20000
set_option linter.unusedSectionVars false
namespace LN
theorem qX1 (x : Int) : qX x 1 = (x : Rat) := by unfold qX; simp; grind
theorem qY1 (y : Int) : qY y 1 = (y : Rat) := by unfold qY; simp; grind
section
variable {A B x y : Int} {n : Nat}
theorem three_le (hA : -1000 ≤ A ∧ A ≤ 1000) (hB : -10000 ≤ B ∧ B ≤ 10000) (hp : ptB A B x y 1 = true) (ho : OrdT A x y 1 n) (hy : y ≠ 0) : 3 ≤ n := by
  have h2 := two_le hp (by decide) ho
  rcases Nat.lt_or_ge n 3 with h | h
  · obtain rfl : n = 2 := by omega
    obtain ⟨f1, f2, f3⟩ := end_k hA hB hp (by decide) ho
    rw [show ptM A x y 1 (2 - 1) = (x, y, 1, true) by simp [ptM, ptS]] at f2
    simp only at f2
    omega
  · exact h
theorem dbl_add (hA : -1000 ≤ A ∧ A ≤ 1000) (hB : -10000 ≤ B ∧ B ≤ 10000) (hp : ptB A B x y 1 = true) (ho : OrdT A x y 1 n) (hy : y ≠ 0) : Add A (qX x 1) (qY y 1) (qX x 1) (qY y 1) (qX (ptM A x y 1 2).1 (ptM A x y 1 2).2.2.1) (qY (ptM A x y 1 2).2.1 (ptM A x y 1 2).2.2.1) := by
  have h3 := three_le hA hB hp ho hy
  have := add_k hA hB hp (by decide) ho (k := 1) (by omega) (by omega)
  rw [show ptM A x y 1 1 = (x, y, 1, true) by simp [ptM, ptS]] at this
  exact this
/-- E of the doubled point is 1 -/
theorem ord_e2 (hA : -1000 ≤ A ∧ A ≤ 1000) (hB : -10000 ≤ B ∧ B ≤ 10000) (hp : ptB A B x y 1 = true) (ho : OrdT A x y 1 n) (hy : y ≠ 0) (h16 : n < 16) : (ptM A x y 1 2).2.2.1 = 1 := by
  have h3 := three_le hA hB hp ho hy
  have hQ := dbl_add hA hB hp ho hy
  obtain ⟨xq, yq, eq, hq, q1, q2, q3⟩ := fin_k hA hB hp ho (k := 2) (by omega) (by omega)
  obtain ⟨_, _, c⟩ := here hA hB hp (by decide) ho
  rw [hq] at hQ ⊢
  dsimp only at hQ ⊢
  apply Classical.byContradiction
  intro hne
  have e2 : 2 ≤ eq := by omega
  have gq := gcd_y q2 q3
  have kb := ker_base (x := xq) e2 gq
  have cq := q_curve (show eq ≠ 0 by omega) q3
  have c0 := q_curve (show (1 : Int) ≠ 0 by decide) c
  have y0 : qY y 1 ≠ 0 := by rw [qY1]; exact ne_cast hy
  have far : ∀ {X Y τ σ : Rat}, Ker eq X Y τ σ → Y * Y = X * X * X + (A : Rat) * X + (B : Rat) → X ≠ qX x 1 := fun hk hc hx => by
    rw [hx, ← c0, qY1] at hc
    exact ker_int (z := y * y) e2 hk (by rw [hc]; simp)
  have chain : ∀ k, 1 ≤ k → 2 * k < n → ∃ τ σ w, Ker eq (qX (ptM A x y 1 (2 * k)).1 (ptM A x y 1 (2 * k)).2.2.1) (qY (ptM A x y 1 (2 * k)).2.1 (ptM A x y 1 (2 * k)).2.2.1) τ σ ∧ In eq w ∧ τ = (k : Rat) * ((xq : Rat) * (yq : Rat)⁻¹) + (eq : Rat) * eq * eq * eq * w := by
    intro k
    induction k with
    | zero => intro h; omega
    | succ k ih =>
      intro _ hk
      by_cases h0 : k = 0
      · subst h0
        rw [show 2 * (0 + 1) = 2 by rfl, hq]
        exact ⟨_, _, 0, kb, In.int eq 0, by grind⟩
      · obtain ⟨τ, σ, w, t3, t4, t5⟩ := ih (by omega) (by omega)
        have cR := curve_k hA hB hp (by decide) ho (k := 2 * k) (by omega) (by omega)
        have aS := add_k hA hB hp (by decide) ho (k := 2 * k) (by omega) (by omega)
        have aT := add_k hA hB hp (by decide) ho (k := 2 * k + 1) (by omega) (by omega)
        obtain ⟨L, hL, hX, hY⟩ := assoc c0 cR y0 (far t3 cR) aS aT hQ
        obtain ⟨τ3, σ3, w3, k1, k2, k3⟩ := kstep e2 cR cq t3 kb hL hX hY
        rw [show 2 * (k + 1) = 2 * k + 1 + 1 by omega]
        refine ⟨τ3, σ3, w + w3, k1, t4.add k2, ?_⟩
        rw [k3, t5]
        have : ((k + 1 : Nat) : Rat) = (k : Rat) + 1 := by simp
        rw [this]; grind
  obtain ⟨f1, f2, f3⟩ := end_k hA hB hp (by decide) ho
  rcases Nat.mod_two_eq_zero_or_one n with hm | hm
  · -- n is even: the multiple n-2 is the opposite of the double
    obtain ⟨m, hm⟩ : ∃ m, n = 2 * m + 2 := ⟨n / 2 - 1, by omega⟩
    obtain ⟨τ, σ, w, t3, t4, t5⟩ := chain m (by omega) (by omega)
    have cR := curve_k hA hB hp (by decide) ho (k := 2 * m) (by omega) (by omega)
    have aS := add_k hA hB hp (by decide) ho (k := 2 * m) (by omega) (by omega)
    rw [show n - 1 = 2 * m + 1 by omega] at f1 f2 f3
    rw [f1, f2, f3] at aS
    have hneg : qY (-y) 1 = -(qY y 1) := by rw [qY1, qY1]; simp
    rw [hneg] at aS
    obtain ⟨r1, r2⟩ := cancel c0 cR y0 (far t3 cR) aS hQ
    rw [r1, r2] at t3
    have ht := ker_neg e2 kb t3
    refine final (N := m + 1) (w := -w) e2 q2 gq (by omega) (by omega) t4.neg ?_
    have : ((m + 1 : Nat) : Rat) = (m : Rat) + 1 := by simp
    rw [this]
    rw [t5] at ht
    grind
  · obtain ⟨τ, σ, w, t3, t4, t5⟩ := chain (n / 2) (by omega) (by omega)
    have cR := curve_k hA hB hp (by decide) ho (k := 2 * (n / 2)) (by omega) (by omega)
    rw [show n - 1 = 2 * (n / 2) by omega] at f1 f2 f3
    rw [f1, f2, f3] at t3
    exact ker_int (z := y * y) e2 t3 (by rw [qY1]; simp; grind)
theorem ord_d (hA : -1000 ≤ A ∧ A ≤ 1000) (hB : -10000 ≤ B ∧ B ≤ 10000) (hp : ptB A B x y 1 = true) (ho : OrdT A x y 1 n) (hy : y ≠ 0) (h16 : n < 16) : y * y ∣ 4 * A * A * A + 27 * B * B := by
  have hE := ord_e2 hA hB hp ho hy h16
  have hQ := dbl_add hA hB hp ho hy
  obtain ⟨_, _, c⟩ := here hA hB hp (by decide) ho
  rw [hE] at hQ
  generalize (ptM A x y 1 2).1 = xq at hQ
  generalize (ptM A x y 1 2).2.1 = yq at hQ
  rw [qX1, qX1, qY1, qY1] at hQ
  obtain ⟨k, hk, hX, -⟩ := hQ
  rcases hk with ⟨h, _⟩ | ⟨_, _, hk⟩
  · exact absurd rfl h
  have h1 : (4 : Rat) * ((y : Rat) * y) * ((xq : Rat) + 2 * x) = (3 * x * x + A) * (3 * x * x + A) := by
    rw [hX, ← hk]; grind
  have h2 : 4 * (y * y) * (xq + 2 * x) = (3 * x * x + A) * (3 * x * x + A) := by exact_mod_cast h1
  have h3 : y * y = x * x * x + A * x + B := by rw [c]; unfold evV; grind
  refine ⟨4 * (3 * x * x + 4 * A) * (xq + 2 * x) - 27 * (x * x * x + A * x - B), ?_⟩
  have h4 : 4 * A * A * A + 27 * B * B = (3 * x * x + 4 * A) * ((3 * x * x + A) * (3 * x * x + A)) - 27 * (x * x * x + A * x - B) * (x * x * x + A * x + B) := by grind
  rw [h4, ← h2, ← h3]; grind
end
theorem sq_pos {a : Int} (h : a ≠ 0) : 0 < a * a := by
  rcases Int.lt_or_gt_of_ne h with t | t
  · exact Int.mul_pos_of_neg_of_neg t t
  · exact Int.mul_pos t t
theorem disc_bd {A B : Int} (hA : -1000 ≤ A ∧ A ≤ 1000) (hB : -10000 ≤ B ∧ B ≤ 10000) : -6700000000 ≤ 4 * A * A * A + 27 * B * B ∧ 4 * A * A * A + 27 * B * B ≤ 6700000000 := by
  have h1 := mul_bd (a := A) (b := A) (A := 1000) (B := 1000) (by omega) (by omega)
  have h2 := mul_bd (a := A * A) (b := A) (A := 1000000) (B := 1000) (by omega) (by omega)
  have h3 := mul_bd (a := B) (b := B) (A := 10000) (B := 10000) (by omega) (by omega)
  have e1 : 4 * A * A * A = 4 * (A * A * A) := by grind
  have e2 : 27 * B * B = 27 * (B * B) := by grind
  omega
theorem x_small {A B x V : Int} (hA : -1000 ≤ A ∧ A ≤ 1000) (hB : -10000 ≤ B ∧ B ≤ 10000) (h0 : 0 ≤ V) (hV : V ≤ 6700000000) (h : V = x * x * x + A * x + B) : -3000 ≤ x ∧ x ≤ 3000 := by
  have k : x * x * x + A * x = x * (x * x + A) := by grind
  constructor
  · apply Int.not_lt.1; intro hx
    have h1 : 3000 * 3000 ≤ (-x) * (-x) := Int.mul_le_mul (by omega) (by omega) (by omega) (by omega)
    rw [Int.neg_mul_neg] at h1
    have h2 : 3000 * 8999000 ≤ (-x) * (x * x + A) := Int.mul_le_mul (by omega) (by omega) (by omega) (by omega)
    rw [Int.neg_mul] at h2
    omega
  · apply Int.not_lt.1; intro hx
    have h1 : 3000 * 3000 ≤ x * x := Int.mul_le_mul (by omega) (by omega) (by omega) (by omega)
    have h2 : 3000 * 8999000 ≤ x * (x * x + A) := Int.mul_le_mul (by omega) (by omega) (by omega) (by omega)
    omega
end LN
/-- what every point is whose order is told to be 15 or less -/
theorem ord_cand {A B x y e : Int} {n : Nat} (hA : -1000 ≤ A ∧ A ≤ 1000) (hB : -10000 ≤ B ∧ B ≤ 10000) (hp : ptB A B x y e = true) (hd : 4 * A * A * A + 27 * B * B ≠ 0) (he : e ≠ 0) (ho : OrdT A x y e n) (h16 : n < 16) :
    e = 1 ∧ (-3000 ≤ x ∧ x ≤ 3000) ∧ (y = 0 ∨ y * y ∣ 4 * A * A * A + 27 * B * B) := by
  obtain rfl := LN.ord_e hA hB hp he ho h16
  have hdiv : y = 0 ∨ y * y ∣ 4 * A * A * A + 27 * B * B := by
    by_cases hy : y = 0
    · exact Or.inl hy
    · exact Or.inr (LN.ord_d hA hB hp ho hy h16)
  obtain ⟨_, _, c⟩ := LN.here hA hB hp (by decide) ho
  have h3 : y * y = x * x * x + A * x + B := by rw [c]; unfold evV; grind
  refine ⟨rfl, ?_, hdiv⟩
  have hb := LN.disc_bd hA hB
  have h0 : 0 ≤ y * y := by
    by_cases hy : y = 0
    · subst hy; simp
    · exact Int.le_of_lt (LN.sq_pos hy)
  refine LN.x_small hA hB h0 ?_ h3
  rcases hdiv with rfl | ⟨q, hq⟩
  · simp
  · by_cases hy : y = 0
    · subst hy; simp
    have h1 := LN.sq_pos hy
    have hq0 : q ≠ 0 := by rintro rfl; simp at hq; exact hd hq
    generalize 4 * A * A * A + 27 * B * B = D at *
    rcases Int.lt_or_gt_of_ne hq0 with t | t
    · have : (y * y) * 1 ≤ (y * y) * (-q) := Int.mul_le_mul_of_nonneg_left (by omega) (by omega)
      rw [Int.mul_neg] at this
      omega
    · have : (y * y) * 1 ≤ (y * y) * q := Int.mul_le_mul_of_nonneg_left (by omega) (by omega)
      omega
end
section
open Go.RowKit
set_option linter.unusedVariables false
set_option maxHeartbeats 1000000
set_option maxRecDepth 20000
/-- the order: f multiples more, behind the k-th -/
noncomputable def orF (A x y e : Int) : Nat → Nat → Int × Bool
  | 0, _ => (0, false)
  | f + 1, k => if (ptM A x y e (k + 1)).2.2.2 = true then (if (ptM A x y e (k + 1)).2.2.1 = 0 then ((k : Int) + 1, true) else orF A x y e f (k + 1)) else (0, false)
noncomputable def orV (A x y e : Int) : Int × Bool := orF A x y e 12 0
/-- the order is told -/
noncomputable def orB (A x y e : Int) : Bool := (orV A x y e).2
theorem orF_told {A x y e : Int} : ∀ (f k : Nat), (orF A x y e f k).2 = true → (∀ j, 1 ≤ j → j < k + 1 → (ptM A x y e j).2.2.2 = true ∧ (ptM A x y e j).2.2.1 ≠ 0) → ∃ n, n ≤ k + f ∧ OrdT A x y e n
  | 0, k, h, _ => by simp [orF] at h
  | f + 1, k, h, hj => by
    unfold orF at h
    by_cases h1 : (ptM A x y e (k + 1)).2.2.2 = true
    · rw [if_pos h1] at h
      by_cases h2 : (ptM A x y e (k + 1)).2.2.1 = 0
      · exact ⟨k + 1, by omega, by omega, fun j a b => hj j a b, h1, h2⟩
      · rw [if_neg h2] at h
        obtain ⟨n, hn, ho⟩ := orF_told f (k + 1) h (fun j a b => by
          by_cases e : j = k + 1
          · subst e; exact ⟨h1, h2⟩
          · exact hj j a (by omega))
        exact ⟨n, by omega, ho⟩
    · rw [if_neg h1] at h; simp at h
theorem orB_told {A x y e : Int} (h : orB A x y e = true) : ∃ n, n ≤ 12 ∧ OrdT A x y e n := by
  obtain ⟨n, hn, ho⟩ := orF_told 12 0 h (fun j a b => by omega)
  exact ⟨n, by omega, ho⟩
/-- the order of infinity is told -/
theorem orB_zero (A : Int) : orB A 0 0 0 = true := by
  have : ptM A 0 0 0 1 = (0, 0, 0, true) := by simp [ptM, ptS]
  unfold orB orV orF
  rw [if_pos (by rw [this]), if_pos (by rw [this])]
/-- a candidate for a torsion point -/
def caB (A B x y e : Int) : Bool := decide (e = 1) && decide (-3000 ≤ x ∧ x ≤ 3000) && decide (y * y = evV A B x 1) && (decide (y = 0) || decide ((coV A B).tmod (y * y) = 0))
/-- where the order is told, the point is infinity or a candidate -/
theorem told_cand {A B x y e : Int} (hc : cvB A B = true) (hp : ptB A B x y e = true) (h : orB A x y e = true) : (x = 0 ∧ y = 0 ∧ e = 0) ∨ caB A B x y e = true := by
  obtain ⟨n, hn, ho⟩ := orB_told h
  have hb := cvB_bd hc
  rcases pt_cases hb.1 hb.2.1 hp with h0 | ⟨he, hx, _, hg, hcv⟩
  · exact Or.inl h0
  · right
    have hd : 4 * A * A * A + 27 * B * B ≠ 0 := by have := hb.2.2; unfold coV at this; exact this
    obtain ⟨rfl, h1, h2⟩ := ord_cand hb.1 hb.2.1 hp hd (by omega) ho (by omega)
    unfold caB
    simp only [Bool.and_eq_true, Bool.or_eq_true, decide_eq_true_eq]
    refine ⟨⟨⟨trivial, h1⟩, hcv⟩, ?_⟩
    rcases h2 with h2 | h2
    · exact Or.inl h2
    · right
      have : coV A B = 4 * A * A * A + 27 * B * B := rfl
      rw [this]
      exact Int.tmod_eq_zero_of_dvd h2
end
section
open Go.RowKit
set_option linter.unusedVariables false
set_option maxHeartbeats 1000000
set_option maxRecDepth 20000
/-- the first list that is not empty -/
def fdL (f : Nat → List Int) : Nat → Nat → List Int
  | 0, _ => []
  | k + 1, j => if f j = [] then fdL f k (j + 1) else f j
/-- number by number -/
def fdR (p : List Int → Bool) (m : Nat) : Nat → List Int → List Int
  | 0, b => if p b = true then b else []
  | d + 1, b => fdL (fun j => fdR p m d (b ++ [-(m : Int) + j])) (2 * m + 1) 0
/-- counted through -/
def fdX (p : List Int → Bool) (g : Nat → List Int) : Nat → Nat → List Int
  | 0, _ => []
  | k + 1, x => if p (g x) = true then g x else fdX p g k (x + 1)
theorem fdL_congr {f g : Nat → List Int} : ∀ k j, (∀ i, j ≤ i → i < j + k → f i = g i) → fdL f k j = fdL g k j
  | 0, j, h => rfl
  | k + 1, j, h => by
    rw [fdL, fdL, h j (Nat.le_refl _) (by omega), fdL_congr k (j + 1) (fun i h1 h2 => h i (by omega) (by omega))]
theorem fdX_congr {p : List Int → Bool} {f g : Nat → List Int} : ∀ k j, (∀ i, j ≤ i → i < j + k → f i = g i) → fdX p f k j = fdX p g k j
  | 0, j, h => rfl
  | k + 1, j, h => by
    rw [fdX, fdX, h j (Nat.le_refl _) (by omega), fdX_congr k (j + 1) (fun i h1 h2 => h i (by omega) (by omega))]
theorem fdX_shift {p : List Int → Bool} {g : Nat → List Int} : ∀ k j c, fdX p g k (c + j) = fdX p (fun y => g (c + y)) k j
  | 0, j, c => rfl
  | k + 1, j, c => by
    rw [fdX, fdX, ← fdX_shift k (j + 1) c]; rfl
theorem fdX_split {p : List Int → Bool} {g : Nat → List Int} (hg : ∀ x, g x ≠ []) : ∀ b r x, fdX p g (b + r) x = if fdX p g b x = [] then fdX p g r (x + b) else fdX p g b x
  | 0, r, x => by simp [fdX]
  | b + 1, r, x => by
    rw [show b + 1 + r = (b + r) + 1 by omega, fdX, fdX]
    by_cases h : p (g x) = true
    · rw [if_pos h, if_pos h, if_neg (hg x)]
    · rw [if_neg h, if_neg h, fdX_split hg b r (x + 1), show x + 1 + b = x + (b + 1) by omega]
theorem fdX_block {p : List Int → Bool} {g : Nat → List Int} (hg : ∀ x, g x ≠ []) (b : Nat) : ∀ a j, fdX p g (a * b) (j * b) = fdL (fun i => fdX p (fun y => g (i * b + y)) b 0) a j
  | 0, j => by simp [fdX, fdL]
  | a + 1, j => by
    rw [show (a + 1) * b = b + a * b by rw [Nat.add_mul, Nat.one_mul, Nat.add_comm], fdX_split hg, fdL]
    have h1 : fdX p g b (j * b) = fdX p (fun y => g (j * b + y)) b 0 := by
      have := fdX_shift (p := p) (g := g) b 0 (j * b)
      simpa using this
    have h2 : j * b + b = (j + 1) * b := by rw [Nat.add_mul, Nat.one_mul]
    rw [h1, h2, fdX_block hg b a (j + 1)]
/-- the digits of y, d of them, the greatest first, each less m -/
def dgs (m W : Nat) : Nat → Nat → List Int
  | 0, _ => []
  | d + 1, y => (-(m : Int) + (y / W ^ d : Nat)) :: dgs m W d (y % W ^ d)
theorem fdR_dgs {p : List Int → Bool} {m : Nat} : ∀ d b, b ++ dgs m (2 * m + 1) d 0 ≠ [] → fdR p m d b = fdX p (fun y => b ++ dgs m (2 * m + 1) d y) ((2 * m + 1) ^ d) 0
  | 0, b, h => by simp [fdR, fdX, dgs]
  | d + 1, b, h => by
    have hW : 0 < (2 * m + 1) ^ d := Nat.pow_pos (by omega)
    rw [fdR, Nat.pow_succ, Nat.mul_comm ((2 * m + 1) ^ d) (2 * m + 1)]
    have hb := fdX_block (p := p) (g := fun y => b ++ dgs m (2 * m + 1) (d + 1) y) (fun x => by simp [dgs]) ((2 * m + 1) ^ d) (2 * m + 1) 0
    rw [Nat.zero_mul] at hb
    rw [hb]
    apply fdL_congr
    intro i _ hi
    rw [fdR_dgs d (b ++ [-(m : Int) + i]) (by simp)]
    apply fdX_congr
    intro y _ hy
    have e1 : (i * (2 * m + 1) ^ d + y) / (2 * m + 1) ^ d = i := by
      rw [Nat.mul_comm, Nat.mul_add_div hW, Nat.div_eq_of_lt (by omega)]; rfl
    have e2 : (i * (2 * m + 1) ^ d + y) % (2 * m + 1) ^ d = y := by
      rw [Nat.mul_comm, Nat.mul_add_mod, Nat.mod_eq_of_lt (by omega)]
    show b ++ [-(m : Int) + i] ++ dgs m (2 * m + 1) d y = b ++ dgs m (2 * m + 1) (d + 1) (i * (2 * m + 1) ^ d + y)
    rw [dgs, e1, e2]; simp
/-- the program's digits: from the last place on -/
def dgP (W m : Int) : Nat → Int → List Int → List Int
  | 0, _, qs => qs
  | j + 1, x, qs => dgP W m j (x / W) (qs.set j (x % W - m))
theorem dgP_len (W m : Int) : ∀ j x qs, (dgP W m j x qs).length = qs.length
  | 0, x, qs => rfl
  | j + 1, x, qs => by rw [dgP, dgP_len]; simp
/-- x's digits in n places -/
def dgN (m n x : Nat) : List Int := dgP (2 * (m : Int) + 1) m n x (List.replicate n 0)
theorem dgN_len (m n x : Nat) : (dgN m n x).length = n := by unfold dgN; rw [dgP_len]; simp
theorem dgN_eq {m n x : Nat} (hm : 1 ≤ m ∧ m ≤ 3) (hn : 1 ≤ n ∧ n ≤ 3) (hx : x < (2 * m + 1) ^ n) : dgN m n x = dgs m (2 * m + 1) n x := by
  have hm3 : m = 1 ∨ m = 2 ∨ m = 3 := by omega
  have hn3 : n = 1 ∨ n = 2 ∨ n = 3 := by omega
  rcases hn3 with rfl | rfl | rfl <;> rcases hm3 with rfl | rfl | rfl <;> simp [dgN, dgP, dgs, List.replicate, List.set] at hx ⊢ <;> omega
theorem dgN_bd {m n x : Nat} (hm : 1 ≤ m ∧ m ≤ 3) (hn : 1 ≤ n ∧ n ≤ 3) : ∀ j, j < n → -12 ≤ (dgN m n x)[j]?.getD 0 ∧ (dgN m n x)[j]?.getD 0 ≤ 12 := by
  intro j hj
  have hm3 : m = 1 ∨ m = 2 ∨ m = 3 := by omega
  have hn3 : n = 1 ∨ n = 2 ∨ n = 3 := by omega
  rcases hn3 with rfl | rfl | rfl
  · obtain rfl : j = 0 := by omega
    rcases hm3 with rfl | rfl | rfl <;> simp [dgN, dgP, List.replicate, List.set] <;> omega
  · rcases (show j = 0 ∨ j = 1 by omega) with rfl | rfl <;> rcases hm3 with rfl | rfl | rfl <;> simp [dgN, dgP, List.replicate, List.set] <;> omega
  · rcases (show j = 0 ∨ j = 1 ∨ j = 2 by omega) with rfl | rfl | rfl <;> rcases hm3 with rfl | rfl | rfl <;> simp [dgN, dgP, List.replicate, List.set] <;> omega
/-- both orders find the same -/
theorem fd_same {p : List Int → Bool} {m n : Nat} (hm : 1 ≤ m ∧ m ≤ 3) (hn : 1 ≤ n ∧ n ≤ 3) : fdR p m n [] = fdX p (dgN m n) ((2 * m + 1) ^ n) 0 := by
  have h0 : ∀ d y, (dgs m (2 * m + 1) d y).length = d := by
    intro d
    induction d with
    | zero => intro y; rfl
    | succ d ih => intro y; simp [dgs, ih]
  rw [fdR_dgs n [] (by intro h; have := congrArg List.length h; simp [h0] at this; omega)]
  apply fdX_congr
  intro i _ hi
  rw [List.nil_append, dgN_eq hm hn (by omega)]
theorem fdX_len {p : List Int → Bool} {m n : Nat} : ∀ k x, fdX p (dgN m n) k x = [] ∨ (fdX p (dgN m n) k x).length = n
  | 0, x => Or.inl rfl
  | k + 1, x => by
    rw [fdX]
    split
    · exact Or.inr (dgN_len m n x)
    · exact fdX_len k (x + 1)
end
end Go.Proofs.Ytbnglnbcfabmgaa
