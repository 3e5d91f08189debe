/- Lemmas and contracts of functions. No condition. -/
import Derived.Test.YtbnglnbcfabmgaaPk7
import Derived.Test.YtbnglnbcfabmgaaPk29
namespace Go.Proofs.Ytbnglnbcfabmgaa
open Go.RowKit
set_option linter.unusedVariables false
set_option maxHeartbeats 1000000
set_option maxRecDepth 20000
namespace LN
/-- the point's coordinates as rationals -/
def qX (x e : Int) : Rat := (x : Rat) * ((e : Rat)⁻¹ * (e : Rat)⁻¹)
def qY (y e : Int) : Rat := (y : Rat) * ((e : Rat)⁻¹ * (e : Rat)⁻¹ * (e : Rat)⁻¹)
theorem ne_cast {z : Int} (h : z ≠ 0) : (z : Rat) ≠ 0 := fun hh => h (by exact_mod_cast hh)
theorem inv_mul {z : Int} (h : z ≠ 0) : (z : Rat)⁻¹ * (z : Rat) = 1 := Rat.inv_mul_cancel _ (ne_cast h)
theorem q_curve {A B x y e : Int} (he : e ≠ 0) (h : y * y = evV A B x e) : qY y e * qY y e = qX x e * qX x e * qX x e + (A : Rat) * qX x e + (B : Rat) := by
  unfold evV at h
  have h' : (y : Rat) * y = (x : Rat) * x * x + A * x * e * e * e * e + B * e * e * e * e * e * e := by
    have := congrArg (fun z : Int => (z : Rat)) h
    simp only [Rat.intCast_mul, Rat.intCast_add] at this
    rw [this]
  unfold qX qY
  exact onC _ _ _ _ _ _ (inv_mul he) h'
theorem q_x3 {x1 e1 n d v x y1 e : Rat} {u1 w : Rat} (hw : w * e = 1) (h1 : u1 * e1 = 1) (hv : v * d = 1) {y : Rat}
  (hS : (n*(x1*(e*e) - x*(e1*e1))*e1 - y1*d*(e*e)) * e = (d*(e1*e1*e1))*y) :
  y * (w * w * w) = (n*v) * (x1*(u1*u1) - x*(w*w)) - y1*(u1*u1*u1) := by
  have e3 : (d*(e1*e1*e1)) * (y * (w*w*w)) = (d*(e1*e1*e1)) * ((n*v) * (x1*(u1*u1) - x*(w*w)) - y1*(u1*u1*u1)) := by
    have : (d*(e1*e1*e1)) * (y * (w*w*w)) = (n*(x1*(e*e) - x*(e1*e1))*e1 - y1*d*(e*e)) * e * (w*w*w) := by rw [hS]; grind
    rw [this]
    have a1 : (n*(x1*(e*e) - x*(e1*e1))*e1 - y1*d*(e*e)) * e * (w*w*w) = (n*(x1*((w*e)*(w*e)) - x*(w*w)*(e1*e1))*e1 - y1*d*((w*e)*(w*e)))*(w*e) := by grind
    have a2 : (d*(e1*e1*e1)) * ((n*v) * (x1*(u1*u1) - x*(w*w)) - y1*(u1*u1*u1)) = (v*d)*n*(x1*((u1*e1)*(u1*e1)) - x*(w*w)*(e1*e1))*e1 - y1*d*((u1*e1)*(u1*e1)*(u1*e1)) := by grind
    rw [a1, a2, hw, h1, hv]; grind
  have ne : d*(e1*e1*e1) ≠ 0 := by
    intro h0
    have : (v*d)*((u1*e1)*(u1*e1)*(u1*e1)) = (v*(u1*u1*u1))*(d*(e1*e1*e1)) := by grind
    rw [h0, hv, h1] at this; simp at this
  have : (d*(e1*e1*e1)) * (y * (w*w*w) - ((n*v) * (x1*(u1*u1) - x*(w*w)) - y1*(u1*u1*u1))) = 0 := by rw [Rat.sub_eq_add_neg, Rat.mul_add, e3]; grind
  rcases Rat.mul_eq_zero.1 this with h | h
  · exact absurd h ne
  · grind
section
variable {A B x1 y1 e1 x2 y2 e2 x y e : Int}
theorem add_of (he1 : 1 ≤ e1 ∧ e1 ≤ 20) (he2 : 1 ≤ e2 ∧ e2 ≤ 20) (hg1 : Int.gcd x1 e1 = 1) (hg2 : Int.gcd x2 e2 = 1) (c1 : y1*y1 = evV A B x1 e1) (c2 : y2*y2 = evV A B x2 e2)
    (h : ptS A x1 y1 e1 x2 y2 e2 = (x, y, e, true)) (he : e ≠ 0) : Add A (qX x1 e1) (qY y1 e1) (qX x2 e2) (qY y2 e2) (qX x e) (qY y e) := by
  have hz : ¬ (x1 = x2 ∧ y1 = -y2 ∧ e1 = e2) := fun hz => by
    simp only [ptS, if_neg (show e1 ≠ 0 by omega), if_neg (show e2 ≠ 0 by omega), if_pos hz, Prod.mk.injEq] at h
    omega
  rw [ptS_thV (by omega) (by omega) hz] at h
  have hzd : slD x1 y1 e1 x2 y2 e2 ≠ 0 := fun t => hz ((sl_zero he1.1 he2.1 hg1 hg2 c1 c2).1 t)
  obtain ⟨r, hr⟩ := third_ex he1.1 he2.1 c1 c2 hzd
  rw [thV_eq hzd (by omega) (by omega) hr] at h
  subst h
  rcases hr with ⟨z, u, f, hr, hf, hx, hg, ht, hy⟩ | ⟨hr, -⟩
  rotate_left
  · simp at hr
  simp only [Prod.mk.injEq] at hr
  obtain ⟨rfl, rfl, rfl, -⟩ := hr
  have q1 := q_curve (by omega) c1
  have q2 := q_curve (by omega) c2
  have i1 := inv_mul (show e1 ≠ 0 by omega)
  have i2 := inv_mul (show e2 ≠ 0 by omega)
  have i3 := inv_mul he
  have i4 := inv_mul hzd
  have ht' : (x : Rat) * ((slD x1 y1 e1 x2 y2 e2 : Int)*(slD x1 y1 e1 x2 y2 e2 : Int)*(((e1 : Rat)*e1)*((e2 : Rat)*e2))) = ((slN A x1 y1 e1 x2 y2 e2 : Int)*(slN A x1 y1 e1 x2 y2 e2 : Int)*(((e1 : Rat)*e1)*((e2 : Rat)*e2)) - (slD x1 y1 e1 x2 y2 e2 : Int)*(slD x1 y1 e1 x2 y2 e2 : Int)*((x1 : Rat)*((e2 : Rat)*e2) + (x2 : Rat)*((e1 : Rat)*e1)))*((e : Rat)*e) := by
    unfold thX at ht
    have := congrArg (fun z : Int => (z : Rat)) ht
    simpa only [Rat.intCast_mul, Rat.intCast_add, Rat.intCast_sub] using this
  have hy' : ((slN A x1 y1 e1 x2 y2 e2 : Int)*((x1 : Rat)*((e : Rat)*e) - (x : Rat)*((e1 : Rat)*e1))*(e1 : Rat) - (y1 : Rat)*(slD x1 y1 e1 x2 y2 e2 : Int)*((e : Rat)*e)) * (e : Rat) = ((slD x1 y1 e1 x2 y2 e2 : Int)*((e1 : Rat)*e1*e1))*(y : Rat) := by
    unfold sdV at hy
    have := congrArg (fun z : Int => (z : Rat)) hy
    simpa only [Rat.intCast_mul, Rat.intCast_add, Rat.intCast_sub] using this
  have hNs : (x1 = x2 ∧ y1 = y2 ∧ e1 = e2) → slN A x1 y1 e1 x2 y2 e2 = 3*x1*x1 + A*e1*e1*e1*e1 ∧ slD x1 y1 e1 x2 y2 e2 = 2*y1*e1 := fun hs => by
    simp only [slN, slD, if_pos hs, and_self]
  have hNn : ¬ (x1 = x2 ∧ y1 = y2 ∧ e1 = e2) → slN A x1 y1 e1 x2 y2 e2 = y2*e1*e1*e1 - y1*e2*e2*e2 ∧ slD x1 y1 e1 x2 y2 e2 = e1*e2*(x2*e1*e1 - x1*e2*e2) := fun hs => by
    simp only [slN, slD, if_neg hs, and_self]
  generalize slN A x1 y1 e1 x2 y2 e2 = N at *
  generalize slD x1 y1 e1 x2 y2 e2 = D at *
  refine ⟨(N : Rat) * (D : Rat)⁻¹, ?_, ?_, ?_⟩
  · by_cases hs : x1 = x2 ∧ y1 = y2 ∧ e1 = e2
    · obtain ⟨hn, hd⟩ := hNs hs
      obtain ⟨rfl, rfl, rfl⟩ := hs
      refine Or.inr ⟨rfl, rfl, ?_⟩
      have hn' : (N : Rat) = 3*(x1:Rat)*x1 + A*e1*e1*e1*e1 := by rw [hn]; simp only [Rat.intCast_mul, Rat.intCast_add]; grind
      have hd' : (D : Rat) = 2*(y1:Rat)*e1 := by rw [hd]; simp only [Rat.intCast_mul]; grind
      have := tgt (A : Rat) x1 y1 e1 _ (N : Rat) (D : Rat) _ i1 i4 (by rw [hn', hd']; grind)
      unfold qX qY
      generalize (N : Rat) * (D : Rat)⁻¹ = L at *
      generalize (x1 : Rat) * ((e1 : Rat)⁻¹ * (e1 : Rat)⁻¹) = X at *
      generalize (y1 : Rat) * ((e1 : Rat)⁻¹ * (e1 : Rat)⁻¹ * (e1 : Rat)⁻¹) = Y at *
      clear ht' hy' q1 q2 hNs hNn hn' hd' c1 c2 hn hd ht hy hz
      grind
    · obtain ⟨hn, hd⟩ := hNn hs
      refine Or.inl ?_
      have hn' : (N : Rat) = (y2:Rat)*e1*e1*e1 - y1*e2*e2*e2 := by rw [hn]; simp only [Rat.intCast_mul, Rat.intCast_sub]
      have hd' : (D : Rat) = (e1:Rat)*e2*(x2*e1*e1 - x1*e2*e2) := by rw [hd]; simp only [Rat.intCast_mul, Rat.intCast_sub]
      have hsl := slp (x1 : Rat) y1 e1 _ x2 y2 e2 _ (N : Rat) (D : Rat) _ i1 i2 i4 (by rw [hn', hd']; grind)
      refine ⟨?_, ?_⟩
      · intro hx0
        apply hzd
        have : x2*e1*e1 - x1*e2*e2 = 0 := by
          have h0 : (x2 : Rat)*e1*e1 - x1*e2*e2 = 0 := by
            unfold qX at hx0
            have a : (x2 : Rat)*e1*e1 = (x2 * ((e2 : Rat)⁻¹*(e2 : Rat)⁻¹))*(e1*e1*e2*e2) := by
              generalize (e2 : Rat)⁻¹ = u2 at *
              have : (x2 : Rat) * (u2*u2)*(e1*e1*e2*e2) = x2*e1*e1*((u2*e2)*(u2*e2)) := by grind
              rw [this, i2]; grind
            have b : (x1 : Rat)*e2*e2 = (x1 * ((e1 : Rat)⁻¹*(e1 : Rat)⁻¹))*(e1*e1*e2*e2) := by
              generalize (e1 : Rat)⁻¹ = u1 at *
              have : (x1 : Rat) * (u1*u1)*(e1*e1*e2*e2) = x1*e2*e2*((u1*e1)*(u1*e1)) := by grind
              rw [this, i1]; grind
            rw [a, b, hx0]; grind
          exact_mod_cast h0
        rw [hd, this]; simp
      · unfold qX qY; exact hsl
  · have := x3 (x1 : Rat) e1 _ x2 e2 _ (N : Rat) (D : Rat) _ x e _ i1 i2 i4 i3 ht'
    unfold qX; exact this
  · have := q_x3 (x1 := (x1 : Rat)) (y1 := (y1 : Rat)) (y := (y : Rat)) (x := (x : Rat)) i3 i1 i4 hy'
    unfold qX qY; exact this
end
end LN
end Go.Proofs.Ytbnglnbcfabmgaa
