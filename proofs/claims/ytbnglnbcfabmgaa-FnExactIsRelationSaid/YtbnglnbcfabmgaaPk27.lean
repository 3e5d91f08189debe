/- Lemmas and contracts of functions. No condition. -/
import Derived.Test.YtbnglnbcfabmgaaPk25
namespace Go.Proofs.Ytbnglnbcfabmgaa
open Go.RowKit
set_option linter.unusedVariables false
set_option maxHeartbeats 1000000
set_option maxRecDepth 20000
set_option linter.unusedSectionVars false
theorem mk_low (a b : Int) (hb : b ≠ 0) : ∃ g, g ≠ 0 ∧ a = g * mkN a b ∧ b = g * mkD a b ∧ 0 < mkD a b ∧ Int.gcd (mkN a b) (mkD a b) = 1 := by
  have hg : 0 < Int.gcd a b := Int.gcd_pos_of_ne_zero_right _ hb
  obtain ⟨p, hp⟩ := Int.gcd_dvd_left a b
  obtain ⟨q, hq⟩ := Int.gcd_dvd_right a b
  have hc : Int.gcd p q = 1 := by
    have h1 := Int.gcd_mul_left (Int.gcd a b) p q
    rw [← hp, ← hq, Int.natAbs_natCast] at h1
    exact Nat.eq_of_mul_eq_mul_left hg (by omega)
  have hP : a.tdiv (gcdI a b) = p := by
    unfold gcdI
    generalize Int.gcd a b = g at *
    rw [hp]; exact Int.mul_tdiv_cancel_left _ (by omega)
  have hQ : b.tdiv (gcdI a b) = q := by
    unfold gcdI
    generalize Int.gcd a b = g at *
    rw [hq]; exact Int.mul_tdiv_cancel_left _ (by omega)
  unfold mkN mkD
  rw [hP, hQ]
  generalize Int.gcd a b = g at *
  by_cases hn : b < 0
  · have hq0 : q < 0 := by
      apply Int.not_le.1; intro h
      have := Int.mul_nonneg (a := (g : Int)) (b := q) (by omega) h
      omega
    simp only [if_pos hn]
    exact ⟨-(g : Int), by omega, by rw [Int.neg_mul_neg]; exact hp, by rw [Int.neg_mul_neg]; exact hq, by omega, by rw [Int.gcd_neg, Int.neg_gcd]; exact hc⟩
  · have hq0 : 0 < q := by
      apply Int.not_le.1; intro h
      have := Int.mul_nonneg (a := (g : Int)) (b := -q) (by omega) (by omega)
      rw [Int.mul_neg] at this
      omega
    simp only [if_neg hn]
    exact ⟨(g : Int), by omega, hp, hq, hq0, hc⟩
section
variable {A B x1 y1 e1 x2 y2 e2 : Int} (he1 : 1 ≤ e1 ∧ e1 ≤ 20) (he2 : 1 ≤ e2 ∧ e2 ≤ 20) (hx1 : -10000 ≤ x1 ∧ x1 ≤ 10000) (hx2 : -10000 ≤ x2 ∧ x2 ≤ 10000)
  (c1 : y1*y1 = evV A B x1 e1) (c2 : y2*y2 = evV A B x2 e2) (hz : slD x1 y1 e1 x2 y2 e2 ≠ 0)
include he1 he2 hz
/-- the third point of the raw slope is that of the slope in lowest terms -/
theorem thV_low {r : Int × Int × Int × Bool} (h : Third (mkN (slN A x1 y1 e1 x2 y2 e2) (slD x1 y1 e1 x2 y2 e2)) (mkD (slN A x1 y1 e1 x2 y2 e2) (slD x1 y1 e1 x2 y2 e2)) x1 y1 e1 x2 e2 r) :
  thV (slN A x1 y1 e1 x2 y2 e2) (slD x1 y1 e1 x2 y2 e2) x1 y1 e1 x2 e2 = r := by
  obtain ⟨g, hg, hn, hd, hp, -⟩ := mk_low (slN A x1 y1 e1 x2 y2 e2) (slD x1 y1 e1 x2 y2 e2) hz
  have := thV_scaled (g := g) hg (by omega) (by omega) (by omega) h
  rw [← hn, ← hd] at this
  exact this
include hx1 hx2
theorem ref_far (h : ¬ (mkD (slN A x1 y1 e1 x2 y2 e2) (slD x1 y1 e1 x2 y2 e2) ≤ 8000 ∧ (-(200 * mkD (slN A x1 y1 e1 x2 y2 e2) (slD x1 y1 e1 x2 y2 e2)) ≤ mkN (slN A x1 y1 e1 x2 y2 e2) (slD x1 y1 e1 x2 y2 e2) ∧ mkN (slN A x1 y1 e1 x2 y2 e2) (slD x1 y1 e1 x2 y2 e2) ≤ 200 * mkD (slN A x1 y1 e1 x2 y2 e2) (slD x1 y1 e1 x2 y2 e2)))) :
  thV (slN A x1 y1 e1 x2 y2 e2) (slD x1 y1 e1 x2 y2 e2) x1 y1 e1 x2 e2 = (0, 0, 0, false) := by
  apply thV_low he1 he2 hz
  obtain ⟨g, hg, -, -, hp, hc⟩ := mk_low (slN A x1 y1 e1 x2 y2 e2) (slD x1 y1 e1 x2 y2 e2) hz
  generalize mkN (slN A x1 y1 e1 x2 y2 e2) (slD x1 y1 e1 x2 y2 e2) = n at *
  generalize mkD (slN A x1 y1 e1 x2 y2 e2) (slD x1 y1 e1 x2 y2 e2) = d at *
  refine Or.inr ⟨rfl, fun e x he hx hgc ht => h ?_⟩
  have := third_bd hc (by omega) he1 he2 he hx1 hx2 hx ht
  omega
end
section
variable {n d x1 y1 e1 x2 e2 : Int} (hd : 0 < d) (he1 : 1 ≤ e1 ∧ e1 ≤ 20) (he2 : 1 ≤ e2 ∧ e2 ≤ 20)
include hd he1 he2
theorem ref_D : 0 < d*d*(e1*e1)*(e2*e2) := Int.mul_pos (Int.mul_pos (Int.mul_pos hd hd) (Int.mul_pos (by omega) (by omega))) (Int.mul_pos (by omega) (by omega))
theorem ref_x {T : Int} (hT : T = n*n*(e1*e1)*(e2*e2) - x1*d*d*(e2*e2) - x2*d*d*(e1*e1)) :
  mkN T (d*d*(e1*e1)*(e2*e2)) * (d*d*((e1*e1)*(e2*e2))) = (n*n*((e1*e1)*(e2*e2)) - d*d*(x1*(e2*e2) + x2*(e1*e1)))*mkD T (d*d*(e1*e1)*(e2*e2)) ∧ 0 < mkD T (d*d*(e1*e1)*(e2*e2)) ∧ Int.gcd (mkN T (d*d*(e1*e1)*(e2*e2))) (mkD T (d*d*(e1*e1)*(e2*e2))) = 1 := by
  have hD := ref_D hd he1 he2
  obtain ⟨g, hg, h1, h2, h3, h4⟩ := mk_low T (d*d*(e1*e1)*(e2*e2)) (by omega)
  refine ⟨?_, h3, h4⟩
  generalize mkN T (d*d*(e1*e1)*(e2*e2)) = X at *
  generalize mkD T (d*d*(e1*e1)*(e2*e2)) = E at *
  have a1 : d*d*((e1*e1)*(e2*e2)) = d*d*(e1*e1)*(e2*e2) := by grind
  have a2 : n*n*((e1*e1)*(e2*e2)) - d*d*(x1*(e2*e2) + x2*(e1*e1)) = T := by grind
  rw [a1, a2, h2, h1]
  grind
theorem ref_no {T : Int} (hT : T = n*n*(e1*e1)*(e2*e2) - x1*d*d*(e2*e2) - x2*d*d*(e1*e1))
  (h : ¬ (rtV (mkD T (d*d*(e1*e1)*(e2*e2))) * rtV (mkD T (d*d*(e1*e1)*(e2*e2))) = mkD T (d*d*(e1*e1)*(e2*e2)) ∧ rtV (mkD T (d*d*(e1*e1)*(e2*e2))) ≤ 20 ∧ (-10000 ≤ mkN T (d*d*(e1*e1)*(e2*e2)) ∧ mkN T (d*d*(e1*e1)*(e2*e2)) ≤ 10000))) :
  Third n d x1 y1 e1 x2 e2 (0, 0, 0, false) := by
  obtain ⟨a, b, c⟩ := ref_x hd he1 he2 hT
  refine Or.inr ⟨rfl, fun e x he hx hg ht => h ?_⟩
  obtain ⟨rfl, h2⟩ := third_low (by omega) (by omega) (by omega) he.1 hg ht a b c
  rw [← h2, rtV_sq (by omega)]
  exact ⟨rfl, by omega, hx⟩
theorem ref_yes {T x E e : Int} (hT : T = n*n*(e1*e1)*(e2*e2) - x1*d*d*(e2*e2) - x2*d*d*(e1*e1)) (hX : mkN T (d*d*(e1*e1)*(e2*e2)) = x) (hE : mkD T (d*d*(e1*e1)*(e2*e2)) = E) (hr : 0 ≤ e) (h1 : e*e = E) :
  1 ≤ e ∧ Int.gcd x e = 1 ∧ thX n d x1 e1 x2 e2 e x := by
  obtain ⟨a, b, c⟩ := ref_x hd he1 he2 hT
  rw [hE] at a b c
  rw [hX] at a c
  subst h1
  refine ⟨?_, cop_of_sq c, a⟩
  rcases Int.lt_or_eq_of_le hr with t | t
  · omega
  · subst t; simp at b
theorem ref_pt {x e y3 up under y bottom : Int} (he : 1 ≤ e) (hS : sdV n d x1 y1 e1 e x * e = (d*(e1*e1*e1))*y3)
  (hup : mkN (n*(x1*e*e - x*(e1*e1))) (d*(e1*e1)*e*e) = up) (hun : mkD (n*(x1*e*e - x*(e1*e1))) (d*(e1*e1)*e*e) = under)
  (hy : mkN (up*(e1*e1)*e1 - y1*under) (under*(e1*e1)*e1) = y) (hb : mkD (up*(e1*e1)*e1 - y1*under) (under*(e1*e1)*e1) = bottom) :
  0 < under ∧ 0 < bottom ∧ y * ((e*e*e).tdiv bottom) = y3 := by
  have k1 : 0 < e1*e1 := Int.mul_pos (by omega) (by omega)
  have k2 : 0 < d*(e1*e1)*e*e := Int.mul_pos (Int.mul_pos (Int.mul_pos hd k1) (by omega)) (by omega)
  obtain ⟨g, hg, g1, g2, g3, -⟩ := mk_low (n*(x1*e*e - x*(e1*e1))) (d*(e1*e1)*e*e) (by omega)
  rw [hup] at g1
  rw [hun] at g2 g3
  have k3 : 0 < under*(e1*e1)*e1 := Int.mul_pos (Int.mul_pos g3 k1) (by omega)
  obtain ⟨f, hf, f1, f2, f3, f4⟩ := mk_low (up*(e1*e1)*e1 - y1*under) (under*(e1*e1)*e1) (by omega)
  rw [hy] at f1 f4
  rw [hb] at f2 f3 f4
  have hun0 : under ≠ 0 := by omega
  refine ⟨g3, f3, ref_y (up := up) (under := under) (by omega) he1.1 he hS hun0 f3 ?_ ?_ f4⟩
  · rw [g1, g2, Int.mul_comm g under, ← Int.mul_assoc, Int.mul_comm (up * under) g, Int.mul_assoc]
  · rw [f1, f2]
    grind
end
theorem pt_cases {A B x y e : Int} (hA : -1000 ≤ A ∧ A ≤ 1000) (hB : -10000 ≤ B ∧ B ≤ 10000) (h : ptB A B x y e = true) : (x = 0 ∧ y = 0 ∧ e = 0) ∨
  ((1 ≤ e ∧ e ≤ 20) ∧ (-10000 ≤ x ∧ x ≤ 10000) ∧ (-3000000 ≤ y ∧ y ≤ 3000000) ∧ Int.gcd x e = 1 ∧ y * y = evV A B x e) := by
  unfold ptB at h
  split at h
  · rename_i he
    simp only [Bool.and_eq_true, decide_eq_true_eq] at h
    exact Or.inl ⟨h.1, h.2, he⟩
  · simp only [Bool.and_eq_true, decide_eq_true_eq] at h
    obtain ⟨hx, he, hg, hy⟩ := h
    have hx := inB_iff.1 hx
    have he := inB_iff.1 he
    have hv := evV_bd hA hB hx (e := e) (by omega)
    refine Or.inr ⟨he, hx, root_bd hy (by omega), ?_, hy⟩
    unfold gcdI at hg; omega
/-- the sum when both are finite and the line is not upright -/
theorem ptS_thV {A x1 y1 e1 x2 y2 e2 : Int} (h1 : e1 ≠ 0) (h2 : e2 ≠ 0) (h : ¬ (x1 = x2 ∧ y1 = -y2 ∧ e1 = e2)) : ptS A x1 y1 e1 x2 y2 e2 = thV (slN A x1 y1 e1 x2 y2 e2) (slD x1 y1 e1 x2 y2 e2) x1 y1 e1 x2 e2 := by
  simp only [ptS, if_neg h1, if_neg h2, if_neg h]
end Go.Proofs.Ytbnglnbcfabmgaa
