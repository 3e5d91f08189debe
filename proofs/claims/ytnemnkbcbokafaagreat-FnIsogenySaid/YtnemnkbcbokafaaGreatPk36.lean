/- Lemmas and contracts of functions. No condition. -/
import Derived.Test.YtnemnkbcbokafaaGreatPk15
import Derived.Test.YtnemnkbcbokafaaGreatPk27
import Derived.Test.YtnemnkbcbokafaaGreatPk30
namespace Go.Proofs.YtnemnkbcbokafaaGreat
open Go.RowKit
set_option linter.unusedVariables false
set_option linter.unusedSimpArgs false
theorem cancelQ {x a b : Rat} (hx : x ≠ 0) (h : a * x = b * x) : a = b := by
  have : (a - b) * x = 0 := by grind
  rcases Rat.mul_eq_zero.1 this with h | h
  · grind
  · exact (hx h).elim
theorem bk_on {A B X Y r s U V : Rat} (hX : X ≠ 0) (h : Y*Y = X*((X + (-2*A))*X + (A*A-4*B))) (hr : r*X = Y) (hs : (s + X)*X = A*A - 4*B) (hU : 4*U = r*r) (hV: 8*V = r*s) : V*V = U*((U+A)*U+B) := by
  have h1 : r*r*X = (X + (-2*A))*X + (A*A-4*B) := cancelQ hX (by rw [← hr] at h; grind)
  have h2 : r*r - s = 2*X - 2*A := cancelQ hX (by grind)
  have h3 : s = r*r - 2*X + 2*A := by grind
  subst h3
  have h4 : 4*B = A*A - (r*r - 2*X + 2*A + X)*X := by grind
  have hB : B = (A*A - (r*r - 2*X + 2*A + X)*X)*(1/4) := by grind
  have hU2 : U = r*r*(1/4) := by grind
  have hV2 : V = r*(r*r - 2*X + 2*A)*(1/8) := by grind
  subst hB; subst hU2; subst hV2
  grind
theorem bk_dbl {m B X Y r s u v p q U V L X2 Y2 : Rat} (hX : X ≠ 0) (h : Y*Y = X*((X + 3*m)*X + B)) (hr : r*X = Y) (hs : (s + X)*X = B) (hu : u = r*r) (hv: v = r*s)
  (hu0 : u ≠ 0) (hp : p*u = v) (hq : (q+u)*u = 9*m*m - 4*B) (hU : 4*U = p*p) (hV : 8*V = p*q)
  (hL : L*(2*Y) = 3*(X+m)*(X+m) + (B - 3*m*m)) (h2 : X2 = L*L - 2*(X+m)) (h3 : Y2 = L*((X+m) - X2) - Y) : U + m = X2 ∧ V = Y2 := by
  subst hu; subst hv; subst hr; subst hs
  have hr0 : r ≠ 0 := fun e => hu0 (by rw [e]; grind)
  have k1 : r*r*X = (X + 3*m)*X + (s+X)*X := cancelQ hX (by clear hp hq hU hV hL h2 h3; grind)
  have k2 : r*r - s = 2*X + 3*m := cancelQ hX (by clear hp hq hU hV hL h2 h3 h; grind)
  have k3 : s = p*r := cancelQ hr0 (by clear hq hU hV hL h2 h3 h k1 k2; grind)
  subst k3
  have km : m = (r*r - 2*X - p*r)*(1/3) := by clear hq hU hV hL h2 h3 h k1 hp; grind
  clear k1 k2 h hp
  subst km
  have kq : q = p*p - 4*X - 2*(p*r) := by
    refine cancelQ hu0 ?_
    clear hU hV hL h2 h3
    grind
  clear hq
  subst kq
  have hrx : r*X ≠ 0 := fun e => by
    rcases Rat.mul_eq_zero.1 e with e | e
    · exact hr0 e
    · exact hX e
  have hLr : L = r - p*(1/2) := by
    refine cancelQ hrx ?_
    clear hU hV h2 h3
    grind
  clear hL
  subst hLr
  have kU : U = p*p*(1/4) := by clear hV h2 h3; grind
  have kV : V = p*(p*p - 4*X - 2*(p*r))*(1/8) := by clear hU h2 h3; grind
  subst kU; subst kV; subst h3; subst h2
  clear hU hV
  constructor
  · grind
  · grind

/-! ### at fractions -/
theorem raT_q {b nx dx ny dy : Int} (hb : -1000000000 ≤ b ∧ b ≤ 1000000000) (fx : frB nx dx = true) (fy : frB ny dy = true) (h : (raT b nx dx ny dy).2.2 = true) :
    nx ≠ 0 ∧ frB (raT b nx dx ny dy).1.1 (raT b nx dx ny dy).1.2 = true ∧ frB (raT b nx dx ny dy).2.1.1 (raT b nx dx ny dy).2.1.2 = true ∧
    qv (raT b nx dx ny dy).1.1 (raT b nx dx ny dy).1.2 * qv nx dx = qv ny dy ∧ (qv (raT b nx dx ny dy).2.1.1 (raT b nx dx ny dy).2.1.2 + qv nx dx) * qv nx dx = (b : Rat) := by
  have fb := frB_one hb.1 hb.2
  unfold raT at h ⊢
  dsimp only at h ⊢
  split at h
  · rename_i h0
    rw [if_pos h0]
    obtain ⟨h1, h2⟩ := Bool.and_eq_true_iff.1 h0
    obtain ⟨k0, k1, k2⟩ := quF_q fy fx h1
    obtain ⟨-, k3, k4⟩ := quF_q fb fx h2
    obtain ⟨k5, k6⟩ := diF_q k3 fx h
    rw [qv_one] at k4
    refine ⟨k0, k1, k5, k2, ?_⟩
    rw [k6, ← k4]
    grind
  · cases h
theorem boT_q {rn rd sn sd : Int} (f1 : frB rn rd = true) (f2 : frB sn sd = true) (h : (boT rn rd sn sd).2.2 = true) :
    frB (boT rn rd sn sd).1.1 (boT rn rd sn sd).1.2 = true ∧ frB (boT rn rd sn sd).2.1.1 (boT rn rd sn sd).2.1.2 = true ∧
    qv (boT rn rd sn sd).1.1 (boT rn rd sn sd).1.2 = qv rn rd * qv rn rd ∧ qv (boT rn rd sn sd).2.1.1 (boT rn rd sn sd).2.1.2 = qv rn rd * qv sn sd := by
  unfold boT at h ⊢
  dsimp only at h ⊢
  split at h
  · rename_i h0
    rw [if_pos h0]
    obtain ⟨h1, h2⟩ := Bool.and_eq_true_iff.1 h0
    obtain ⟨k1, k2⟩ := prF_q f1 f1 h1
    obtain ⟨k3, k4⟩ := prF_q f1 f2 h2
    exact ⟨k1, k3, k2, k4⟩
  · cases h
theorem imW_q {a b nx dx ny dy : Int} (ha : -1000000000 ≤ a ∧ a ≤ 1000000000) (hb : -1000000000 ≤ b ∧ b ≤ 1000000000) (fx : frB nx dx = true) (fy : frB ny dy = true) (h : (imW a b nx dx ny dy).2.2 = true) :
    nx ≠ 0 ∧ (onS a b nx dx ny dy) = (true, true) ∧ frB (imW a b nx dx ny dy).1.1 (imW a b nx dx ny dy).1.2 = true ∧ frB (imW a b nx dx ny dy).2.1.1 (imW a b nx dx ny dy).2.1.2 = true ∧
    qv ny dy * qv ny dy = qv nx dx * ((qv nx dx + (a : Rat)) * qv nx dx + (b : Rat)) ∧
    ∃ r s : Rat, r * qv nx dx = qv ny dy ∧ (s + qv nx dx) * qv nx dx = (b : Rat) ∧ qv (imW a b nx dx ny dy).1.1 (imW a b nx dx ny dy).1.2 = r * r ∧ qv (imW a b nx dx ny dy).2.1.1 (imW a b nx dx ny dy).2.1.2 = r * s := by
  unfold imW at h ⊢
  split at h
  · rename_i h0
    rw [if_pos h0]
    simp only [Bool.and_eq_true] at h0
    obtain ⟨h1, h2, h3⟩ := h0
    obtain ⟨k0, k1, k2, k3, k4⟩ := raT_q hb fx fy h3
    obtain ⟨q1, q2, q3, q4⟩ := boT_q k1 k2 h
    exact ⟨k0, Prod.ext h2 h1, q1, q2, (onS_q ha hb fx fy h1).1 h2, _, _, k3, k4, q3, q4⟩
  · cases h
theorem half_q : qv 1 2 * 2 = 1 := by
  have := qv_mul (n := 1) (d := 2) (by omega)
  exact_mod_cast this
theorem quarter_q : qv 1 4 * 4 = 1 := by
  have := qv_mul (n := 1) (d := 4) (by omega)
  exact_mod_cast this
theorem hfT_q {rn rd sn sd : Int} (f1 : frB rn rd = true) (f2 : frB sn sd = true) (h : (hfT rn rd sn sd).2.2 = true) :
    frB (hfT rn rd sn sd).1.1 (hfT rn rd sn sd).1.2 = true ∧ frB (hfT rn rd sn sd).2.1.1 (hfT rn rd sn sd).2.1.2 = true ∧
    4 * qv (hfT rn rd sn sd).1.1 (hfT rn rd sn sd).1.2 = qv rn rd * qv rn rd ∧ 8 * qv (hfT rn rd sn sd).2.1.1 (hfT rn rd sn sd).2.1.2 = qv rn rd * qv sn sd := by
  unfold hfT at h ⊢
  split at h
  · rename_i h0
    rw [if_pos h0]
    obtain ⟨h1, h2⟩ := Bool.and_eq_true_iff.1 h0
    obtain ⟨k1, k2⟩ := prF_q f1 (show frB 1 2 = true by decide) h1
    obtain ⟨k3, k4⟩ := prF_q f2 (show frB 1 4 = true by decide) h2
    obtain ⟨q1, q2, q3, q4⟩ := boT_q k1 k3 h
    have e2 := half_q
    have e4 := quarter_q
    refine ⟨q1, q2, ?_, ?_⟩
    · rw [q3, k2]; grind
    · rw [q4, k2, k4]; grind
  · cases h
theorem biW_q {a b nx dx ny dy : Int} (ha : -1000000000 ≤ a ∧ a ≤ 1000000000) (hb : -1000000000 ≤ b ∧ b ≤ 1000000000) (fx : frB nx dx = true) (fy : frB ny dy = true) (h : (biW a b nx dx ny dy).2.2 = true) :
    nx ≠ 0 ∧ frB (biW a b nx dx ny dy).1.1 (biW a b nx dx ny dy).1.2 = true ∧ frB (biW a b nx dx ny dy).2.1.1 (biW a b nx dx ny dy).2.1.2 = true ∧
    qv ny dy * qv ny dy = qv nx dx * ((qv nx dx + (a : Rat)) * qv nx dx + (b : Rat)) ∧
    ∃ r s : Rat, r * qv nx dx = qv ny dy ∧ (s + qv nx dx) * qv nx dx = (b : Rat) ∧ 4 * qv (biW a b nx dx ny dy).1.1 (biW a b nx dx ny dy).1.2 = r * r ∧ 8 * qv (biW a b nx dx ny dy).2.1.1 (biW a b nx dx ny dy).2.1.2 = r * s := by
  unfold biW at h ⊢
  split at h
  · rename_i h0
    rw [if_pos h0]
    simp only [Bool.and_eq_true] at h0
    obtain ⟨h1, h2, h3⟩ := h0
    obtain ⟨k0, k1, k2, k3, k4⟩ := raT_q hb fx fy h3
    obtain ⟨q1, q2, q3, q4⟩ := hfT_q k1 k2 h
    exact ⟨k0, q1, q2, (onS_q ha hb fx fy h1).1 h2, _, _, k3, k4, q3, q4⟩
  · cases h
/-- a back image lies on the curve itself -/
theorem bi_on {a b nx dx ny dy : Int} (h1 : tcB a b = true) (fx : frB nx dx = true) (fy : frB ny dy = true) (h : (biW (-2 * a) (a * a - 4 * b) nx dx ny dy).2.2 = true)
    (ht : (onS a b (biW (-2 * a) (a * a - 4 * b) nx dx ny dy).1.1 (biW (-2 * a) (a * a - 4 * b) nx dx ny dy).1.2 (biW (-2 * a) (a * a - 4 * b) nx dx ny dy).2.1.1 (biW (-2 * a) (a * a - 4 * b) nx dx ny dy).2.1.2).2 = true) :
    (onS a b (biW (-2 * a) (a * a - 4 * b) nx dx ny dy).1.1 (biW (-2 * a) (a * a - 4 * b) nx dx ny dy).1.2 (biW (-2 * a) (a * a - 4 * b) nx dx ny dy).2.1.1 (biW (-2 * a) (a * a - 4 * b) nx dx ny dy).2.1.2).1 = true := by
  have hb := tcB_bd h1
  have m1 := mul_bd (a := a) (b := a) (A := 300) (B := 300) (by omega) (by omega)
  obtain ⟨k0, k1, k2, k3, r, s, k4, k5, k6, k7⟩ := biW_q (a := -2 * a) (b := a * a - 4 * b) (by omega) (by omega) fx fy h
  refine (onS_q (by omega) (by omega) k1 k2 ht).2 ?_
  have hX : qv nx dx ≠ 0 := fun e => k0 (qv_zero (den_ne fx) e)
  have c1 : ((-2 * a : Int) : Rat) = -2 * (a : Rat) := by push_cast; rfl
  have c2 : ((a * a - 4 * b : Int) : Rat) = (a : Rat) * a - 4 * b := by push_cast; rfl
  rw [c1, c2] at k3
  rw [c2] at k5
  exact bk_on hX k3 k4 k5 k6 k7
/-! ### the doubled point -/
theorem invQ {n d : Rat} (h : d ≠ 0) : n * d⁻¹ * d = n := by grind
theorem mulQ {x y : Rat} (hx : x ≠ 0) (hy : y ≠ 0) : x * y ≠ 0 := fun h => (Rat.mul_eq_zero.1 h).elim hx hy
theorem dbl_rat {A x1 y1 e1 x y e n d X1 Y1 X Y L : Rat} (h1 : e1 ≠ 0) (hd : d ≠ 0) (he : e ≠ 0)
  (a1 : X1*(e1*e1) = x1) (a2 : Y1*(e1*e1*e1) = y1) (a3 : X*(e*e) = x) (a4 : Y*(e*e*e) = y)
  (hn : n = 3*x1*x1 + A*e1*e1*e1*e1) (hdd : d = 2*y1*e1) (hL : L*d = n)
  (hT : x * (d*d*((e1*e1)*(e1*e1))) = (n*n*((e1*e1)*(e1*e1)) - d*d*(x1*(e1*e1) + x1*(e1*e1)))*(e*e))
  (hS : (n*(x1*(e*e) - x*(e1*e1))*e1 - y1*d*(e*e)) * e = (d*(e1*e1*e1))*y) :
  L*(2*Y1) = 3*X1*X1 + A ∧ X = L*L - 2*X1 ∧ Y = L*(X1 - X) - Y1 := by
  have e4 : e1*e1*(e1*e1) ≠ 0 := mulQ (mulQ h1 h1) (mulQ h1 h1)
  refine ⟨?_, ?_, ?_⟩
  · refine cancelQ e4 ?_
    clear hT hS a3 a4
    have : L*(2*Y1)*(e1*e1*(e1*e1)) = L*d := by rw [hdd, ← a2]; grind
    rw [this, hL, hn, ← a1]
    grind
  · have ez : (d*d)*((e1*e1)*(e1*e1))*(e*e) ≠ 0 := mulQ (mulQ (mulQ hd hd) e4) (mulQ he he)
    refine cancelQ ez ?_
    clear hS a4 a2 hn hdd
    rw [← hL, ← a3, ← a1] at hT
    grind
  · have ez : d*(e1*e1*e1)*(e*e*e) ≠ 0 := mulQ (mulQ hd (mulQ (mulQ h1 h1) h1)) (mulQ (mulQ he he) he)
    refine cancelQ ez ?_
    clear hT hn
    rw [← hL, ← a3, ← a1, ← a4, ← a2] at hS
    clear hdd hL a1 a2 a3 a4
    grind
theorem dbl_pt {A B x1 y1 e1 x y e : Int} (he1 : 1 ≤ e1) (c1 : y1 * y1 = evV A B x1 e1) (hp : ptS A x1 y1 e1 x1 y1 e1 = (x, y, e, true)) (he : e ≠ 0) :
    ∃ L : Rat, L * (2 * qv y1 (e1 * e1 * e1)) = 3 * qv x1 (e1 * e1) * qv x1 (e1 * e1) + (A : Rat) ∧ qv x (e * e) = L * L - 2 * qv x1 (e1 * e1) ∧ qv y (e * e * e) = L * (qv x1 (e1 * e1) - qv x (e * e)) - qv y1 (e1 * e1 * e1) := by
  have e10 : e1 ≠ 0 := by omega
  unfold ptS at hp
  rw [if_neg e10, if_neg e10] at hp
  by_cases hy : y1 = 0
  · rw [if_pos ⟨rfl, by omega, rfl⟩] at hp
    simp only [Prod.mk.injEq] at hp
    exact (he hp.2.2.1.symm).elim
  · rw [if_neg (fun h => hy (by omega))] at hp
    have hdz : slD x1 y1 e1 x1 y1 e1 = 2 * y1 * e1 := if_pos ⟨rfl, rfl, rfl⟩
    have hnz : slN A x1 y1 e1 x1 y1 e1 = 3 * x1 * x1 + A * e1 * e1 * e1 * e1 := if_pos ⟨rfl, rfl, rfl⟩
    have hd0 : 2 * y1 * e1 ≠ 0 := Int.mul_ne_zero (Int.mul_ne_zero (by omega) hy) e10
    obtain ⟨r, hr⟩ := third_ex he1 he1 c1 c1 (by rw [hdz]; exact hd0)
    have ht := thV_eq (by rw [hdz]; exact hd0) e10 e10 hr
    rw [ht] at hp
    rw [hp, hdz, hnz] at hr
    rcases hr with ⟨z, u, f, e2, hf, hz, hg, hT, hS⟩ | ⟨e2, -⟩
    · simp only [Prod.mk.injEq] at e2
      obtain ⟨rfl, rfl, rfl, -⟩ := e2
      have hdr := ne_rat hd0
      unfold thX at hT
      unfold sdV at hS
      have hT2 := congrArg (fun z : Int => (z : Rat)) hT
      have hS2 := congrArg (fun z : Int => (z : Rat)) hS
      try dsimp only at hT2 hS2
      push_cast at hT2 hS2 hdr
      have q1 := qv_mul (n := x1) (d := e1 * e1) (Int.mul_ne_zero e10 e10)
      have q2 := qv_mul (n := y1) (d := e1 * e1 * e1) (Int.mul_ne_zero (Int.mul_ne_zero e10 e10) e10)
      have q3 := qv_mul (n := x) (d := e * e) (Int.mul_ne_zero he he)
      have q4 := qv_mul (n := y) (d := e * e * e) (Int.mul_ne_zero (Int.mul_ne_zero he he) he)
      push_cast at q1 q2 q3 q4
      refine ⟨(3 * (x1 : Rat) * x1 + (A : Rat) * e1 * e1 * e1 * e1) * (2 * (y1 : Rat) * e1)⁻¹, ?_⟩
      exact dbl_rat (ne_rat e10) hdr (ne_rat he) q1 q2 q3 q4 rfl rfl (invQ hdr) hT2 hS2
    · simp only [Prod.mk.injEq] at e2
      exact absurd e2.2.2.2 (by decide)
/-- both maps together double, on the plain model -/
theorem iso_dbl {a b m nx dx ny dy qx qy qe x y e : Int} (h1 : tcB a b = true) (ha : a = 3 * m) (fx : frB nx dx = true) (fy : frB ny dy = true) (him : (imW a b nx dx ny dy).2.2 = true)
    (hbi : (biW (-2 * a) (a * a - 4 * b) (imW a b nx dx ny dy).1.1 (imW a b nx dx ny dy).1.2 (imW a b nx dx ny dy).2.1.1 (imW a b nx dx ny dy).2.1.2).2.2 = true)
    (hqe : 1 ≤ qe) (hx : qv qx (qe * qe) = qv nx dx + (m : Rat)) (hy : qv qy (qe * qe * qe) = qv ny dy) {B : Int} (c1 : qy * qy = evV (b - 3 * m * m) B qx qe)
    (hp : ptS (b - 3 * m * m) qx qy qe qx qy qe = (x, y, e, true)) (he : e ≠ 0) :
    qv (biW (-2 * a) (a * a - 4 * b) (imW a b nx dx ny dy).1.1 (imW a b nx dx ny dy).1.2 (imW a b nx dx ny dy).2.1.1 (imW a b nx dx ny dy).2.1.2).1.1 (biW (-2 * a) (a * a - 4 * b) (imW a b nx dx ny dy).1.1 (imW a b nx dx ny dy).1.2 (imW a b nx dx ny dy).2.1.1 (imW a b nx dx ny dy).2.1.2).1.2 + (m : Rat) = qv x (e * e) ∧
    qv (biW (-2 * a) (a * a - 4 * b) (imW a b nx dx ny dy).1.1 (imW a b nx dx ny dy).1.2 (imW a b nx dx ny dy).2.1.1 (imW a b nx dx ny dy).2.1.2).2.1.1 (biW (-2 * a) (a * a - 4 * b) (imW a b nx dx ny dy).1.1 (imW a b nx dx ny dy).1.2 (imW a b nx dx ny dy).2.1.1 (imW a b nx dx ny dy).2.1.2).2.1.2 = qv y (e * e * e) := by
  have hb := tcB_bd h1
  have m1 := mul_bd (a := a) (b := a) (A := 300) (B := 300) (by omega) (by omega)
  obtain ⟨k0, -, k1, k2, k3, r, s, k4, k5, k6, k7⟩ := imW_q (by omega) (by omega) fx fy him
  obtain ⟨j0, j1, j2, j3, p, q, j4, j5, j6, j7⟩ := biW_q (by omega) (by omega) k1 k2 hbi
  obtain ⟨L, l1, l2, l3⟩ := dbl_pt hqe c1 hp he
  have hX : qv nx dx ≠ 0 := fun z => k0 (qv_zero (den_ne fx) z)
  have hU : qv (imW a b nx dx ny dy).1.1 (imW a b nx dx ny dy).1.2 ≠ 0 := fun z => j0 (qv_zero (den_ne k1) z)
  have ca : (a : Rat) = 3 * (m : Rat) := by rw [ha]; push_cast; rfl
  have cA : ((b - 3 * m * m : Int) : Rat) = (b : Rat) - 3 * (m : Rat) * m := by push_cast; rfl
  have cB : ((a * a - 4 * b : Int) : Rat) = 9 * (m : Rat) * m - 4 * (b : Rat) := by rw [ha]; push_cast; grind
  rw [hx, hy] at l1 l3
  rw [hx] at l2
  rw [cA] at l1
  rw [ca] at k3
  rw [cB] at j5
  exact bk_dbl hX k3 k4 k5 k6 k7 hU j4 j5 j6 j7 l1 l2 l3
end Go.Proofs.YtnemnkbcbokafaaGreat
