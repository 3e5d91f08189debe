/- Lemmas and contracts of functions. No condition. -/
import Derived.Test.YtbnglnbcfabmgaaPk12
namespace Go.Proofs.Ytbnglnbcfabmgaa
open Go.RowKit
set_option linter.unusedVariables false
set_option maxHeartbeats 1000000
set_option maxRecDepth 20000
theorem line (A B X1 Y1 X2 L : Rat) (hA : A = L*(2*Y1 + L*(X2-X1)) - (X1*X1+X1*X2+X2*X2)) (hB : B = Y1*Y1 - X1*X1*X1 - A*X1) (X3 : Rat) (h3 : X3 = L*L-X1-X2) :
  (L*(X1-X3) - Y1)*(L*(X1-X3) - Y1) = X3*X3*X3 + A*X3 + B := by
  subst h3; subst hA; subst hB
  grind
theorem chordA (A B X1 Y1 X2 Y2 L : Rat) (h1 : Y1*Y1 = X1*X1*X1 + A*X1 + B) (h2 : Y2*Y2 = X2*X2*X2+A*X2+B) (hl : L*(X2 - X1) = Y2 - Y1) (hne : X2 - X1 ≠ 0) : A = L*(2*Y1 + L*(X2-X1)) - (X1*X1+X1*X2+X2*X2) := by
  have : (X2 - X1) * (A - (L*(2*Y1 + L*(X2-X1)) - (X1*X1+X1*X2+X2*X2))) = 0 := by grind
  rcases Rat.mul_eq_zero.1 this with h | h
  · exact absurd h hne
  · grind
theorem onC (A B x y e u : Rat) (hu : u*e = 1) (h : y*y = x*x*x + A*x*e*e*e*e + B*e*e*e*e*e*e) : (y*(u*u*u))*(y*(u*u*u)) = (x*(u*u))*(x*(u*u))*(x*(u*u)) + A*(x*(u*u)) + B := by
  grind
theorem slp (x1 y1 e1 u1 x2 y2 e2 u2 n d v : Rat) (h1 : u1*e1 = 1) (h2 : u2*e2 = 1) (hv : v*d = 1)
  (h : n * (e1*e2*(x2*(e1*e1) - x1*(e2*e2))) = d * (y2*(e1*e1*e1) - y1*(e2*e2*e2))) :
  (n*v)*(x2*(u2*u2) - x1*(u1*u1)) = y2*(u2*u2*u2) - y1*(u1*u1*u1) := by
  grind
theorem tgt (A x1 y1 e1 u1 n d v : Rat) (h1 : u1*e1 = 1) (hv : v*d = 1)
  (h : n * (2*y1*e1) = d * (3*x1*x1 + A*e1*e1*e1*e1)) :
  A = (n*v)*(2*(y1*(u1*u1*u1)) + (n*v)*(x1*(u1*u1) - x1*(u1*u1))) - ((x1*(u1*u1))*(x1*(u1*u1)) + (x1*(u1*u1))*(x1*(u1*u1)) + (x1*(u1*u1))*(x1*(u1*u1))) := by
  grind
theorem x3 (x1 e1 u1 x2 e2 u2 n d v x e w : Rat) (h1 : u1*e1 = 1) (h2 : u2*e2 = 1) (hv : v*d = 1) (hw : w*e = 1)
  (h : x * (d*d*((e1*e1)*(e2*e2))) = (n*n*((e1*e1)*(e2*e2)) - d*d*(x1*(e2*e2) + x2*(e1*e1)))*(e*e)) :
  x*(w*w) = (n*v)*(n*v) - x1*(u1*u1) - x2*(u2*u2) := by
  grind
theorem fin (A B x1 y1 e1 u1 n d v x e w : Rat) (h1 : u1*e1 = 1) (hv : v*d = 1) (hw : w*e = 1)
  (h : ((n*v)*(x1*(u1*u1)-x*(w*w)) - y1*(u1*u1*u1))*((n*v)*(x1*(u1*u1)-x*(w*w)) - y1*(u1*u1*u1)) = (x*(w*w))*(x*(w*w))*(x*(w*w)) + A*(x*(w*w)) + B) :
  ((n*(x1*(e*e) - x*(e1*e1))*e1 - y1*d*(e*e))*e)*((n*(x1*(e*e) - x*(e1*e1))*e1 - y1*d*(e*e))*e) = (d*(e1*e1*e1))*(d*(e1*e1*e1))*(x*x*x + A*x*e*e*e*e + B*e*e*e*e*e*e) := by
  have hS : (n*(x1*(e*e) - x*(e1*e1))*e1 - y1*d*(e*e)) = ((n*v)*(x1*(u1*u1)-x*(w*w)) - y1*(u1*u1*u1)) * (d*(e1*e1*e1)*(e*e)) := by grind
  rw [hS]
  generalize ((n*v)*(x1*(u1*u1)-x*(w*w)) - y1*(u1*u1*u1)) = Y at *
  have : (Y * (d*(e1*e1*e1)*(e*e))*e) * (Y * (d*(e1*e1*e1)*(e*e))*e) = (Y*Y) * ((d*(e1*e1*e1)*(e*e))*e) * ((d*(e1*e1*e1)*(e*e))*e) := by grind
  rw [this, h]
  clear this h hS
  have h6 : (x*(w*w))*(x*(w*w))*(x*(w*w))*(e*e*e*e*e*e) = x*x*x := by grind
  have h4 : (x*(w*w))*(e*e*e*e*e*e) = x*e*e*e*e := by grind
  generalize (x*(w*w))*(x*(w*w))*(x*(w*w)) = P at *
  generalize (x*(w*w)) = Q at *
  grind
theorem onC' (A B x1 y1 e1 u1 : Rat) (hu : u1*e1 = 1) (h : y1*y1 = x1*x1*x1 + A*x1*e1*e1*e1*e1 + B*e1*e1*e1*e1*e1*e1) :
   B = (y1*(u1*u1*u1))*(y1*(u1*u1*u1)) - (x1*(u1*u1))*(x1*(u1*u1))*(x1*(u1*u1)) - A*(x1*(u1*u1)) := by
  have := onC A B x1 y1 e1 u1 hu h
  rw [this]; grind
theorem ivr (e : Rat) (h : e ≠ 0) : e⁻¹ * e = 1 := by grind
theorem third (A B x1 y1 e1 x2 y2 e2 n d x e : Rat) (he1 : e1 ≠ 0) (he2 : e2 ≠ 0) (hd : d ≠ 0) (he : e ≠ 0)
   (h1 : y1*y1 = x1*x1*x1 + A*x1*e1*e1*e1*e1 + B*e1*e1*e1*e1*e1*e1)
   (h2 : y2*y2 = x2*x2*x2 + A*x2*e2*e2*e2*e2 + B*e2*e2*e2*e2*e2*e2)
   (hs : (n * (e1*e2*(x2*(e1*e1) - x1*(e2*e2))) = d * (y2*(e1*e1*e1) - y1*(e2*e2*e2)) ∧ x2*(e1*e1) - x1*(e2*e2) ≠ 0) ∨ (n * (2*y1*e1) = d * (3*x1*x1 + A*e1*e1*e1*e1) ∧ x2 = x1 ∧ e2 = e1))
   (h : x * (d*d*((e1*e1)*(e2*e2))) = (n*n*((e1*e1)*(e2*e2)) - d*d*(x1*(e2*e2) + x2*(e1*e1)))*(e*e)) :
   ((n*(x1*(e*e) - x*(e1*e1))*e1 - y1*d*(e*e))*e)*((n*(x1*(e*e) - x*(e1*e1))*e1 - y1*d*(e*e))*e) = (d*(e1*e1*e1))*(d*(e1*e1*e1))*(x*x*x + A*x*e*e*e*e + B*e*e*e*e*e*e) := by
  have hB := onC' A B x1 y1 e1 _ (ivr e1 he1) h1
  have hX := x3 x1 e1 _ x2 e2 _ n d _ x e _ (ivr e1 he1) (ivr e2 he2) (ivr d hd) (ivr e he) h
  have hA : A = (n*d⁻¹)*(2*(y1*(e1⁻¹*e1⁻¹*e1⁻¹)) + (n*d⁻¹)*(x2*(e2⁻¹*e2⁻¹) - x1*(e1⁻¹*e1⁻¹))) - ((x1*(e1⁻¹*e1⁻¹))*(x1*(e1⁻¹*e1⁻¹)) + (x1*(e1⁻¹*e1⁻¹))*(x2*(e2⁻¹*e2⁻¹)) + (x2*(e2⁻¹*e2⁻¹))*(x2*(e2⁻¹*e2⁻¹))) := by
    rcases hs with ⟨hs, hne⟩ | ⟨hs, hx, hee⟩
    · refine chordA A B _ _ _ (y2*(e2⁻¹*e2⁻¹*e2⁻¹)) _ (onC A B x1 y1 e1 _ (ivr e1 he1) h1) (onC A B x2 y2 e2 _ (ivr e2 he2) h2) (slp x1 y1 e1 _ x2 y2 e2 _ n d _ (ivr e1 he1) (ivr e2 he2) (ivr d hd) hs) ?_
      intro hz
      apply hne
      have a1 := ivr e1 he1
      have a2 := ivr e2 he2
      generalize e1⁻¹ = u1 at *
      generalize e2⁻¹ = u2 at *
      clear hs hX hB h h1 h2
      grind
    · subst hx; subst hee
      exact tgt A _ y1 _ _ n d _ (ivr _ he1) (ivr d hd) hs
  exact fin A B x1 y1 e1 _ n d _ x e _ (ivr e1 he1) (ivr d hd) (ivr e he) (line A B _ _ _ _ hA hB _ hX)
theorem thirdZ (A B x1 y1 e1 x2 y2 e2 n d x e : Int) (he1 : e1 ≠ 0) (he2 : e2 ≠ 0) (hd : d ≠ 0) (he : e ≠ 0)
   (h1 : y1*y1 = x1*x1*x1 + A*x1*e1*e1*e1*e1 + B*e1*e1*e1*e1*e1*e1)
   (h2 : y2*y2 = x2*x2*x2 + A*x2*e2*e2*e2*e2 + B*e2*e2*e2*e2*e2*e2)
   (hs : (n * (e1*e2*(x2*(e1*e1) - x1*(e2*e2))) = d * (y2*(e1*e1*e1) - y1*(e2*e2*e2)) ∧ x2*(e1*e1) - x1*(e2*e2) ≠ 0) ∨ (n * (2*y1*e1) = d * (3*x1*x1 + A*e1*e1*e1*e1) ∧ x2 = x1 ∧ e2 = e1))
   (h : x * (d*d*((e1*e1)*(e2*e2))) = (n*n*((e1*e1)*(e2*e2)) - d*d*(x1*(e2*e2) + x2*(e1*e1)))*(e*e)) :
   ((n*(x1*(e*e) - x*(e1*e1))*e1 - y1*d*(e*e))*e)*((n*(x1*(e*e) - x*(e1*e1))*e1 - y1*d*(e*e))*e) = (d*(e1*e1*e1))*(d*(e1*e1*e1))*(x*x*x + A*x*e*e*e*e + B*e*e*e*e*e*e) := by
  have ne : ∀ z : Int, z ≠ 0 → (z : Rat) ≠ 0 := fun z hz hh => hz (by exact_mod_cast hh)
  have := third A B x1 y1 e1 x2 y2 e2 n d x e (ne _ he1) (ne _ he2) (ne _ hd) (ne _ he) (by exact_mod_cast h1) (by exact_mod_cast h2)
    (by
      rcases hs with ⟨a, b⟩ | ⟨a, b, c⟩
      · exact Or.inl ⟨by exact_mod_cast a, fun hh => b (by exact_mod_cast hh)⟩
      · exact Or.inr ⟨by exact_mod_cast a, by exact_mod_cast b, by exact_mod_cast c⟩)
    (by exact_mod_cast h)
  exact_mod_cast this
def thX (n d x1 e1 x2 e2 e x : Int) : Prop := x * (d*d*((e1*e1)*(e2*e2))) = (n*n*((e1*e1)*(e2*e2)) - d*d*(x1*(e2*e2) + x2*(e1*e1)))*(e*e)
def sdV (n d x1 y1 e1 e x : Int) : Int := n*(x1*(e*e) - x*(e1*e1))*e1 - y1*d*(e*e)
theorem sq_dvd {a b : Int} (h : a*a ∣ b*b) : a ∣ b := by
  have h1 := Int.natAbs_dvd_natAbs.2 h
  rw [Int.natAbs_mul, Int.natAbs_mul] at h1
  apply Int.natAbs_dvd_natAbs.1
  generalize a.natAbs = p at h1 ⊢
  generalize b.natAbs = q at h1 ⊢
  rw [← Nat.pow_two, ← Nat.pow_two] at h1
  exact (Nat.pow_dvd_pow_iff (by decide)).1 h1
theorem third_y {S e M V : Int} (hM : M ≠ 0) (h : (S*e)*(S*e) = M*M*V) : ∃ y, S*e = M*y ∧ y*y = V := by
  have hd : M ∣ S*e := sq_dvd ⟨V, h⟩
  obtain ⟨y, hy⟩ := hd
  refine ⟨y, hy, ?_⟩
  rw [hy] at h
  have h2 : (M*M)*(y*y) = (M*M)*V := by grind
  exact Int.eq_of_mul_eq_mul_left (by simpa using hM) h2
theorem lt_sq {b c : Int} (hb : 0 ≤ b) (h : b < c) : b*b < c*c := by
  have h1 : b*b ≤ b*c := Int.mul_le_mul_of_nonneg_left (by omega) hb
  have h2 : b*c < c*c := Int.mul_lt_mul_of_pos_right h (by omega)
  omega
theorem dvd_cop {a b c : Int} (h : a ∣ b * c) (hg : Int.gcd a b = 1) : a ∣ c := by
  have := Int.natAbs_dvd_natAbs.2 h
  rw [Int.natAbs_mul] at this
  exact Int.natAbs_dvd_natAbs.1 (Nat.Coprime.dvd_of_dvd_mul_left hg this)
theorem sq_le_abs {a b : Int} (hb : 0 ≤ b) (h : a*a ≤ b*b) : -b ≤ a ∧ a ≤ b := by
  constructor
  · apply Int.not_lt.1; intro hh
    have : b*b < (-a)*(-a) := lt_sq hb (by omega)
    rw [Int.neg_mul_neg] at this; omega
  · apply Int.not_lt.1; intro hh
    have := lt_sq hb hh
    omega
theorem third_bd {n d x1 e1 x2 e2 e x : Int} (hg : Int.gcd n d = 1) (hd : d ≠ 0) (h1 : 1 ≤ e1 ∧ e1 ≤ 20) (h2 : 1 ≤ e2 ∧ e2 ≤ 20) (h3 : 1 ≤ e ∧ e ≤ 20)
  (hx1 : -10000 ≤ x1 ∧ x1 ≤ 10000) (hx2 : -10000 ≤ x2 ∧ x2 ≤ 10000) (hx : -10000 ≤ x ∧ x ≤ 10000) (h : thX n d x1 e1 x2 e2 e x) :
  (-8000 ≤ d ∧ d ≤ 8000) ∧ (-200 * d.natAbs ≤ n ∧ n ≤ 200 * d.natAbs) := by
  unfold thX at h
  have hP1 : 1 ≤ e1*e2*e ∧ e1*e2*e ≤ 8000 := by
    have a1 : 1*1 ≤ e1*e2 := Int.mul_le_mul h1.1 h2.1 (by omega) (by omega)
    have a2 : e1*e2 ≤ 20*20 := Int.mul_le_mul h1.2 h2.2 (by omega) (by omega)
    have a3 : 1*1 ≤ e1*e2*e := Int.mul_le_mul a1 h3.1 (by omega) (by omega)
    have a4 : e1*e2*e ≤ (20*20)*20 := Int.mul_le_mul a2 h3.2 (by omega) (by omega)
    omega
  have hK : (n*(e1*e2*e))*(n*(e1*e2*e)) = (d*d)*(x*((e1*e2)*(e1*e2)) + x1*((e2*e)*(e2*e)) + x2*((e1*e)*(e1*e))) := by grind
  have hdv : d ∣ n*(e1*e2*e) := sq_dvd ⟨_, hK⟩
  have hdP : d ∣ e1*e2*e := dvd_cop hdv (by rw [Int.gcd_comm]; exact hg)
  have hle := Int.le_of_dvd (by omega) (Int.natAbs_dvd.2 hdP)
  refine ⟨by omega, ?_⟩
  have sqm : ∀ a b c : Int, 1 ≤ a → 1 ≤ b → 1 ≤ c → (a*b)*(a*b) ≤ (a*b*c)*(a*b*c) := by
    intro a b c ha hb hc
    have t : 1*1 ≤ a*b := Int.mul_le_mul ha hb (by omega) (by omega)
    have t2 : (a*b)*1 ≤ (a*b)*c := Int.mul_le_mul_of_nonneg_left hc (by omega)
    exact Int.mul_le_mul (by omega) (by omega) (by omega) (by omega)
  have q1 := sqm e1 e2 e h1.1 h2.1 h3.1
  have q2 := sqm e2 e e1 h2.1 h3.1 h1.1
  have q3 := sqm e1 e e2 h1.1 h3.1 h2.1
  have r2 : e2*e*e1 = e1*e2*e := by grind
  have r3 : e1*e*e2 = e1*e2*e := by grind
  rw [r2] at q2
  rw [r3] at q3
  generalize e1*e2*e = P at *
  have sq0 : ∀ a : Int, 0 ≤ a*a := fun a => by
    rcases Int.le_total 0 a with t | t
    · exact Int.mul_nonneg t t
    · exact Int.mul_nonneg_of_nonpos_of_nonpos t t
  have p1 := sq0 (e1*e2)
  have p2 := sq0 (e2*e)
  have p3 := sq0 (e1*e)
  generalize (e1*e2)*(e1*e2) = U at *
  generalize (e2*e)*(e2*e) = V at *
  generalize (e1*e)*(e1*e) = W at *
  have m1 : x*U ≤ 10000*(P*P) := Int.le_trans (Int.mul_le_mul_of_nonneg_right hx.2 p1) (by omega)
  have m2 : x1*V ≤ 10000*(P*P) := Int.le_trans (Int.mul_le_mul_of_nonneg_right hx1.2 p2) (by omega)
  have m3 : x2*W ≤ 10000*(P*P) := Int.le_trans (Int.mul_le_mul_of_nonneg_right hx2.2 p3) (by omega)
  have m4 : (d*d)*(x*U + x1*V + x2*W) ≤ (d*d)*(30000*(P*P)) := Int.mul_le_mul_of_nonneg_left (by omega) (sq0 d)
  have m5 : (n*n)*(P*P) ≤ (30000*(d*d))*(P*P) := by grind
  have hPP : 0 < P*P := Int.mul_pos (by omega) (by omega)
  have m6 : n*n ≤ 30000*(d*d) := Int.le_of_mul_le_mul_right m5 hPP
  have hdd : d*d = (d.natAbs : Int)*(d.natAbs : Int) := (Int.natAbs_mul_self).symm
  have := sq_le_abs (a := n) (b := 200 * d.natAbs) (by omega) (by
    have : (200 * (d.natAbs : Int)) * (200 * d.natAbs) = 40000*(d*d) := by rw [hdd]; grind
    have := sq0 d
    omega)
  omega
theorem cop_sq {x e : Int} (h : Int.gcd x e = 1) : Int.gcd x (e*e) = 1 := by
  have : Nat.gcd x.natAbs (e*e).natAbs = 1 := by
    rw [Int.natAbs_mul]
    exact Nat.Coprime.mul_right h h
  exact this
theorem cop_of_sq {x e : Int} (h : Int.gcd x (e*e) = 1) : Int.gcd x e = 1 := by
  have : Int.gcd x e ∣ Int.gcd x (e*e) := by
    show Nat.gcd x.natAbs e.natAbs ∣ Nat.gcd x.natAbs (e*e).natAbs
    rw [Int.natAbs_mul]
    exact Nat.dvd_gcd (Nat.gcd_dvd_left _ _) (Nat.dvd_trans (Nat.gcd_dvd_right _ _) (Nat.dvd_mul_right _ _))
  rw [h] at this
  exact Nat.dvd_one.1 this
theorem low_uniq {x D e z t : Int} (ha : Int.gcd x D = 1) (hb : Int.gcd z t = 1) (hD : 0 < D) (ht : 0 < t) (h : x*t = z*D) : x = z ∧ D = t := by
  have d1 : D ∣ t := dvd_cop (a := D) (b := x) (c := t) ⟨z, by rw [h]; grind⟩ (by rw [Int.gcd_comm]; exact ha)
  have d2 : t ∣ D := dvd_cop (a := t) (b := z) (c := D) ⟨x, by rw [← h]; grind⟩ (by rw [Int.gcd_comm]; exact hb)
  have e1 := Int.le_of_dvd ht d1
  have e2 := Int.le_of_dvd hD d2
  have : D = t := by omega
  subst this
  exact ⟨Int.eq_of_mul_eq_mul_right (by omega) h, rfl⟩
theorem third_low {n d x1 e1 x2 e2 e x z t : Int} (hd : d ≠ 0) (h1 : e1 ≠ 0) (h2 : e2 ≠ 0) (he : 1 ≤ e) (hc : Int.gcd x e = 1) (h : thX n d x1 e1 x2 e2 e x)
  (hl : z * (d*d*((e1*e1)*(e2*e2))) = (n*n*((e1*e1)*(e2*e2)) - d*d*(x1*(e2*e2) + x2*(e1*e1)))*t) (ht : 0 < t) (hg : Int.gcd z t = 1) : x = z ∧ e*e = t := by
  unfold thX at h
  have hM : d*d*((e1*e1)*(e2*e2)) ≠ 0 := by simp [hd, h1, h2]
  generalize d*d*((e1*e1)*(e2*e2)) = M at *
  generalize n*n*((e1*e1)*(e2*e2)) - d*d*(x1*(e2*e2) + x2*(e1*e1)) = T at *
  have : x*t = z*(e*e) := by
    apply Int.eq_of_mul_eq_mul_right hM
    grind
  exact low_uniq (e := e) (cop_sq hc) hg (Int.mul_pos (by omega) (by omega)) ht this
theorem third_uniq {n d x1 e1 x2 e2 e x f z : Int} (hd : d ≠ 0) (h1 : e1 ≠ 0) (h2 : e2 ≠ 0) (he : 1 ≤ e) (hf : 1 ≤ f) (hc : Int.gcd x e = 1) (h : thX n d x1 e1 x2 e2 e x)
  (hcf : Int.gcd z f = 1) (hl : thX n d x1 e1 x2 e2 f z) : x = z ∧ e = f := by
  have := third_low hd h1 h2 he hc h hl (Int.mul_pos (by omega) (by omega)) (cop_sq hcf)
  refine ⟨this.1, ?_⟩
  have a := (sq_le_abs (a := e) (b := f) (by omega) (by omega)).2
  have b := (sq_le_abs (a := f) (b := e) (by omega) (by omega)).2
  omega
theorem ref_y {n d x1 y1 e1 e x y3 up under y bottom : Int} (hd : d ≠ 0) (h1 : 1 ≤ e1) (he : 1 ≤ e) (hS : sdV n d x1 y1 e1 e x * e = (d*(e1*e1*e1))*y3)
  (hu : under ≠ 0) (hb : 0 < bottom) (ha : up*(d*(e1*e1)*e*e) = (n*(x1*e*e - x*(e1*e1)))*under) (hy : y*(under*(e1*e1)*e1) = (up*(e1*e1)*e1 - y1*under)*bottom) (hg : Int.gcd y bottom = 1) :
  y * ((e*e*e).tdiv bottom) = y3 := by
  have key : y*(e*e*e) = y3*bottom := by
    have hM : d*(e1*e1*e1)*under*(e*e)*(e1*e1*e1) ≠ 0 := by simp [hd, hu]; omega
    apply Int.eq_of_mul_eq_mul_right hM
    unfold sdV at hS
    have t1 : y*(e*e*e)*(d*(e1*e1*e1)*under*(e*e)*(e1*e1*e1)) = (y*(under*(e1*e1)*e1))*(d*(e1*e1*e1)*(e*e*e*e*e)) := by grind
    have t2 : (up*(e1*e1)*e1 - y1*under)*(d*(e1*e1*e1)*(e*e*e*e*e)) = (up*(d*(e1*e1)*e*e))*(e1*e1*e1*e1*(e*e*e)) - y1*under*(d*(e1*e1*e1)*(e*e*e*e*e)) := by grind
    have t3 : y3*bottom*(d*(e1*e1*e1)*under*(e*e)*(e1*e1*e1)) = ((d*(e1*e1*e1))*y3)*(bottom*under*(e*e)*(e1*e1*e1)) := by grind
    rw [t1, hy, t3, ← hS]
    have t4 : (up*(e1*e1)*e1 - y1*under)*bottom*(d*(e1*e1*e1)*(e*e*e*e*e)) = ((up*(e1*e1)*e1 - y1*under)*(d*(e1*e1*e1)*(e*e*e*e*e)))*bottom := by grind
    rw [t4, t2, ha]
    clear ha hy hS t1 t2 t3 t4 hM hg hd hu
    grind
  have hdv : bottom ∣ e*e*e := dvd_cop (a := bottom) (b := y) ⟨y3, by rw [key]; grind⟩ (by rw [Int.gcd_comm]; exact hg)
  obtain ⟨k, hk⟩ := hdv
  rw [hk, Int.mul_tdiv_cancel_left _ (by omega)]
  rw [hk] at key
  apply Int.eq_of_mul_eq_mul_right (a := bottom) (by omega)
  rw [← key, Int.mul_assoc, Int.mul_comm k]

def Third (n d x1 y1 e1 x2 e2 : Int) (r : Int × Int × Int × Bool) : Prop :=
  (∃ x y e, r = (x, y, e, true) ∧ (1 ≤ e ∧ e ≤ 20) ∧ (-10000 ≤ x ∧ x ≤ 10000) ∧ Int.gcd x e = 1 ∧ thX n d x1 e1 x2 e2 e x ∧ sdV n d x1 y1 e1 e x * e = (d*(e1*e1*e1))*y) ∨
  (r = (0, 0, 0, false) ∧ ∀ e x : Int, (1 ≤ e ∧ e ≤ 20) → (-10000 ≤ x ∧ x ≤ 10000) → Int.gcd x e = 1 → ¬ thX n d x1 e1 x2 e2 e x)
theorem Third.det {n d x1 y1 e1 x2 e2 : Int} {r s : Int × Int × Int × Bool} (hd : d ≠ 0) (h1 : e1 ≠ 0) (h2 : e2 ≠ 0) (hr : Third n d x1 y1 e1 x2 e2 r) (hs : Third n d x1 y1 e1 x2 e2 s) : r = s := by
  rcases hr with ⟨x, y, e, rfl, he, hx, hg, ht, hy⟩ | ⟨rfl, hn⟩
  · rcases hs with ⟨z, u, f, rfl, hf, hz, hg2, ht2, hu⟩ | ⟨rfl, hn⟩
    · obtain ⟨rfl, rfl⟩ := third_uniq hd h1 h2 he.1 hf.1 hg ht hg2 ht2
      rw [hy] at hu
      have : y = u := Int.eq_of_mul_eq_mul_left (a := d*(e1*e1*e1)) (by simp [hd, h1]) hu
      rw [this]
    · exact absurd ht (hn e x he hx hg)
  · rcases hs with ⟨z, u, f, rfl, hf, hz, hg2, ht2, hu⟩ | ⟨rfl, hn2⟩
    · exact absurd ht2 (hn f z hf hz hg2)
    · rfl
theorem thX_scale {g : Int} (hg : g ≠ 0) (n d x1 e1 x2 e2 e x : Int) : thX (g*n) (g*d) x1 e1 x2 e2 e x ↔ thX n d x1 e1 x2 e2 e x := by
  unfold thX
  have a1 : x * (g*d*(g*d)*((e1*e1)*(e2*e2))) = (g*g)*(x * (d*d*((e1*e1)*(e2*e2)))) := by grind
  have a2 : (g*n*(g*n)*((e1*e1)*(e2*e2)) - g*d*(g*d)*(x1*(e2*e2) + x2*(e1*e1)))*(e*e) = (g*g)*((n*n*((e1*e1)*(e2*e2)) - d*d*(x1*(e2*e2) + x2*(e1*e1)))*(e*e)) := by grind
  rw [a1, a2]
  constructor
  · intro h; exact Int.eq_of_mul_eq_mul_left (by simp [hg]) h
  · intro h; rw [h]
theorem sd_scale {g : Int} (hg : g ≠ 0) (n d x1 y1 e1 e x y : Int) : sdV (g*n) (g*d) x1 y1 e1 e x * e = (g*d*(e1*e1*e1))*y ↔ sdV n d x1 y1 e1 e x * e = (d*(e1*e1*e1))*y := by
  unfold sdV
  have a1 : (g*n*(x1*(e*e) - x*(e1*e1))*e1 - y1*(g*d)*(e*e))*e = g*((n*(x1*(e*e) - x*(e1*e1))*e1 - y1*d*(e*e))*e) := by grind
  have a2 : (g*d*(e1*e1*e1))*y = g*((d*(e1*e1*e1))*y) := by grind
  rw [a1, a2]
  constructor
  · intro h; exact Int.eq_of_mul_eq_mul_left hg h
  · intro h; rw [h]
theorem Third.scale {g : Int} (hg : g ≠ 0) {n d x1 y1 e1 x2 e2 : Int} {r : Int × Int × Int × Bool} (h : Third n d x1 y1 e1 x2 e2 r) : Third (g*n) (g*d) x1 y1 e1 x2 e2 r := by
  rcases h with ⟨x, y, e, rfl, he, hx, hc, ht, hy⟩ | ⟨rfl, hn⟩
  · exact Or.inl ⟨x, y, e, rfl, he, hx, hc, (thX_scale hg ..).2 ht, (sd_scale hg ..).2 hy⟩
  · exact Or.inr ⟨rfl, fun e x a b c h => hn e x a b c ((thX_scale hg ..).1 h)⟩
noncomputable def thV (n d x1 y1 e1 x2 e2 : Int) : Int × Int × Int × Bool := Classical.epsilon (Third n d x1 y1 e1 x2 e2)
theorem thV_eq {n d x1 y1 e1 x2 e2 : Int} {r : Int × Int × Int × Bool} (hd : d ≠ 0) (h1 : e1 ≠ 0) (h2 : e2 ≠ 0) (hr : Third n d x1 y1 e1 x2 e2 r) : thV n d x1 y1 e1 x2 e2 = r :=
  Third.det hd h1 h2 (Classical.epsilon_spec (p := Third n d x1 y1 e1 x2 e2) ⟨r, hr⟩) hr
theorem thV_scaled {g n d x1 y1 e1 x2 e2 : Int} {r : Int × Int × Int × Bool} (hg : g ≠ 0) (hd : d ≠ 0) (h1 : e1 ≠ 0) (h2 : e2 ≠ 0) (hr : Third n d x1 y1 e1 x2 e2 r) : thV (g*n) (g*d) x1 y1 e1 x2 e2 = r :=
  thV_eq (by simp [hg, hd]) h1 h2 (hr.scale hg)
def slN (A x1 y1 e1 x2 y2 e2 : Int) : Int := if x1 = x2 ∧ y1 = y2 ∧ e1 = e2 then 3*x1*x1 + A*e1*e1*e1*e1 else y2*e1*e1*e1 - y1*e2*e2*e2
def slD (x1 y1 e1 x2 y2 e2 : Int) : Int := if x1 = x2 ∧ y1 = y2 ∧ e1 = e2 then 2*y1*e1 else e1*e2*(x2*e1*e1 - x1*e2*e2)
theorem sl_zero {A B x1 y1 e1 x2 y2 e2 : Int} (h1 : 1 ≤ e1) (h2 : 1 ≤ e2) (g1 : Int.gcd x1 e1 = 1) (g2 : Int.gcd x2 e2 = 1) (c1 : y1*y1 = evV A B x1 e1) (c2 : y2*y2 = evV A B x2 e2) :
  slD x1 y1 e1 x2 y2 e2 = 0 ↔ (x1 = x2 ∧ y1 = -y2 ∧ e1 = e2) := by
  unfold slD
  by_cases hs : x1 = x2 ∧ y1 = y2 ∧ e1 = e2
  · obtain ⟨rfl, rfl, rfl⟩ := hs
    simp only [and_self, if_true, true_and, and_true]
    constructor
    · intro h
      rcases Int.mul_eq_zero.1 h with h | h
      · omega
      · omega
    · intro h
      have : y1 = 0 := by omega
      subst this; simp
  · rw [if_neg hs]
    constructor
    · intro h
      have hx : x1*(e2*e2) = x2*(e1*e1) := by
        rcases Int.mul_eq_zero.1 h with h | h
        · rcases Int.mul_eq_zero.1 h with h | h <;> omega
        · grind
      obtain ⟨hx2, he⟩ := low_uniq (e := 1) (cop_sq g1) (cop_sq g2) (Int.mul_pos (by omega) (by omega)) (Int.mul_pos (by omega) (by omega)) hx
      have a := (sq_le_abs (a := e1) (b := e2) (by omega) (by omega)).2
      have b := (sq_le_abs (a := e2) (b := e1) (by omega) (by omega)).2
      have he' : e1 = e2 := by omega
      subst hx2; subst he'
      rw [← c2] at c1
      have : (y1 - y2)*(y1 + y2) = 0 := by grind
      rcases Int.mul_eq_zero.1 this with t | t
      · exact absurd ⟨rfl, by omega, rfl⟩ hs
      · exact ⟨rfl, by omega, rfl⟩
    · rintro ⟨rfl, rfl, rfl⟩
      grind
theorem sl_curve {A B x1 y1 e1 x2 y2 e2 : Int} (h1 : 1 ≤ e1) (h2 : 1 ≤ e2) (c1 : y1*y1 = evV A B x1 e1) (c2 : y2*y2 = evV A B x2 e2) (hd : slD x1 y1 e1 x2 y2 e2 ≠ 0) {e x : Int} (he : 1 ≤ e)
  (h : thX (slN A x1 y1 e1 x2 y2 e2) (slD x1 y1 e1 x2 y2 e2) x1 e1 x2 e2 e x) :
  ∃ y, sdV (slN A x1 y1 e1 x2 y2 e2) (slD x1 y1 e1 x2 y2 e2) x1 y1 e1 e x * e = (slD x1 y1 e1 x2 y2 e2*(e1*e1*e1))*y ∧ y*y = evV A B x e := by
  apply third_y (by simp [hd]; omega)
  have hs : (slN A x1 y1 e1 x2 y2 e2 * (e1*e2*(x2*(e1*e1) - x1*(e2*e2))) = slD x1 y1 e1 x2 y2 e2 * (y2*(e1*e1*e1) - y1*(e2*e2*e2)) ∧ x2*(e1*e1) - x1*(e2*e2) ≠ 0) ∨ (slN A x1 y1 e1 x2 y2 e2 * (2*y1*e1) = slD x1 y1 e1 x2 y2 e2 * (3*x1*x1 + A*e1*e1*e1*e1) ∧ x2 = x1 ∧ e2 = e1) := by
    unfold slN slD at *
    by_cases hs : x1 = x2 ∧ y1 = y2 ∧ e1 = e2
    · right
      rw [if_pos hs, if_pos hs]
      exact ⟨Int.mul_comm _ _, hs.1.symm, hs.2.2.symm⟩
    · left
      rw [if_neg hs, if_neg hs]
      rw [if_neg hs] at hd
      refine ⟨by grind, ?_⟩
      intro hz
      apply hd
      have : x2*e1*e1 - x1*e2*e2 = x2*(e1*e1) - x1*(e2*e2) := by grind
      rw [this, hz]; simp
  unfold thX at h
  exact thirdZ A B x1 y1 e1 x2 y2 e2 _ _ x e (by omega) (by omega) hd (by omega) (by unfold evV at c1; exact c1) (by unfold evV at c2; exact c2) hs h
theorem third_ex {A B x1 y1 e1 x2 y2 e2 : Int} (h1 : 1 ≤ e1) (h2 : 1 ≤ e2) (c1 : y1*y1 = evV A B x1 e1) (c2 : y2*y2 = evV A B x2 e2) (hd : slD x1 y1 e1 x2 y2 e2 ≠ 0) :
  ∃ r, Third (slN A x1 y1 e1 x2 y2 e2) (slD x1 y1 e1 x2 y2 e2) x1 y1 e1 x2 e2 r := by
  by_cases h : ∃ e x : Int, (1 ≤ e ∧ e ≤ 20) ∧ (-10000 ≤ x ∧ x ≤ 10000) ∧ Int.gcd x e = 1 ∧ thX (slN A x1 y1 e1 x2 y2 e2) (slD x1 y1 e1 x2 y2 e2) x1 e1 x2 e2 e x
  · obtain ⟨e, x, he, hx, hg, ht⟩ := h
    obtain ⟨y, hy, -⟩ := sl_curve h1 h2 c1 c2 hd he.1 ht
    exact ⟨_, Or.inl ⟨x, y, e, rfl, he, hx, hg, ht, hy⟩⟩
  · exact ⟨_, Or.inr ⟨rfl, fun e x a b c d => h ⟨e, x, a, b, c, d⟩⟩⟩
theorem third_on {A B x1 y1 e1 x2 y2 e2 x y e : Int} (h1 : 1 ≤ e1) (h2 : 1 ≤ e2) (c1 : y1*y1 = evV A B x1 e1) (c2 : y2*y2 = evV A B x2 e2) (hd : slD x1 y1 e1 x2 y2 e2 ≠ 0)
  (h : Third (slN A x1 y1 e1 x2 y2 e2) (slD x1 y1 e1 x2 y2 e2) x1 y1 e1 x2 e2 (x, y, e, true)) : (1 ≤ e ∧ e ≤ 20) ∧ (-10000 ≤ x ∧ x ≤ 10000) ∧ Int.gcd x e = 1 ∧ y*y = evV A B x e := by
  rcases h with ⟨z, u, f, hr, he, hx, hg, ht, hy⟩ | ⟨hr, -⟩
  · simp only [Prod.mk.injEq] at hr
    obtain ⟨rfl, rfl, rfl, -⟩ := hr
    obtain ⟨v, hv, hc⟩ := sl_curve h1 h2 c1 c2 hd he.1 ht
    rw [hy] at hv
    have : y = v := Int.eq_of_mul_eq_mul_left (by simp [hd]; omega) hv
    subst this
    exact ⟨he, hx, hg, hc⟩
  · simp at hr
/-- the sum of two points of a curve -/
noncomputable def ptS (A x1 y1 e1 x2 y2 e2 : Int) : Int × Int × Int × Bool :=
  if e1 = 0 then (x2, y2, e2, true) else if e2 = 0 then (x1, y1, e1, true) else if x1 = x2 ∧ y1 = -y2 ∧ e1 = e2 then (0, 0, 0, true) else thV (slN A x1 y1 e1 x2 y2 e2) (slD x1 y1 e1 x2 y2 e2) x1 y1 e1 x2 e2
end Go.Proofs.Ytbnglnbcfabmgaa
