/- Lemmas and contracts of functions. No condition. -/
import Derived.Test.YtbnglnbcfabmgaaPf1
namespace Go.Proofs.Ytbnglnbcfabmgaa
section
set_option linter.unusedVariables false
set_option maxHeartbeats 1000000
namespace LN
/-- the rationals whose denominator is prime to e -/
def In (e : Int) (r : Rat) : Prop := ∃ a b : Int, Int.gcd b e = 1 ∧ r * (b : Rat) = (a : Rat)
theorem In.int (e a : Int) : In e (a : Rat) := ⟨a, 1, by simp, by grind⟩
theorem In.ne {e b : Int} (he : 2 ≤ e) (h : Int.gcd b e = 1) : (b : Rat) ≠ 0 := by
  intro h0
  have : b = 0 := by exact_mod_cast h0
  subst this
  simp at h
  omega
theorem gcd_mul {a b e : Int} (ha : Int.gcd a e = 1) (hb : Int.gcd b e = 1) : Int.gcd (a * b) e = 1 := by
  have h1 : Nat.Coprime a.natAbs e.natAbs := ha
  have h2 : Nat.Coprime b.natAbs e.natAbs := hb
  have := Nat.Coprime.mul_left h1 h2
  rw [← Int.natAbs_mul] at this
  exact this
theorem In.mul {e : Int} {r s : Rat} (hr : In e r) (hs : In e s) : In e (r * s) := by
  obtain ⟨a, b, h, h1⟩ := hr
  obtain ⟨c, d, k, k1⟩ := hs
  refine ⟨a * c, b * d, gcd_mul h k, ?_⟩
  rw [Rat.intCast_mul, Rat.intCast_mul, ← h1, ← k1]
  grind
theorem In.add {e : Int} {r s : Rat} (hr : In e r) (hs : In e s) : In e (r + s) := by
  obtain ⟨a, b, h, h1⟩ := hr
  obtain ⟨c, d, k, k1⟩ := hs
  refine ⟨a * d + c * b, b * d, gcd_mul h k, ?_⟩
  rw [Rat.intCast_add, Rat.intCast_mul, Rat.intCast_mul, Rat.intCast_mul, ← h1, ← k1]
  grind
theorem In.neg {e : Int} {r : Rat} (hr : In e r) : In e (-r) := by
  obtain ⟨a, b, h, h1⟩ := hr
  exact ⟨-a, b, h, by rw [Rat.intCast_neg, ← h1]; grind⟩
theorem In.sub {e : Int} {r s : Rat} (hr : In e r) (hs : In e s) : In e (r - s) := by
  rw [Rat.sub_eq_add_neg]; exact hr.add hs.neg
/-- 1 + e u has an inverse -/
theorem In.unit {e : Int} {u : Rat} (he : 2 ≤ e) (hu : In e u) : ∃ v, v * (1 + e * u) = 1 ∧ In e v := by
  obtain ⟨a, b, h, h1⟩ := hu
  have hb := In.ne he h
  have hg : Int.gcd (b + e * a) e = 1 := by
    rw [Int.gcd_comm]; simp; rw [Int.gcd_comm]; exact h
  have hc := In.ne he hg
  refine ⟨(b : Rat) * ((b + e * a : Int) : Rat)⁻¹, ?_, b, b + e * a, hg, ?_⟩
  · have h2 : (1 + (e : Rat) * u) * b = ((b + e * a : Int) : Rat) := by
      rw [Rat.intCast_add, Rat.intCast_mul, ← h1]; grind
    have h3 : ((b + e * a : Int) : Rat)⁻¹ * ((b + e * a : Int) : Rat) = 1 := Rat.inv_mul_cancel _ hc
    generalize ((b + e * a : Int) : Rat) = c at *
    generalize c⁻¹ = ci at *
    grind
  · have h3 : ((b + e * a : Int) : Rat)⁻¹ * ((b + e * a : Int) : Rat) = 1 := Rat.inv_mul_cancel _ hc
    generalize ((b + e * a : Int) : Rat) = c at *
    generalize c⁻¹ = ci at *
    grind
/-! the third point of a line, in the coordinates t = X/Y, s = 1/Y -/
section
variable {A B X1 Y1 X2 Y2 L s1 s2 α β : Rat}
theorem beta_chord (h1 : s1 * Y1 = 1) (h2 : s2 * Y2 = 1) (hs : s2 - s1 = α * (X2 * s2 - X1 * s1)) (hb : β = s1 - α * (X1 * s1)) :
   1 = α * X1 + β * Y1 ∧ 1 = α * X2 + β * Y2 := by
  constructor
  · grind
  · have : β = s2 - α * (X2 * s2) := by grind
    grind
theorem slope_chord (h1 : s1 * Y1 = 1) (h2 : s2 * Y2 = 1) (hs : s2 - s1 = α * (X2 * s2 - X1 * s1)) (hb : β = s1 - α * (X1 * s1)) (hne : X1 ≠ X2) (hL : L * (X2 - X1) = Y2 - Y1) : β ≠ 0 ∧ L * β = -α := by
  obtain ⟨e1, e2⟩ := beta_chord h1 h2 hs hb
  constructor
  · intro h0
    rw [h0] at e1 e2
    apply hne
    have e3 : α * X1 = 1 := by grind
    have e4 : α * X2 = 1 := by grind
    have : α * (X1 - X2) = 0 := by grind
    rcases Rat.mul_eq_zero.1 this with h | h
    · rw [h] at e3; grind
    · grind
  · have : (X2 - X1) * (L * β + α) = 0 := by grind
    rcases Rat.mul_eq_zero.1 this with h | h
    · exact absurd (by grind) hne
    · grind
theorem slope_tan (hc : Y1 * Y1 = X1 * X1 * X1 + A * X1 + B) (h1 : s1 * Y1 = 1) (hL : 2 * Y1 * L = 3 * X1 * X1 + A) (D : Rat) (hD : D = 1 - 2 * A * (X1 * s1) * s1 - 3 * B * s1 * s1)
  (hα : α * D = 3 * (X1 * s1) * (X1 * s1) + A * s1 * s1) (hb : β = s1 - α * (X1 * s1)) (hne : D ≠ 0) : β ≠ 0 ∧ L * β = -α := by
  have e1 : β * D = -2 * s1 := by grind
  have hs : s1 ≠ 0 := by intro h; rw [h] at h1; grind
  have e2 : L * (2 * s1) = 3 * (X1 * s1) * (X1 * s1) + A * s1 * s1 := by grind
  constructor
  · intro h0
    rw [h0] at e1
    have : 2 * s1 = 0 := by grind
    grind
  · have : D * (L * β + α) = 0 := by grind
    rcases Rat.mul_eq_zero.1 this with h | h
    · exact absurd h hne
    · grind
theorem h_q1 {Z s Y1 Y2 : Rat} (h : Z = s * (Z * Y1 * Y2)) : Z = Y1 * Y2 * Z * s := by grind
theorem h_q2 {Z X3 : Rat} (h1 : s1 * Y1 = 1) (h2 : s2 * Y2 = 1) : X3 = (X1 * Y2 * Z + X2 * Y1 * Z + X3 * Y1 * Y2) * (s1 * s2) - (X1 * s1) * Z - (X2 * s2) * Z := by
  have e1 : (X1 * Y2 * Z + X2 * Y1 * Z + X3 * Y1 * Y2) * (s1 * s2) = (s2 * Y2) * (X1 * s1 * Z) + (s1 * Y1) * (X2 * s2 * Z) + (s1 * Y1) * (s2 * Y2) * X3 := by grind
  rw [e1, h1, h2]; grind
/-- the line Y = L X + M -/
theorem third_ts {M V X3 Y3 t3 : Rat} (h1 : s1 * Y1 = 1) (h2 : s2 * Y2 = 1) (hbm : β * M = 1) (hLb : L * β = -α)
  (y1 : Y1 = L * X1 + M) (y2 : Y2 = L * X2 + M) (hA : A = X1 * X2 + (X1 + X2) * (L * L - X1 - X2) + 2 * L * M) (hB : B = M * M - X1 * X2 * (L * L - X1 - X2))
  (h3 : X3 = L * L - X1 - X2) (y3 : Y3 = L * (X1 - X3) - Y1) (hV : V * (1 + A * α * α + B * α * α * α) = 1)
  (ht : t3 = X1 * s1 + X2 * s2 + (2 * A * α * β + 3 * B * α * α * β) * V) : X3 = t3 * Y3 ∧ (α * t3 - β) * Y3 = 1 := by
  have z3 : -Y3 = L * X3 + M := by grind
  have p1 : Y1 * Y2 * (L * X3 + M) = M * M * M + A * L * L * M - B * L * L * L := by
    rw [y1, y2, hA, hB, h3]; grind
  have p2 : X1 * Y2 * (L * X3 + M) + X2 * Y1 * (L * X3 + M) + X3 * Y1 * Y2 = 2 * A * L * M - 3 * B * L * L := by
    rw [y1, y2, hA, hB, h3]; grind
  have hL : L = -α * M := by grind
  have p3 : M * M * M + A * L * L * M - B * L * L * L = M * M * M * (1 + A * α * α + B * α * α * α) := by rw [hL]; grind
  have p4 : 2 * A * L * M - 3 * B * L * L = -(M * M) * (2 * A * α + 3 * B * α * α) := by rw [hL]; grind
  clear hA hB
  generalize hZ : L * X3 + M = Z at *
  generalize hU : 1 + A * α * α + B * α * α * α = U at *
  generalize hW : 2 * A * α + 3 * B * α * α = W at *
  have hW' : 2 * A * α * β + 3 * B * α * α * β = W * β := by grind
  rw [hW'] at ht
  clear hW' hU hW
  have q0 : ∀ x : Rat, x = (s1 * s2) * (x * Y1 * Y2) := fun x => by
    have : (s1 * s2) * (x * Y1 * Y2) = (s1 * Y1) * (s2 * Y2) * x := by grind
    rw [this, h1, h2]; grind
  have q1 : Z = M * M * M * U * (s1 * s2) := by
    rw [← p3, ← p1]
    exact h_q1 (q0 Z)
  have q2 : X3 = -(M * M) * W * (s1 * s2) - (X1 * s1) * Z - (X2 * s2) * Z := by
    rw [← p4, ← p2]
    exact h_q2 h1 h2
  have q3 : W * β * V * Z = M * M * W * (s1 * s2) := by
    rw [q1]
    have : W * β * V * (M * M * M * U * (s1 * s2)) = (V * U) * (β * M) * (M * M * W * (s1 * s2)) := by grind
    rw [this, hV, hbm]; grind
  have q4 : X3 = t3 * Y3 := by
    rw [ht]; grind
  refine ⟨q4, ?_⟩
  have : (α * t3 - β) * Y3 = α * X3 - β * Y3 := by rw [q4]; grind
  rw [this]
  have : β * Y3 = - (β * Z) := by grind
  rw [this, ← hZ]
  grind
end

theorem line_pt {X Y L M α β : Rat} (h : 1 = α * X + β * Y) (hbm : β * M = 1) (hLb : L * β = -α) : Y = L * X + M := by grind
theorem curve_ts {A B X Y s : Rat} (hc : Y * Y = X * X * X + A * X + B) (h : s * Y = 1) : s = (X * s) * (X * s) * (X * s) + A * (X * s) * s * s + B * s * s * s := by
  have e : s * s * s * (Y * Y) = (X * s) * (X * s) * (X * s) + A * (X * s) * s * s + B * s * s * s := by rw [hc]; grind
  rw [← e]
  grind
theorem diff_ts {A B t1 s1 t2 s2 : Rat} (h1 : s1 = t1*t1*t1 + A*t1*s1*s1 + B*s1*s1*s1) (h2 : s2 = t2*t2*t2 + A*t2*s2*s2 + B*s2*s2*s2) :
  (s2 - s1) * (1 - A*t1*(s1+s2) - B*(s1*s1+s1*s2+s2*s2)) = (t2 - t1) * (t1*t1+t1*t2+t2*t2+A*s2*s2) := by grind
def Slope (A X1 Y1 X2 Y2 L : Rat) : Prop := (X1 ≠ X2 ∧ L * (X2 - X1) = Y2 - Y1) ∨ (X1 = X2 ∧ Y1 = Y2 ∧ 2 * Y1 * L = 3 * X1 * X1 + A)
theorem Slope.A {A B X1 Y1 X2 Y2 L : Rat} (c1 : Y1 * Y1 = X1 * X1 * X1 + A * X1 + B) (c2 : Y2 * Y2 = X2 * X2 * X2 + A * X2 + B) (h : Slope A X1 Y1 X2 Y2 L) :
    A = X1 * X2 + (X1 + X2) * (L * L - X1 - X2) + 2 * L * (Y1 - L * X1) := by
  rcases h with ⟨hne, hl⟩ | ⟨rfl, rfl, hl⟩
  · have : (X2 - X1) * (A - (X1 * X2 + (X1 + X2) * (L * L - X1 - X2) + 2 * L * (Y1 - L * X1))) = 0 := by grind
    rcases Rat.mul_eq_zero.1 this with h | h
    · exact absurd (by grind) hne
    · grind
  · grind
def Ker (e : Int) (X Y τ σ : Rat) : Prop := In e τ ∧ In e σ ∧ ((e : Rat) * e * e * σ) * Y = 1 ∧ X * ((e : Rat) * e * e * σ) = e * τ
theorem inv_uniq {a b y : Rat} (h : a * y = 1) (h2 : b * y = 1) : a = b := by
  have : a * (b * y) = b * (a * y) := by grind
  rw [h, h2] at this
  simpa using this
theorem kstep {e A B : Int} {X1 Y1 X2 Y2 L X3 Y3 τ1 σ1 τ2 σ2 : Rat} (he : 2 ≤ e) (c1 : Y1 * Y1 = X1 * X1 * X1 + A * X1 + B) (c2 : Y2 * Y2 = X2 * X2 * X2 + A * X2 + B)
    (k1 : Ker e X1 Y1 τ1 σ1) (k2 : Ker e X2 Y2 τ2 σ2) (hL : Slope A X1 Y1 X2 Y2 L) (h3 : X3 = L * L - X1 - X2) (y3 : Y3 = L * (X1 - X3) - Y1) :
    ∃ τ3 σ3 w, Ker e X3 Y3 τ3 σ3 ∧ In e w ∧ τ3 = τ1 + τ2 + (e : Rat) * e * e * e * w := by
  obtain ⟨i1, j1, s1, t1⟩ := k1
  obtain ⟨i2, j2, s2, t2⟩ := k2
  have iA := In.int e A
  have iB := In.int e B
  have ie := In.int e e
  have hA := hL.A c1 c2
  have d1 := curve_ts c1 s1
  have d2 := curve_ts c2 s2
  have hd := diff_ts d1 d2
  have hu : In e (-((e : Rat) * e * e * A * τ1 * (σ1 + σ2)) - (e : Rat) * e * e * e * e * B * (σ1 * σ1 + σ1 * σ2 + σ2 * σ2)) :=
    (((((ie.mul ie).mul ie).mul iA).mul i1).mul (j1.add j2)).neg.sub ((((((ie.mul ie).mul ie).mul ie).mul ie).mul iB).mul (((j1.mul j1).add (j1.mul j2)).add (j2.mul j2)))
  obtain ⟨v, hv, iv⟩ := hu.unit he
  obtain ⟨a', ha'⟩ : ∃ a', a' = v * (τ1 * τ1 + τ1 * τ2 + τ2 * τ2 + (e : Rat) * e * e * e * A * σ2 * σ2) := ⟨_, rfl⟩
  have ia : In e a' := by
    rw [ha']
    exact iv.mul ((((i1.mul i1).add (i1.mul i2)).add (i2.mul i2)).add ((((((ie.mul ie).mul ie).mul ie).mul iA).mul j2).mul j2))
  obtain ⟨b', hb'⟩ : ∃ b', b' = σ1 - a' * τ1 := ⟨_, rfl⟩
  have ib : In e b' := by rw [hb']; exact j1.sub (ia.mul i1)
  have hu2 : In e ((e : Rat) * e * e * A * a' * a' + (e : Rat) * e * e * e * e * B * a' * a' * a') :=
    (((((ie.mul ie).mul ie).mul iA).mul ia).mul ia).add (((((((ie.mul ie).mul ie).mul ie).mul ie).mul iB).mul ia).mul ia |>.mul ia)
  obtain ⟨V, hV, iV⟩ := hu2.unit he
  obtain ⟨w, hw⟩ : ∃ w, w = (2 * (A : Rat) * a' * b' + 3 * (B : Rat) * (e * e) * (a' * a') * b') * V := ⟨_, rfl⟩
  have iw : In e w := by
    rw [hw]
    have i2' : In e 2 := In.int e 2
    have i3' : In e 3 := In.int e 3
    exact ((((i2'.mul iA).mul ia).mul ib).add ((((i3'.mul iB).mul (ie.mul ie)).mul (ia.mul ia)).mul ib)).mul iV
  have ie4 : In e ((e : Rat) * e * e * e * w) := (((ie.mul ie).mul ie).mul ie).mul iw
  have ne : (e : Rat) ≠ 0 := by
    intro h0
    have : e = 0 := by exact_mod_cast h0
    omega
  clear ie iA iB hu hu2
  unfold Ker
  generalize (e : Rat) = E at *
  generalize (A : Rat) = A at *
  generalize (B : Rat) = B at *
  obtain ⟨α, hα⟩ : ∃ α, α = E * E * a' := ⟨_, rfl⟩
  obtain ⟨β, hβ⟩ : ∃ β, β = E * E * E * b' := ⟨_, rfl⟩
  have hD : (1 : Rat) - A*(X1*(E*E*E*σ1))*(E*E*E*σ1 + E*E*E*σ2) - B*((E*E*E*σ1)*(E*E*E*σ1)+(E*E*E*σ1)*(E*E*E*σ2)+(E*E*E*σ2)*(E*E*E*σ2)) = 1 + E * (-(E * E * E * A * τ1 * (σ1 + σ2)) - E * E * E * E * E * B * (σ1 * σ1 + σ1 * σ2 + σ2 * σ2)) := by
    rw [t1]; grind
  have hb : β = E*E*E*σ1 - α * (X1 * (E*E*E*σ1)) := by rw [t1, hβ, hα, hb']; grind
  have hN : α = v * ((X1*(E*E*E*σ1))*(X1*(E*E*E*σ1)) + (X1*(E*E*E*σ1))*(X2*(E*E*E*σ2)) + (X2*(E*E*E*σ2))*(X2*(E*E*E*σ2)) + A*(E*E*E*σ2)*(E*E*E*σ2)) := by
    rw [t1, t2, hα, ha']; grind
  rw [hD] at hd
  have hDD : (1 : Rat) + E * (-(E * E * E * A * τ1 * (σ1 + σ2)) - E * E * E * E * E * B * (σ1 * σ1 + σ1 * σ2 + σ2 * σ2)) ≠ 0 := by
    intro h0; rw [h0] at hv; simp at hv
  generalize hQ : (1 : Rat) + E * (-(E * E * E * A * τ1 * (σ1 + σ2)) - E * E * E * E * E * B * (σ1 * σ1 + σ1 * σ2 + σ2 * σ2)) = Q at *
  have hs : E*E*E*σ2 - E*E*E*σ1 = α * (X2 * (E*E*E*σ2) - X1 * (E*E*E*σ1)) := by
    generalize E*E*E*σ2 - E*E*E*σ1 = z at *
    have : z = v * (z * Q) := by
      have : v * (z * Q) = v * Q * z := by grind
      rw [this, hv]; grind
    rw [this, hd, hN]; grind
  have hsl : β ≠ 0 ∧ L * β = -α := by
    rcases hL with ⟨hne, hl⟩ | ⟨hx, hy, hl⟩
    · exact slope_chord s1 s2 hs hb hne hl
    · subst hx; subst hy
      have hss : E*E*E*σ2 = E*E*E*σ1 := inv_uniq s2 s1
      rw [hss] at hD hN
      refine slope_tan (A := A) (B := B) c1 s1 hl Q ?_ ?_ hb hDD
      · rw [← hD]; grind
      · rw [hN]
        generalize E*E*E*σ1 = s at *
        have : v * (X1 * s * (X1 * s) + X1 * s * (X1 * s) + X1 * s * (X1 * s) + A * s * s) * Q = (v * Q) * (3 * (X1 * s) * (X1 * s) + A * s * s) := by grind
        rw [this, hv]; grind
  obtain ⟨hb0, hLb⟩ := hsl
  obtain ⟨l1, l2⟩ := beta_chord s1 s2 hs hb
  have hbm : β * β⁻¹ = 1 := Rat.mul_inv_cancel _ hb0
  have y1 := line_pt l1 hbm hLb
  have y2 := line_pt l2 hbm hLb
  have hM : β⁻¹ = Y1 - L * X1 := by rw [y1]; grind
  have hA2 : A = X1 * X2 + (X1 + X2) * (L * L - X1 - X2) + 2 * L * β⁻¹ := by rw [hM]; exact hA
  have hB2 : B = β⁻¹ * β⁻¹ - X1 * X2 * (L * L - X1 - X2) := by
    have : B = Y1 * Y1 - X1 * X1 * X1 - A * X1 := by rw [c1]; grind
    rw [this, hA, hM]; grind
  have hV2 : V * (1 + A * α * α + B * α * α * α) = 1 := by
    rw [← hV, hα]
    congr 1
    grind
  obtain ⟨r1, r2⟩ := third_ts (t3 := X1 * (E*E*E*σ1) + X2 * (E*E*E*σ2) + (2 * A * α * β + 3 * B * α * α * β) * V) s1 s2 hbm hLb y1 y2 hA2 hB2 h3 y3 hV2 rfl
  have ht : X1 * (E*E*E*σ1) + X2 * (E*E*E*σ2) + (2 * A * α * β + 3 * B * α * α * β) * V = E * (τ1 + τ2 + E * E * E * E * w) := by
    rw [t1, t2, hw, hα, hβ]; grind
  rw [ht] at r1 r2
  have i3 : In e (τ1 + τ2 + E * E * E * E * w) := (i1.add i2).add ie4
  have hsg : E * E * E * (a' * (τ1 + τ2 + E * E * E * E * w) - b') = α * (E * (τ1 + τ2 + E * E * E * E * w)) - β := by rw [hα, hβ]; grind
  refine ⟨_, a' * (τ1 + τ2 + E * E * E * E * w) - b', w, ⟨i3, (ia.mul i3).sub ib, ?_, ?_⟩, iw, rfl⟩
  · rw [hsg]; exact r2
  · rw [hsg]
    generalize α * (E * (τ1 + τ2 + E * E * E * E * w)) - β = q at *
    generalize E * (τ1 + τ2 + E * E * E * E * w) = r at *
    rw [r1]
    have : r * Y3 * q = r * (q * Y3) := by grind
    rw [this, r2]; grind
end LN
end
section
set_option linter.unusedVariables false
set_option maxHeartbeats 1000000
namespace LN

def Add (A X1 Y1 X2 Y2 X3 Y3 : Rat) : Prop := ∃ L, Slope A X1 Y1 X2 Y2 L ∧ X3 = L * L - X1 - X2 ∧ Y3 = L * (X1 - X3) - Y1
theorem rq {A B X0 Y0 XR YR XS m : Rat} (c0 : Y0 * Y0 = X0 * X0 * X0 + A * X0 + B) (cR : YR * YR = XR * XR * XR + A * XR + B) (hne : XR ≠ X0) (hm : m * (X0 - XR) = Y0 - YR) (hS : XS = m * m - XR - X0) :
    (XR - X0) * (XS - X0) = 3 * X0 * X0 + A - 2 * m * Y0 := by
  have hA := Slope.A cR c0 (Or.inl ⟨hne, hm⟩)
  have h2 : YR - m * XR = Y0 - m * X0 := by grind
  rw [h2] at hA
  rw [hA, hS]; grind
section
variable {A X0 m u v q : Rat}
theorem as1 {XR XQ XT YR Y0 k n L q : Rat} (hX : 3 * X0 = m * m - u * v - q) (hb : q * v = 2 * Y0) (hR : XR = X0 + u * v) (hk : k = m + u) (hn : n = -m - v) (hL : L = m + n - k) (hQ : XQ = k * k - X0 - X0) (hT : XT = n * n - (X0 + q) - X0) :
  XT = L * L - XR - XQ := by
  have : q = m * m - u * v - 3 * X0 := by grind
  subst this; subst hk; subst hn; subst hL; subst hR; subst hQ; subst hT
  grind
theorem as2 {XR XQ XT YR YQ Y0 k n L q : Rat} (hX : 3 * X0 = m * m - u * v - q) (hb : q * v = 2 * Y0) (hR : XR = X0 + u * v) (hyR : YR = m * (u * v) + Y0) (hk : k = m + u) (hn : n = -m - v) (hL : L = m + n - k) (hQ : XQ = k * k - X0 - X0) (hyQ : YQ = k * (X0 - XQ) - Y0) :
  L * (XQ - XR) = YQ - YR := by
  have : q = m * m - u * v - 3 * X0 := by grind
  subst this
  have : Y0 = (m * m - u * v - 3 * X0) * v * (1/2) := by grind
  subst this; subst hk; subst hn; subst hL; subst hR; subst hQ; subst hyR; subst hyQ
  grind
theorem as3 {XR XQ XT YR YQ Y0 k n L q : Rat} (hX : 3 * X0 = m * m - u * v - q) (hb : q * v = 2 * Y0) (hA : 3 * X0 * X0 + A = q * v * (m + u)) (hR : XR = X0 + u * v) (hyR : YR = m * (u * v) + Y0) (hk : k = m + u) (hn : n = -m - v) (hL : L = m + n - k) (hQ : XQ = k * k - X0 - X0) (hyQ : YQ = k * (X0 - XQ) - Y0) :
  L * (YR + YQ) = XR * XR + XR * XQ + XQ * XQ + A := by
  have : q = m * m - u * v - 3 * X0 := by grind
  subst this
  have : Y0 = (m * m - u * v - 3 * X0) * v * (1/2) := by grind
  subst this
  have : A = (m * m - u * v - 3 * X0) * v * (m + u) - 3 * X0 * X0 := by grind
  subst this; subst hk; subst hn; subst hL; subst hR; subst hQ; subst hyR; subst hyQ
  grind
theorem as4 {XR XT YR YT YS Y0 k n L q : Rat} (hX : 3 * X0 = m * m - u * v - q) (hb : q * v = 2 * Y0) (hR : XR = X0 + u * v) (hyR : YR = m * (u * v) + Y0) (hk : k = m + u) (hn : n = -m - v) (hL : L = m + n - k) (hyS : YS = m * (XR - (X0 + q)) - YR) (hT : XT = n * n - (X0 + q) - X0) (hyT : YT = n * (X0 + q - XT) - YS) :
  YT = L * (XR - XT) - YR := by
  have : q = m * m - u * v - 3 * X0 := by grind
  subst this
  have : Y0 = (m * m - u * v - 3 * X0) * v * (1/2) := by grind
  subst this; subst hk; subst hn; subst hL; subst hR; subst hT; subst hyR; subst hyS; subst hyT
  grind
end
theorem assoc {A B X0 Y0 XR YR XS YS XT YT XQ YQ : Rat} (c0 : Y0 * Y0 = X0 * X0 * X0 + A * X0 + B) (cR : YR * YR = XR * XR * XR + A * XR + B) (h0 : Y0 ≠ 0) (hne : XR ≠ X0)
    (aS : Add A XR YR X0 Y0 XS YS) (aT : Add A XS YS X0 Y0 XT YT) (aQ : Add A X0 Y0 X0 Y0 XQ YQ) : Add A XR YR XQ YQ XT YT := by
  obtain ⟨m, hm, hS, yS⟩ := aS
  obtain ⟨n, hn, hT, yT⟩ := aT
  obtain ⟨k, hk, hQ, yQ⟩ := aQ
  rcases hm with ⟨_, hm⟩ | ⟨h, _⟩
  rotate_left
  · exact absurd h hne
  rcases hk with ⟨h, _⟩ | ⟨_, _, hk⟩
  · exact absurd rfl h
  have hrq := rq c0 cR hne hm hS
  rcases hn with ⟨hqn, hn⟩ | ⟨h1, h2, _⟩
  rotate_left
  · exfalso
    apply h0
    rw [h1] at yS
    grind
  obtain ⟨u, hu⟩ : ∃ u, u = k - m := ⟨_, rfl⟩
  obtain ⟨v, hv⟩ : ∃ v, v = -(n + m) := ⟨_, rfl⟩
  obtain ⟨q, hq⟩ : ∃ q, q = XS - X0 := ⟨_, rfl⟩
  have hq0 : q ≠ 0 := by intro h; apply hqn; grind
  have hb : q * v = 2 * Y0 := by rw [hv, hq]; grind
  have h2u : 2 * Y0 * u = (XR - X0) * q := by rw [hu, hq, hrq]; grind
  have hr : XR - X0 = u * v := by
    have : q * (XR - X0 - u * v) = 0 := by grind
    rcases Rat.mul_eq_zero.1 this with h | h
    · exact absurd h hq0
    · grind
  have hX : 3 * X0 = m * m - u * v - q := by rw [← hr, hq, hS]; grind
  have hA : 3 * X0 * X0 + A = q * v * (m + u) := by rw [hb, hu, ← hk]; grind
  have hR : XR = X0 + u * v := by grind
  have hyR : YR = m * (u * v) + Y0 := by rw [← hr]; grind
  have hkk : k = m + u := by grind
  have hnn : n = -m - v := by grind
  have hSq : XS = X0 + q := by grind
  rw [hSq] at hT yT yS
  have L1 := as2 (XT := XT) hX hb hR hyR hkk hnn rfl hQ yQ
  have L2 := as3 (XT := XT) hX hb hA hR hyR hkk hnn rfl hQ yQ
  have L3 := as1 (YR := YR) hX hb hR hkk hnn rfl hQ hT
  have L4 := as4 hX hb hR hyR hkk hnn rfl yS hT yT
  refine ⟨m + n - k, ?_, L3, L4⟩
  by_cases hx : XR = XQ
  · have hy : YR = YQ := by rw [← hx] at L1; grind
    refine Or.inr ⟨hx, hy, ?_⟩
    rw [← hx, ← hy] at L2; grind
  · exact Or.inl ⟨hx, L1⟩
theorem cancel {A B X0 Y0 XR YR XQ YQ : Rat} (c0 : Y0 * Y0 = X0 * X0 * X0 + A * X0 + B) (cR : YR * YR = XR * XR * XR + A * XR + B) (h0 : Y0 ≠ 0) (hne : XR ≠ X0)
    (aS : Add A XR YR X0 Y0 X0 (-Y0)) (aQ : Add A X0 Y0 X0 Y0 XQ YQ) : XR = XQ ∧ YR = -YQ := by
  obtain ⟨m, hm, hS, yS⟩ := aS
  obtain ⟨k, hk, hQ, yQ⟩ := aQ
  rcases hm with ⟨_, hm⟩ | ⟨h, _⟩
  rotate_left
  · exact absurd h hne
  rcases hk with ⟨h, _⟩ | ⟨_, _, hk⟩
  · exact absurd rfl h
  have hrq := rq c0 cR hne hm hS
  have hkm : k = m := by
    have : 2 * Y0 * (k - m) = 0 := by grind
    rcases Rat.mul_eq_zero.1 this with h | h
    · exact absurd (by grind) h0
    · grind
  subst hkm
  constructor <;> grind
end LN
end
end Go.Proofs.Ytbnglnbcfabmgaa
