/- Lemmas and contracts of functions. No condition. -/
import Derived.Test.YtnkmgpmehkholaaGreatPk47
import Derived.Test.YtnkmgpmehkholaaGreatPk50
namespace Go.Proofs.YtnkmgpmehkholaaGreat
open Go.RowKit
set_option linter.unusedVariables false
set_option linter.unusedSimpArgs false
/-- the flag behind the first difference, and its two ends -/
def d1V (k1 k2 : Bool) (l1 h1 l2 h2 : Int) : Bool := (k1 && k2) && validB (kpV k1 l1 - kpV (k1 && k2) h2) (kpV k1 h1 - kpV (k1 && k2) l2)
def d1A (k1 k2 : Bool) (l1 h1 l2 h2 : Int) : Int := kpV (d1V k1 k2 l1 h1 l2 h2) (kpV k1 l1 - kpV (k1 && k2) h2)
def d1B (k1 k2 : Bool) (l1 h1 l2 h2 : Int) : Int := kpV (d1V k1 k2 l1 h1 l2 h2) (kpV k1 h1 - kpV (k1 && k2) l2)
/-- the flag behind the second difference, and its two ends -/
def d2V (k1 k2 k3 : Bool) (l1 h1 l2 h2 l3 h3 : Int) : Bool := (d1V k1 k2 l1 h1 l2 h2 && k3) && validB (d1A k1 k2 l1 h1 l2 h2 - kpV (d1V k1 k2 l1 h1 l2 h2 && k3) h3) (d1B k1 k2 l1 h1 l2 h2 - kpV (d1V k1 k2 l1 h1 l2 h2 && k3) l3)
def d2A (k1 k2 k3 : Bool) (l1 h1 l2 h2 l3 h3 : Int) : Int := kpV (d2V k1 k2 k3 l1 h1 l2 h2 l3 h3) (d1A k1 k2 l1 h1 l2 h2 - kpV (d1V k1 k2 l1 h1 l2 h2 && k3) h3)
def d2B (k1 k2 k3 : Bool) (l1 h1 l2 h2 l3 h3 : Int) : Int := kpV (d2V k1 k2 k3 l1 h1 l2 h2 l3 h3) (d1B k1 k2 l1 h1 l2 h2 - kpV (d1V k1 k2 l1 h1 l2 h2 && k3) l3)
theorem d2_spec (k1 k2 k3 : Bool) (l1 h1 l2 h2 l3 h3 : Int) :
    (if k1 = true then (if (k2 && validB (l1 - h2) (h1 - l2)) = true then (if (k3 && validB (l1 - h2 - h3) (h1 - l2 - l3)) = true then mk5 (l1 - h2 - h3) (h1 - l2 - l3) else ivZ) else ivZ) else ivZ) =
      if d2V k1 k2 k3 l1 h1 l2 h2 l3 h3 = true then mk5 (d2A k1 k2 k3 l1 h1 l2 h2 l3 h3) (d2B k1 k2 k3 l1 h1 l2 h2 l3 h3) else ivZ := by
  unfold d2A d2B d2V d1A d1B d1V kpV
  cases k1 <;> cases k2 <;> cases k3 <;> cases hv : validB (l1 - h2) (h1 - l2) <;> cases hv2 : validB (l1 - h2 - h3) (h1 - l2 - l3) <;> simp [hv, hv2]
theorem pr_prog {A B x1 y1 e1 x2 y2 e2 s1 s2 s3 : Int} (hs : ptS A x1 y1 e1 x2 y2 e2 = (s1, s2, s3, true)) :
    prV A B x1 y1 e1 x2 y2 e2 = if d2V (BK A B s1 s3) (BK A B x1 e1) (BK A B x2 e2) (BL A B s1 s3) (BH A B s1 s3) (BL A B x1 e1) (BH A B x1 e1) (BL A B x2 e2) (BH A B x2 e2) = true then
      mk5 (d2A (BK A B s1 s3) (BK A B x1 e1) (BK A B x2 e2) (BL A B s1 s3) (BH A B s1 s3) (BL A B x1 e1) (BH A B x1 e1) (BL A B x2 e2) (BH A B x2 e2)) (d2B (BK A B s1 s3) (BK A B x1 e1) (BK A B x2 e2) (BL A B s1 s3) (BH A B s1 s3) (BL A B x1 e1) (BH A B x1 e1) (BL A B x2 e2) (BH A B x2 e2))
    else ivZ := by
  rw [← d2_spec]
  unfold prV
  rw [hs]
  simp only [Bool.true_and, lsF]
  rfl
theorem pr_none {A B x1 y1 e1 x2 y2 e2 s1 s2 s3 : Int} (hs : ptS A x1 y1 e1 x2 y2 e2 = (s1, s2, s3, false)) : prV A B x1 y1 e1 x2 y2 e2 = ivZ := by
  unfold prV; rw [hs]; simp
/-- the ends lie within the grid -/
theorem d_bd (k1 k2 k3 : Bool) (l1 h1 l2 h2 l3 h3 : Int) : (-409600000 ≤ d1A k1 k2 l1 h1 l2 h2 ∧ d1A k1 k2 l1 h1 l2 h2 ≤ 409600000) ∧ (-409600000 ≤ d1B k1 k2 l1 h1 l2 h2 ∧ d1B k1 k2 l1 h1 l2 h2 ≤ 409600000) := by
  unfold d1A d1B d1V
  exact kp_valid _ _ _
end Go.Proofs.YtnkmgpmehkholaaGreat
