/- Lemmas and contracts of functions. No condition. -/
import Derived.Test.YtnkmgpmehkholaaGreatPq46
import Derived.Test.YtnkmgpmehkholaaGreatPq49
namespace Go.Proofs.YtnkmgpmehkholaaGreat
open Go.RowKit
set_option linter.unusedVariables false
set_option linter.unusedSimpArgs false
set_option maxHeartbeats 4000000
/-- a span less another, the flag kept -/
def mnV (f : Bool) (a b l u : Int) : Bool := f && validB (a - u) (b - l)
def mnA (f : Bool) (a b l u : Int) : Int := kpV (mnV f a b l u) (a - u)
def mnB (f : Bool) (a b l u : Int) : Int := kpV (mnV f a b l u) (b - l)
/-- the sum of the heights of sum and difference -/
def guV (k1 k2 k3 k4 : Bool) (l3 u3 l4 u4 : Int) : Bool := (((k1 && k2) && k3) && k4) && validB (kpV ((k1 && k2) && k3) l3 + kpV (((k1 && k2) && k3) && k4) l4) (kpV ((k1 && k2) && k3) u3 + kpV (((k1 && k2) && k3) && k4) u4)
def guA (k1 k2 k3 k4 : Bool) (l3 u3 l4 u4 : Int) : Int := kpV (guV k1 k2 k3 k4 l3 u3 l4 u4) (kpV ((k1 && k2) && k3) l3 + kpV (((k1 && k2) && k3) && k4) l4)
def guB (k1 k2 k3 k4 : Bool) (l3 u3 l4 u4 : Int) : Int := kpV (guV k1 k2 k3 k4 l3 u3 l4 u4) (kpV ((k1 && k2) && k3) u3 + kpV (((k1 && k2) && k3) && k4) u4)
/-- the state of the last loop: k spans taken off -/
structure G3 where
  f : Bool
  a : Int
  b : Int
def gmS (s : G3) (l u : Int) : G3 := ⟨mnV s.f s.a s.b l u, mnA s.f s.a s.b l u, mnB s.f s.a s.b l u⟩
def gmK (s : G3) (la ua lb ub : Int) : Nat → G3
  | 0 => s
  | k + 1 => if k % 2 = 0 then gmS (gmK s la ua lb ub k) la ua else gmS (gmK s la ua lb ub k) lb ub
theorem gm_bd (s : G3) (l u : Int) : (-409600000 ≤ (gmS s l u).a ∧ (gmS s l u).a ≤ 409600000) ∧ (-409600000 ≤ (gmS s l u).b ∧ (gmS s l u).b ≤ 409600000) := by
  unfold gmS mnA mnB mnV
  exact kp_valid _ _ _
theorem gu_bd (k1 k2 k3 k4 : Bool) (l3 u3 l4 u4 : Int) : (-409600000 ≤ guA k1 k2 k3 k4 l3 u3 l4 u4 ∧ guA k1 k2 k3 k4 l3 u3 l4 u4 ≤ 409600000) ∧ (-409600000 ≤ guB k1 k2 k3 k4 l3 u3 l4 u4 ∧ guB k1 k2 k3 k4 l3 u3 l4 u4 ≤ 409600000) := by
  unfold guA guB guV
  exact kp_valid _ _ _
theorem gmK_bd (s : G3) (hs : (-409600000 ≤ s.a ∧ s.a ≤ 409600000) ∧ (-409600000 ≤ s.b ∧ s.b ≤ 409600000)) (la ua lb ub : Int) : ∀ k, (-409600000 ≤ (gmK s la ua lb ub k).a ∧ (gmK s la ua lb ub k).a ≤ 409600000) ∧ (-409600000 ≤ (gmK s la ua lb ub k).b ∧ (gmK s la ua lb ub k).b ≤ 409600000)
  | 0 => hs
  | k + 1 => by
    unfold gmK
    split
    · exact gm_bd _ _ _
    · exact gm_bd _ _ _
def guS (k1 k2 k3 k4 : Bool) (l3 u3 l4 u4 : Int) : G3 := ⟨guV k1 k2 k3 k4 l3 u3 l4 u4, guA k1 k2 k3 k4 l3 u3 l4 u4, guB k1 k2 k3 k4 l3 u3 l4 u4⟩
/-- the program's last span -/
def guL (k1 k2 k3 k4 : Bool) (l1 u1 l2 u2 l3 u3 l4 u4 : Int) : G3 := gmK (guS k1 k2 k3 k4 l3 u3 l4 u4) (kpV k1 l1) (kpV k1 u1) (kpV (k1 && k2) l2) (kpV (k1 && k2) u2) 4
theorem gu_spec (k1 k2 k3 k4 : Bool) (l1 u1 l2 u2 l3 u3 l4 u4 : Int) :
    (if (k3 && k4) = true then (if validB (l3 + l4) (u3 + u4) = true then
      (if (k1 && validB (l3 + l4 - u1) (u3 + u4 - l1)) = true then (if (k2 && validB (l3 + l4 - u1 - u2) (u3 + u4 - l1 - l2)) = true then
        (if (k1 && validB (l3 + l4 - u1 - u2 - u1) (u3 + u4 - l1 - l2 - l1)) = true then (if (k2 && validB (l3 + l4 - u1 - u2 - u1 - u2) (u3 + u4 - l1 - l2 - l1 - l2)) = true then mk5 (l3 + l4 - u1 - u2 - u1 - u2) (u3 + u4 - l1 - l2 - l1 - l2) else ivZ) else ivZ) else ivZ) else ivZ) else ivZ) else ivZ) =
      if (guL k1 k2 k3 k4 l1 u1 l2 u2 l3 u3 l4 u4).f = true then mk5 (guL k1 k2 k3 k4 l1 u1 l2 u2 l3 u3 l4 u4).a (guL k1 k2 k3 k4 l1 u1 l2 u2 l3 u3 l4 u4).b else ivZ := by
  cases k1
  · have e : (guL false k2 k3 k4 l1 u1 l2 u2 l3 u3 l4 u4).f = false := by simp [guL, gmK, gmS, guS, mnV, guV]
    rw [if_neg (show ¬ (guL false k2 k3 k4 l1 u1 l2 u2 l3 u3 l4 u4).f = true by rw [e]; simp)]
    simp only [Bool.false_and, if_neg (show ¬ (false = true) by simp), ite_self]
  cases k2
  · have e : (guL true false k3 k4 l1 u1 l2 u2 l3 u3 l4 u4).f = false := by simp [guL, gmK, gmS, guS, mnV, guV]
    rw [if_neg (show ¬ (guL true false k3 k4 l1 u1 l2 u2 l3 u3 l4 u4).f = true by rw [e]; simp)]
    simp only [Bool.false_and, if_neg (show ¬ (false = true) by simp), ite_self]
  cases k3
  · have e : (guL true true false k4 l1 u1 l2 u2 l3 u3 l4 u4).f = false := by simp [guL, gmK, gmS, guS, mnV, guV]
    rw [if_neg (show ¬ (guL true true false k4 l1 u1 l2 u2 l3 u3 l4 u4).f = true by rw [e]; simp)]
    simp only [Bool.false_and, if_neg (show ¬ (false = true) by simp)]
  cases k4
  · have e : (guL true true true false l1 u1 l2 u2 l3 u3 l4 u4).f = false := by simp [guL, gmK, gmS, guS, mnV, guV]
    rw [if_neg (show ¬ (guL true true true false l1 u1 l2 u2 l3 u3 l4 u4).f = true by rw [e]; simp)]
    simp only [Bool.and_false, if_neg (show ¬ (false = true) by simp)]
  have k0 : ∀ x, kpV true x = x := fun x => by simp [kpV]
  have hg : guS true true true true l3 u3 l4 u4 = ⟨validB (l3 + l4) (u3 + u4), kpV (validB (l3 + l4) (u3 + u4)) (l3 + l4), kpV (validB (l3 + l4) (u3 + u4)) (u3 + u4)⟩ := by
    simp only [guS, guV, guA, guB, Bool.and_self, Bool.true_and, k0]
  have step : ∀ (v : Bool) (a b l u : Int), gmS ⟨v, kpV v a, kpV v b⟩ l u = ⟨v && validB (a - u) (b - l), kpV (v && validB (a - u) (b - l)) (a - u), kpV (v && validB (a - u) (b - l)) (b - l)⟩ := by
    intro v a b l u
    cases v
    · simp [gmS, mnV, mnA, mnB, kpV]
    · simp only [gmS, mnV, mnA, mnB, k0]
  have hL : guL true true true true l1 u1 l2 u2 l3 u3 l4 u4 = ⟨(((validB (l3 + l4) (u3 + u4) && validB (l3 + l4 - u1) (u3 + u4 - l1)) && validB (l3 + l4 - u1 - u2) (u3 + u4 - l1 - l2)) && validB (l3 + l4 - u1 - u2 - u1) (u3 + u4 - l1 - l2 - l1)) && validB (l3 + l4 - u1 - u2 - u1 - u2) (u3 + u4 - l1 - l2 - l1 - l2),
      kpV ((((validB (l3 + l4) (u3 + u4) && validB (l3 + l4 - u1) (u3 + u4 - l1)) && validB (l3 + l4 - u1 - u2) (u3 + u4 - l1 - l2)) && validB (l3 + l4 - u1 - u2 - u1) (u3 + u4 - l1 - l2 - l1)) && validB (l3 + l4 - u1 - u2 - u1 - u2) (u3 + u4 - l1 - l2 - l1 - l2)) (l3 + l4 - u1 - u2 - u1 - u2),
      kpV ((((validB (l3 + l4) (u3 + u4) && validB (l3 + l4 - u1) (u3 + u4 - l1)) && validB (l3 + l4 - u1 - u2) (u3 + u4 - l1 - l2)) && validB (l3 + l4 - u1 - u2 - u1) (u3 + u4 - l1 - l2 - l1)) && validB (l3 + l4 - u1 - u2 - u1 - u2) (u3 + u4 - l1 - l2 - l1 - l2)) (u3 + u4 - l1 - l2 - l1 - l2)⟩ := by
    have g4 : ∀ (s : G3) (la ua lb ub : Int), gmK s la ua lb ub 4 = gmS (gmS (gmS (gmS s la ua) lb ub) la ua) lb ub := fun s la ua lb ub => rfl
    unfold guL
    rw [g4, hg, Bool.and_self]
    simp only [k0]
    rw [step, step, step, step]
  rw [hL]
  simp only [Bool.and_self, Bool.true_and, if_pos]
  generalize validB (l3 + l4) (u3 + u4) = v1
  generalize validB (l3 + l4 - u1) (u3 + u4 - l1) = v2
  generalize validB (l3 + l4 - u1 - u2) (u3 + u4 - l1 - l2) = v3
  generalize validB (l3 + l4 - u1 - u2 - u1) (u3 + u4 - l1 - l2 - l1) = v4
  generalize validB (l3 + l4 - u1 - u2 - u1 - u2) (u3 + u4 - l1 - l2 - l1 - l2) = v5
  cases v1 <;> cases v2 <;> cases v3 <;> cases v4 <;> cases v5 <;> simp [kpV]
theorem gp_prog {A B x1 y1 e1 x2 y2 e2 s1 s3 t1 t3 : Int} :
    gpH A B s1 s3 t1 t3 x1 y1 e1 x2 y2 e2 = if (guL (BK A B x1 e1) (BK A B x2 e2) (BK A B s1 s3) (BK A B t1 t3) (BL A B x1 e1) (BH A B x1 e1) (BL A B x2 e2) (BH A B x2 e2) (BL A B s1 s3) (BH A B s1 s3) (BL A B t1 t3) (BH A B t1 t3)).f = true then
      mk5 (guL (BK A B x1 e1) (BK A B x2 e2) (BK A B s1 s3) (BK A B t1 t3) (BL A B x1 e1) (BH A B x1 e1) (BL A B x2 e2) (BH A B x2 e2) (BL A B s1 s3) (BH A B s1 s3) (BL A B t1 t3) (BH A B t1 t3)).a (guL (BK A B x1 e1) (BK A B x2 e2) (BK A B s1 s3) (BK A B t1 t3) (BL A B x1 e1) (BH A B x1 e1) (BL A B x2 e2) (BH A B x2 e2) (BL A B s1 s3) (BH A B s1 s3) (BL A B t1 t3) (BH A B t1 t3)).b
    else ivZ := by
  rw [← gu_spec]
  unfold gpH
  simp only [lsF]
  rfl
theorem gm_valid {s : G3} {la ua lb ub : Int} {k : Nat} (h : (gmK s la ua lb ub (k + 1)).f = true) : validB (gmK s la ua lb ub (k + 1)).a (gmK s la ua lb ub (k + 1)).b = true := by
  unfold gmK at h ⊢
  split at h
  · rename_i hk
    rw [if_pos hk]
    unfold gmS mnA mnB at *
    simp only at h ⊢
    rw [h]
    unfold mnV at h
    rw [Bool.and_eq_true] at h
    simpa [kpV] using h.2
  · rename_i hk
    rw [if_neg hk]
    unfold gmS mnA mnB at *
    simp only at h ⊢
    rw [h]
    unfold mnV at h
    rw [Bool.and_eq_true] at h
    simpa [kpV] using h.2
end Go.Proofs.YtnkmgpmehkholaaGreat
