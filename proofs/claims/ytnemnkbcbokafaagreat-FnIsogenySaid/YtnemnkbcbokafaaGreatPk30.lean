/- Lemmas and contracts of functions. No condition. -/
import Derived.Test.YtnemnkbcbokafaaGreatPk25
namespace Go.Proofs.YtnemnkbcbokafaaGreat
open Go.RowKit
set_option linter.unusedVariables false
set_option maxHeartbeats 8000000
set_option maxRecDepth 20000
set_option linter.unusedSimpArgs false
abbrev Two3 := (Int × Int) × (Int × Int) × Bool
def z0 : Two3 := ((0, 0), (0, 0), false)
def gdV (g : Two3) (a b nx dx ny dy : Int) : Two3 := if (tcB a b && (frB nx dx && (frB ny dy && decide (nx ≠ 0)))) = true then g else z0
theorem gdV_cases (g : Two3) (a b nx dx ny dy : Int) : (tcB a b = false ∧ gdV g a b nx dx ny dy = z0) ∨ (tcB a b = true ∧ ((frB nx dx = false ∧ gdV g a b nx dx ny dy = z0) ∨ (frB nx dx = true ∧
    ((frB ny dy = false ∧ gdV g a b nx dx ny dy = z0) ∨ (frB ny dy = true ∧ ((nx = 0 ∧ gdV g a b nx dx ny dy = z0) ∨ (nx ≠ 0 ∧ gdV g a b nx dx ny dy = g))))))) := by
  unfold gdV
  cases tcB a b <;> cases frB nx dx <;> cases frB ny dy <;> by_cases h : nx = 0 <;> simp [h]
def imW (a b nx dx ny dy : Int) : Two3 := if ((onS a b nx dx ny dy).2 && ((onS a b nx dx ny dy).1 && (raT b nx dx ny dy).2.2)) = true then boT (raT b nx dx ny dy).1.1 (raT b nx dx ny dy).1.2 (raT b nx dx ny dy).2.1.1 (raT b nx dx ny dy).2.1.2 else z0
def hfT (rn rd sn sd : Int) : Two3 := if ((prF rn rd 1 2).2.2 && (prF sn sd 1 4).2.2) = true then boT (prF rn rd 1 2).1 (prF rn rd 1 2).2.1 (prF sn sd 1 4).1 (prF sn sd 1 4).2.1 else z0
def biW (a b nx dx ny dy : Int) : Two3 := if ((onS a b nx dx ny dy).2 && ((onS a b nx dx ny dy).1 && (raT b nx dx ny dy).2.2)) = true then hfT (raT b nx dx ny dy).1.1 (raT b nx dx ny dy).1.2 (raT b nx dx ny dy).2.1.1 (raT b nx dx ny dy).2.1.2 else z0
/-! ### what the program reckons -/
def imT (b nx dx ny dy : Int) : Two3 :=
  let rF := quF ny dy nx dx
  let rn := stN true rF
  let rd := stD true rF
  let v1 := true && rF.2.2
  let uF := prF rn rd rn rd
  let un := stN v1 uF
  let ud := stD v1 uF
  let v2 := v1 && uF.2.2
  let BF := mkF b 1
  let Bn := stN v2 BF
  let Bd := stD v2 BF
  let v3 := v2 && BF.2.2
  let qF := quF Bn Bd nx dx
  let qn := stN v3 qF
  let qd := stD v3 qF
  let v4 := v3 && qF.2.2
  let sF := diF qn qd nx dx
  let sn := stN v4 sF
  let sd := stD v4 sF
  let v5 := v4 && sF.2.2
  let tF := prF rn rd sn sd
  let tn := stN v5 tF
  let td := stD v5 tF
  let v6 := v5 && tF.2.2
  if v6 = true then ((un, ud), (tn, td), true) else z0
theorem im_eq (b nx dx ny dy : Int) (hb : -1000000000 ≤ b ∧ b ≤ 1000000000) : imT b nx dx ny dy = if (raT b nx dx ny dy).2.2 = true then boT (raT b nx dx ny dy).1.1 (raT b nx dx ny dy).1.2 (raT b nx dx ny dy).2.1.1 (raT b nx dx ny dy).2.1.2 else z0 := by
  unfold imT raT boT z0
  simp only [mkF_whole hb.1 hb.2]
  cases hr : (quF ny dy nx dx).2.2
  · simp [stN, stD, hr]
  · simp only [stN, stD, Bool.true_and, Bool.and_true, hr, if_true]
    generalize quF ny dy nx dx = r at *
    cases hu : (prF r.1 r.2.1 r.1 r.2.1).2.2
    · cases hq : (quF b 1 nx dx).2.2 <;> simp [hu, hq]
    · simp only [Bool.true_and, Bool.and_true, if_true]
      cases hq : (quF b 1 nx dx).2.2
      · simp [hq]
      · simp only [Bool.true_and, Bool.and_true, if_true, hq]
        generalize quF b 1 nx dx = q at *
        cases hs : (diF q.1 q.2.1 nx dx).2.2
        · simp [hs]
        · simp only [Bool.true_and, Bool.and_true, if_true, hs]
          generalize diF q.1 q.2.1 nx dx = s at *
          simp only [hu, Bool.true_and]
          cases ht : (prF r.1 r.2.1 s.1 s.2.1).2.2 <;> simp [ht]
theorem half_eq (n d : Int) : quF n d 2 1 = prF n d 1 2 := by simp [quF, prF]
theorem quarter_eq (n d : Int) : quF n d 4 1 = prF n d 1 4 := by simp [quF, prF]
def biT (b nx dx ny dy : Int) : Two3 :=
  let rF := quF ny dy nx dx
  let rn := stN true rF
  let rd := stD true rF
  let v1 := true && rF.2.2
  let WF := mkF 2 1
  let Wn := stN v1 WF
  let Wd := stD v1 WF
  let v2 := v1 && WF.2.2
  let hF := quF rn rd Wn Wd
  let hn := stN v2 hF
  let hd := stD v2 hF
  let v3 := v2 && hF.2.2
  let uF := prF hn hd hn hd
  let un := stN v3 uF
  let ud := stD v3 uF
  let v4 := v3 && uF.2.2
  let BF := mkF b 1
  let Bn := stN v4 BF
  let Bd := stD v4 BF
  let v5 := v4 && BF.2.2
  let qF := quF Bn Bd nx dx
  let qn := stN v5 qF
  let qd := stD v5 qF
  let v6 := v5 && qF.2.2
  let sF := diF qn qd nx dx
  let sn := stN v6 sF
  let sd := stD v6 sF
  let v7 := v6 && sF.2.2
  let VF := mkF 4 1
  let Vn := stN v7 VF
  let Vd := stD v7 VF
  let v8 := v7 && VF.2.2
  let kF := quF sn sd Vn Vd
  let kn := stN v8 kF
  let kd := stD v8 kF
  let v9 := v8 && kF.2.2
  let tF := prF hn hd kn kd
  let tn := stN v9 tF
  let td := stD v9 tF
  let v10 := v9 && tF.2.2
  if v10 = true then ((un, ud), (tn, td), true) else z0
theorem bi_eq (b nx dx ny dy : Int) (hb : -1000000000 ≤ b ∧ b ≤ 1000000000) : biT b nx dx ny dy = if (raT b nx dx ny dy).2.2 = true then hfT (raT b nx dx ny dy).1.1 (raT b nx dx ny dy).1.2 (raT b nx dx ny dy).2.1.1 (raT b nx dx ny dy).2.1.2 else z0 := by
  have h2 : mkF 2 1 = (2, 1, true) := mkF_whole (by omega) (by omega)
  have h4 : mkF 4 1 = (4, 1, true) := mkF_whole (by omega) (by omega)
  unfold biT raT hfT boT z0
  simp only [mkF_whole hb.1 hb.2, h2, h4]
  obtain ⟨r, hr⟩ : ∃ r, quF ny dy nx dx = r := ⟨_, rfl⟩
  obtain ⟨q, hq⟩ : ∃ q, quF b 1 nx dx = q := ⟨_, rfl⟩
  obtain ⟨s, hs⟩ : ∃ s, diF q.1 q.2.1 nx dx = s := ⟨_, rfl⟩
  obtain ⟨h, hh⟩ : ∃ h, prF r.1 r.2.1 1 2 = h := ⟨_, rfl⟩
  obtain ⟨k, hk⟩ : ∃ k, prF s.1 s.2.1 1 4 = k := ⟨_, rfl⟩
  obtain ⟨u, hu⟩ : ∃ u, prF h.1 h.2.1 h.1 h.2.1 = u := ⟨_, rfl⟩
  obtain ⟨t, ht⟩ : ∃ t, prF h.1 h.2.1 k.1 k.2.1 = t := ⟨_, rfl⟩
  rw [hr, hq]
  clear h2 h4 hb hr
  cases c1 : r.2.2
  · simp [stN, stD, c1]
  cases c4 : q.2.2
  · cases c2 : h.2.2 <;> cases c3 : u.2.2 <;> simp [stN, stD, half_eq, quarter_eq, hq, hh, hu, c1, c2, c3, c4]
  cases c5 : s.2.2
  · cases c2 : h.2.2 <;> cases c3 : u.2.2 <;> simp [stN, stD, half_eq, quarter_eq, hq, hs, hh, hu, c1, c2, c3, c4, c5]
  cases c2 : h.2.2
  · simp [stN, stD, half_eq, quarter_eq, hq, hs, hh, c1, c2, c4, c5]
  cases c6 : k.2.2
  · cases c3 : u.2.2 <;> simp [stN, stD, half_eq, quarter_eq, hq, hs, hh, hk, hu, c1, c2, c3, c4, c5, c6]
  cases c3 : u.2.2 <;> cases c7 : t.2.2 <;> simp [stN, stD, half_eq, quarter_eq, hq, hs, hh, hk, hu, ht, c1, c2, c3, c4, c5, c6, c7]
end Go.Proofs.YtnemnkbcbokafaaGreat
