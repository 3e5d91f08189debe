/- The plain law of FnIntervals. -/
import Derived.Test.YthifeabcobgbmaaIz
namespace Go.Proofs.Ythifeabcobgbmaa
open Go.RowKit
set_option linter.unusedVariables false
set_option linter.unusedSimpArgs false

theorem grid_bd {lo : Int} (h1 : -409600000 ≤ lo) (h2 : lo ≤ 409600000) : 1 ≤ mkD lo 4096 ∧ mkD lo 4096 ≤ 1000000000 ∧ -1000000000 ≤ mkN lo 4096 ∧ mkN lo 4096 ≤ 1000000000 := frB_bd (mk_ok (by omega) (by omega))
theorem qiB_in {lo hi n d : Int} (hv : validB lo hi = true) (hf : frB n d = true) (h : inF lo hi n d) : qiB (mkN lo 4096) (mkD lo 4096) (mkN hi 4096) (mkD hi 4096) n d = true := by
  have b := validB_bd hv
  have b1 := grid_bd (lo := lo) (by omega) (by omega)
  have b2 := grid_bd (lo := hi) (by omega) (by omega)
  have b3 := frB_bd hf
  unfold qiB
  rw [qlB_of (by omega) (by omega) (by omega) (by omega), qlB_of (by omega) (by omega) (by omega) (by omega)]
  simp [h.1, h.2]
/-- an operation's value when it is valid -/
theorem iv_yes {g : Bool} {lo hi : Int} (h : (g && validB lo hi) = true) : g = true ∧ validB lo hi = true ∧ ivN1 g lo hi = mkN lo 4096 ∧ ivD1 g lo hi = mkD lo 4096 ∧ ivN2 g lo hi = mkN hi 4096 ∧ ivD2 g lo hi = mkD hi 4096 := by
  obtain ⟨h1, h2⟩ : g = true ∧ validB lo hi = true := by simpa using h
  simp [ivN1, ivD1, ivN2, ivD2, h1, h2]
section
variable {n1 d1 n2 d2 n3 d3 n4 d4 : Int}
/-- one of two ends -/
def End (n1 d1 n2 d2 x y : Int) : Prop := (x = n1 ∧ y = d1) ∨ (x = n2 ∧ y = d2)
theorem End.place {x y : Int} (h : End n1 d1 n2 d2 x y) (hg : goodB n1 d1 n2 d2 = true) : pre1 x y = true ∧ frB x y = true ∧ (plN x y = plN n1 d1 ∨ plN x y = plN n2 d2) ∧ plN n1 d1 ≤ plN x y ∧ plN x y ≤ plN n2 d2 := by
  obtain ⟨p1, p2⟩ := goodB_pre hg
  have b := goodB_bd hg
  have f1 : frB n1 d1 = true := by simp [pre1] at p1; exact p1.1
  have f2 : frB n2 d2 = true := by simp [pre1] at p2; exact p2.1
  rcases h with ⟨rfl, rfl⟩ | ⟨rfl, rfl⟩
  · exact ⟨p1, f1, .inl rfl, Int.le_refl _, b.1⟩
  · exact ⟨p2, f2, .inr rfl, b.1, Int.le_refl _⟩
theorem sum_fact {nx dx ny dy : Int} (hx : End n1 d1 n2 d2 nx dx) (hy : End n3 d3 n4 d4 ny dy)
    (h : ((goodB n1 d1 n2 d2 && goodB n3 d3 n4 d4) && validB (plN n1 d1 + plN n3 d3) (plN n2 d2 + plN n4 d4)) = true) (hf : (twoF suF nx dx ny dy).2.2 = true) :
    qiB (ivN1 (goodB n1 d1 n2 d2 && goodB n3 d3 n4 d4) (plN n1 d1 + plN n3 d3) (plN n2 d2 + plN n4 d4)) (ivD1 (goodB n1 d1 n2 d2 && goodB n3 d3 n4 d4) (plN n1 d1 + plN n3 d3) (plN n2 d2 + plN n4 d4)) (ivN2 (goodB n1 d1 n2 d2 && goodB n3 d3 n4 d4) (plN n1 d1 + plN n3 d3) (plN n2 d2 + plN n4 d4)) (ivD2 (goodB n1 d1 n2 d2 && goodB n3 d3 n4 d4) (plN n1 d1 + plN n3 d3) (plN n2 d2 + plN n4 d4)) (twoF suF nx dx ny dy).1 (twoF suF nx dx ny dy).2.1 = true := by
  obtain ⟨hg, hv, e1, e2, e3, e4⟩ := iv_yes h
  rw [e1, e2, e3, e4]
  obtain ⟨g1, g2⟩ : goodB n1 d1 n2 d2 = true ∧ goodB n3 d3 n4 d4 = true := by simpa using hg
  obtain ⟨px, _, _, x1, x2⟩ := hx.place g1
  obtain ⟨py, _, _, y1, y2⟩ := hy.place g2
  have ty := two_yes hf
  rw [ty] at hf ⊢
  exact qiB_in hv (mkF_frB hf) (suF_in px py hf (by omega) (by omega))
theorem prod_fact {nx dx ny dy lo hi : Int} (hlo : lo = mulLo (plN n1 d1) (plN n2 d2) (plN n3 d3) (plN n4 d4)) (hhi : hi = mulHi (plN n1 d1) (plN n2 d2) (plN n3 d3) (plN n4 d4)) (hx : End n1 d1 n2 d2 nx dx) (hy : End n3 d3 n4 d4 ny dy)
    (h : ((goodB n1 d1 n2 d2 && goodB n3 d3 n4 d4) && validB lo hi) = true) (hf : (twoF prF nx dx ny dy).2.2 = true) :
    qiB (ivN1 (goodB n1 d1 n2 d2 && goodB n3 d3 n4 d4) lo hi) (ivD1 (goodB n1 d1 n2 d2 && goodB n3 d3 n4 d4) lo hi) (ivN2 (goodB n1 d1 n2 d2 && goodB n3 d3 n4 d4) lo hi) (ivD2 (goodB n1 d1 n2 d2 && goodB n3 d3 n4 d4) lo hi) (twoF prF nx dx ny dy).1 (twoF prF nx dx ny dy).2.1 = true := by
  obtain ⟨hg, hv, e1, e2, e3, e4⟩ := iv_yes h
  rw [e1, e2, e3, e4]
  obtain ⟨g1, g2⟩ : goodB n1 d1 n2 d2 = true ∧ goodB n3 d3 n4 d4 = true := by simpa using hg
  obtain ⟨px, _, x0, _, _⟩ := hx.place g1
  obtain ⟨py, _, y0, _, _⟩ := hy.place g2
  have ty := two_yes hf
  rw [ty] at hf ⊢
  have m := mul_lo x0 y0
  exact qiB_in hv (mkF_frB hf) (prF_in px py hf (by rw [hlo]; exact m.1) (by rw [hhi]; exact m.2))
theorem quo_fact {nx dx ny dy : Int} (hx : End n1 d1 n2 d2 nx dx) (hy : End n3 d3 n4 d4 ny dy)
    (h : (divB n1 d1 n2 d2 n3 d3 n4 d4 && validB (divLo (plN n1 d1) (plN n2 d2) (plN n3 d3) (plN n4 d4)) (divHi (plN n1 d1) (plN n2 d2) (plN n3 d3) (plN n4 d4))) = true) (hf : (twoF quF nx dx ny dy).2.2 = true) :
    qiB (ivN1 (divB n1 d1 n2 d2 n3 d3 n4 d4) (divLo (plN n1 d1) (plN n2 d2) (plN n3 d3) (plN n4 d4)) (divHi (plN n1 d1) (plN n2 d2) (plN n3 d3) (plN n4 d4))) (ivD1 (divB n1 d1 n2 d2 n3 d3 n4 d4) (divLo (plN n1 d1) (plN n2 d2) (plN n3 d3) (plN n4 d4)) (divHi (plN n1 d1) (plN n2 d2) (plN n3 d3) (plN n4 d4))) (ivN2 (divB n1 d1 n2 d2 n3 d3 n4 d4) (divLo (plN n1 d1) (plN n2 d2) (plN n3 d3) (plN n4 d4)) (divHi (plN n1 d1) (plN n2 d2) (plN n3 d3) (plN n4 d4))) (ivD2 (divB n1 d1 n2 d2 n3 d3 n4 d4) (divLo (plN n1 d1) (plN n2 d2) (plN n3 d3) (plN n4 d4)) (divHi (plN n1 d1) (plN n2 d2) (plN n3 d3) (plN n4 d4))) (twoF quF nx dx ny dy).1 (twoF quF nx dx ny dy).2.1 = true := by
  obtain ⟨hg, hv, e1, e2, e3, e4⟩ := iv_yes h
  rw [e1, e2, e3, e4]
  have hd := hg
  simp only [divB, Bool.and_eq_true, Bool.not_eq_true', Bool.and_eq_false_iff, decide_eq_false_iff_not] at hd
  obtain ⟨⟨g1, g2⟩, hs⟩ := hd
  obtain ⟨px, _, x0, _, _⟩ := hx.place g1
  obtain ⟨py, _, y0, y1, y2⟩ := hy.place g2
  have ty := two_yes hf
  rw [ty] at hf ⊢
  have m := div_lo x0 y0
  have fb : frB (quF nx dx ny dy).1 (quF nx dx ny dy).2.1 = true := by
    unfold quF at hf ⊢
    split at hf
    · cases hf
    · rename_i hn; rw [if_neg hn]; exact mkF_frB hf
  exact qiB_in hv fb (quF_in px py (by rcases hs with h | h <;> omega) hf m.1 m.2)
theorem in_fact {nx dx lo hi : Int} {g : Bool} (p : g = true → pre1 nx dx = true ∧ frB nx dx = true ∧ lo ≤ plN nx dx ∧ plN nx dx ≤ hi) (h : (g && validB lo hi) = true) :
    qiB (ivN1 g lo hi) (ivD1 g lo hi) (ivN2 g lo hi) (ivD2 g lo hi) nx dx = true := by
  obtain ⟨hg, hv, e1, e2, e3, e4⟩ := iv_yes h
  rw [e1, e2, e3, e4]
  obtain ⟨p1, p2, p3, p4⟩ := p hg
  exact qiB_in hv p2 (in_grid p1 p3 p4)
theorem place_mk {a : Int} (h1 : -409600000 ≤ a) (h2 : a ≤ 409600000) : pre1 (mkN a 4096) (mkD a 4096) = true ∧ plN (mkN a 4096) (mkD a 4096) = a ∧ frB (mkN a 4096) (mkD a 4096) = true :=
  ⟨(mk_pre (mk_ok (by omega) (by omega))).1, (mk_pre (mk_ok (by omega) (by omega))).2, mk_ok (by omega) (by omega)⟩
theorem qi_grid {n1 d1 n2 d2 n d : Int} (hg : goodB n1 d1 n2 d2 = true) (p : pre1 n d = true) (h1 : plN n1 d1 ≤ plN n d) (h2 : plN n d ≤ plN n2 d2) : qiB n1 d1 n2 d2 n d = true := by
  obtain ⟨p1, p2⟩ := goodB_pre hg
  have b1 := pre1_bd p1
  have b2 := pre1_bd p2
  have b := pre1_bd p
  unfold qiB
  rw [qlB_of (by omega) (by omega) (by omega) (by omega), qlB_of (by omega) (by omega) (by omega) (by omega)]
  have l1 := lt_grid p p1
  have l2 := lt_grid p2 p
  simp; omega
theorem ql_grid {n1 d1 n2 d2 : Int} (p1 : pre1 n1 d1 = true) (p2 : pre1 n2 d2 = true) (h : plN n2 d2 ≤ plN n1 d1) : qlB n1 d1 n2 d2 = false := by
  have b1 := pre1_bd p1
  have b2 := pre1_bd p2
  rw [qlB_of (by omega) (by omega) (by omega) (by omega)]
  have l := lt_grid p1 p2
  simp; omega
theorem com_fact (h : ((goodB n1 d1 n2 d2 && goodB n3 d3 n4 d4) && validB (max (plN n1 d1) (plN n3 d3)) (min (plN n2 d2) (plN n4 d4))) = true) :
    qiB n1 d1 n2 d2 (ivN1 (goodB n1 d1 n2 d2 && goodB n3 d3 n4 d4) (max (plN n1 d1) (plN n3 d3)) (min (plN n2 d2) (plN n4 d4))) (ivD1 (goodB n1 d1 n2 d2 && goodB n3 d3 n4 d4) (max (plN n1 d1) (plN n3 d3)) (min (plN n2 d2) (plN n4 d4))) = true ∧
    qiB n3 d3 n4 d4 (ivN1 (goodB n1 d1 n2 d2 && goodB n3 d3 n4 d4) (max (plN n1 d1) (plN n3 d3)) (min (plN n2 d2) (plN n4 d4))) (ivD1 (goodB n1 d1 n2 d2 && goodB n3 d3 n4 d4) (max (plN n1 d1) (plN n3 d3)) (min (plN n2 d2) (plN n4 d4))) = true ∧
    qiB n1 d1 n2 d2 (ivN2 (goodB n1 d1 n2 d2 && goodB n3 d3 n4 d4) (max (plN n1 d1) (plN n3 d3)) (min (plN n2 d2) (plN n4 d4))) (ivD2 (goodB n1 d1 n2 d2 && goodB n3 d3 n4 d4) (max (plN n1 d1) (plN n3 d3)) (min (plN n2 d2) (plN n4 d4))) = true ∧
    qiB n3 d3 n4 d4 (ivN2 (goodB n1 d1 n2 d2 && goodB n3 d3 n4 d4) (max (plN n1 d1) (plN n3 d3)) (min (plN n2 d2) (plN n4 d4))) (ivD2 (goodB n1 d1 n2 d2 && goodB n3 d3 n4 d4) (max (plN n1 d1) (plN n3 d3)) (min (plN n2 d2) (plN n4 d4))) = true := by
  obtain ⟨hg, hv, e1, e2, e3, e4⟩ := iv_yes h
  rw [e1, e2, e3, e4]
  obtain ⟨g1, g2⟩ : goodB n1 d1 n2 d2 = true ∧ goodB n3 d3 n4 d4 = true := by simpa using hg
  have b := validB_bd hv
  have b1 := goodB_bd g1
  have b2 := goodB_bd g2
  obtain ⟨p1, p2, _⟩ := place_mk (a := max (plN n1 d1) (plN n3 d3)) (by omega) (by omega)
  obtain ⟨q1, q2, _⟩ := place_mk (a := min (plN n2 d2) (plN n4 d4)) (by omega) (by omega)
  exact ⟨qi_grid g1 p1 (by omega) (by omega), qi_grid g2 p1 (by omega) (by omega), qi_grid g1 q1 (by omega) (by omega), qi_grid g2 q1 (by omega) (by omega)⟩
/-- what is taken away and put back lies around -/
theorem back_fact {s1 t1 s2 t2 : Int} (hs1 : s1 = ivN1 (goodB n1 d1 n2 d2 && goodB n3 d3 n4 d4) (plN n1 d1 - plN n4 d4) (plN n2 d2 - plN n3 d3)) (ht1 : t1 = ivD1 (goodB n1 d1 n2 d2 && goodB n3 d3 n4 d4) (plN n1 d1 - plN n4 d4) (plN n2 d2 - plN n3 d3))
    (hs2 : s2 = ivN2 (goodB n1 d1 n2 d2 && goodB n3 d3 n4 d4) (plN n1 d1 - plN n4 d4) (plN n2 d2 - plN n3 d3)) (ht2 : t2 = ivD2 (goodB n1 d1 n2 d2 && goodB n3 d3 n4 d4) (plN n1 d1 - plN n4 d4) (plN n2 d2 - plN n3 d3))
    (h : ((goodB n1 d1 n2 d2 && goodB n3 d3 n4 d4) && validB (plN n1 d1 - plN n4 d4) (plN n2 d2 - plN n3 d3)) = true)
    (hk : ((goodB s1 t1 s2 t2 && goodB n3 d3 n4 d4) && validB (plN s1 t1 + plN n3 d3) (plN s2 t2 + plN n4 d4)) = true) :
    qlB n1 d1 (ivN1 (goodB s1 t1 s2 t2 && goodB n3 d3 n4 d4) (plN s1 t1 + plN n3 d3) (plN s2 t2 + plN n4 d4)) (ivD1 (goodB s1 t1 s2 t2 && goodB n3 d3 n4 d4) (plN s1 t1 + plN n3 d3) (plN s2 t2 + plN n4 d4)) = false ∧
    qlB (ivN2 (goodB s1 t1 s2 t2 && goodB n3 d3 n4 d4) (plN s1 t1 + plN n3 d3) (plN s2 t2 + plN n4 d4)) (ivD2 (goodB s1 t1 s2 t2 && goodB n3 d3 n4 d4) (plN s1 t1 + plN n3 d3) (plN s2 t2 + plN n4 d4)) n2 d2 = false := by
  obtain ⟨hg, hv, e1, e2, e3, e4⟩ := iv_yes h
  obtain ⟨hg', hv', f1, f2, f3, f4⟩ := iv_yes hk
  rw [f1, f2, f3, f4]
  rw [e1] at hs1; rw [e2] at ht1; rw [e3] at hs2; rw [e4] at ht2
  subst hs1 ht1 hs2 ht2
  obtain ⟨g1, g2⟩ : goodB n1 d1 n2 d2 = true ∧ goodB n3 d3 n4 d4 = true := by simpa using hg
  have b := validB_bd hv
  have b' := validB_bd hv'
  have b1 := goodB_bd g1
  have b2 := goodB_bd g2
  obtain ⟨p1, p2⟩ := goodB_pre g1
  obtain ⟨_, x1, _⟩ := place_mk (a := plN n1 d1 - plN n4 d4) (by omega) (by omega)
  obtain ⟨_, x2, _⟩ := place_mk (a := plN n2 d2 - plN n3 d3) (by omega) (by omega)
  rw [x1, x2] at b' ⊢
  obtain ⟨q1, y1, _⟩ := place_mk (a := plN n1 d1 - plN n4 d4 + plN n3 d3) (by omega) (by omega)
  obtain ⟨q2, y2, _⟩ := place_mk (a := plN n2 d2 - plN n3 d3 + plN n4 d4) (by omega) (by omega)
  exact ⟨ql_grid p1 q1 (by omega), ql_grid q2 p2 (by omega)⟩
theorem is_fact {g : Bool} {lo hi : Int} (h : (g && validB lo hi) = true) : goodB (ivN1 g lo hi) (ivD1 g lo hi) (ivN2 g lo hi) (ivD2 g lo hi) = true := by
  obtain ⟨hg, hv, e1, e2, e3, e4⟩ := iv_yes h
  rw [e1, e2, e3, e4]; exact (iv_read hv).1
end
end Go.Proofs.Ythifeabcobgbmaa
