/- Lemmas and contracts of functions. No condition. -/
import Derived.Test.YtnemnkbcbokafaaGreatPk19
import Derived.Test.YtnemnkbcbokafaaGreatPk29
import Derived.Test.YtnemnkbcbokafaaGreatPk33
import Derived.Test.YtnemnkbcbokafaaGreatPk35
import Derived.Test.YtnemnkbcbokafaaGreatPk38
import Derived.Test.YtnemnkbcbokafaaGreatPk39
import Derived.Test.YtnemnkbcbokafaaGreatPk46
namespace Go.Proofs.YtnemnkbcbokafaaGreat
open Go.RowKit
set_option linter.unusedVariables false
set_option maxHeartbeats 4000000
set_option maxRecDepth 20000
set_option linter.unusedSimpArgs false
def fcB (n d : Int) : Bool := inB n (-1000000000000000000) 1000000000000000000 && (inB d (-1000000000000000000) 1000000000000000000 && decide (d ≠ 0))
def fcV (n d : Int) : Int × Int × Bool := if fcB n d = true then mkF n d else (0, 0, false)
theorem FractionOf_any (n d : Int) (w : World) : Calls Tryz.prog 19 #[.int .i64 n, .int .i64 d] w fun e w' => e = .returned (.tuple #[.agg #[.int .i64 (fcV n d).1, .int .i64 (fcV n d).2.1], .bool (fcV n d).2.2]) ∧ Below w.heap.size w w' := by
 have T1 := fun W : World => Lib.hid (l1In_any n (-1000000000000000000) 1000000000000000000 W)
 have T2 := fun W : World => Lib.hid (l1In_any d (-1000000000000000000) 1000000000000000000 W)
 rcases h1 : inB n (-1000000000000000000) 1000000000000000000 with _ | _
 ·rw [show fcV n d = (0, 0, false) by unfold fcV fcB; rw [h1]; rfl]
  rw [h1] at T1
  have T3 := T1
  clear h1
  have tok1 := trivial
  go_enter Tryz.func19, Tryz.ntmps19
  go_wp2_with (first | (go_at_call 48; (with_reducible refine ((T1 _).out).mono ?_); rintro e w' ⟨rfl, rfl⟩) | (go_at_call 48; (with_reducible refine ((T2 _).out).mono ?_); rintro e w' ⟨rfl, rfl⟩) | (have _t := tok1; go_at_call 50; (with_reducible refine ((T3 _).out).mono ?_); rintro e w1 ⟨rfl, hb1⟩; clear tok1 _t; have hz1 := hb1.size; (try simp only [sA, sB, sC, sD] at hz1); (try (obtain ⟨qa, qb, qc⟩ := cf2 hb1 (w.heap.size); simp [go_sem, *] at qa qb qc)); (try have qf : w.heap.size < w1.heap.size := by omega); (try (obtain ⟨qa, qb, qc⟩ := cf2 hb1 (w.heap.size); simp [go_sem, *] at qa qb qc)); (try have qf : w.heap.size < w1.heap.size := by omega)))
  (refine bodyPost_ret (v := .tuple #[.agg #[.int .i64 0, .int .i64 0], .bool false]) (by simp [results, Tryz.results19, go_sem, *]) rfl ⟨rfl, by exact bel⟩)
 rcases h2 : inB d (-1000000000000000000) 1000000000000000000 with _ | _
 ·rw [show fcV n d = (0, 0, false) by unfold fcV fcB; rw [h1, h2]; rfl]
  rw [h1] at T1
  rw [h2] at T2
  have T3 := T1
  clear h1 h2
  have tok1 := trivial
  go_enter Tryz.func19, Tryz.ntmps19
  go_wp2_with (first | (go_at_call 48; (with_reducible refine ((T1 _).out).mono ?_); rintro e w' ⟨rfl, rfl⟩) | (go_at_call 48; (with_reducible refine ((T2 _).out).mono ?_); rintro e w' ⟨rfl, rfl⟩) | (have _t := tok1; go_at_call 50; (with_reducible refine ((T3 _).out).mono ?_); rintro e w1 ⟨rfl, hb1⟩; clear tok1 _t; have hz1 := hb1.size; (try simp only [sA, sB, sC, sD] at hz1); (try (obtain ⟨qa, qb, qc⟩ := cf2 hb1 (w.heap.size); simp [go_sem, *] at qa qb qc)); (try have qf : w.heap.size < w1.heap.size := by omega); (try (obtain ⟨qa, qb, qc⟩ := cf2 hb1 (w.heap.size); simp [go_sem, *] at qa qb qc)); (try have qf : w.heap.size < w1.heap.size := by omega)))
  (refine bodyPost_ret (v := .tuple #[.agg #[.int .i64 0, .int .i64 0], .bool false]) (by simp [results, Tryz.results19, go_sem, *]) rfl ⟨rfl, by exact bel⟩)
 have b1 := inB_iff.1 h1
 have b2 := inB_iff.1 h2
 by_cases h3 : d = 0
 ·rw [show fcV n d = (0, 0, false) by unfold fcV fcB; rw [h1, h2, h3]; rfl]
  subst h3
  rw [h1] at T1
  rw [h2] at T2
  have T3 := T1
  clear h1 h2
  have tok1 := trivial
  go_enter Tryz.func19, Tryz.ntmps19
  go_wp2_with (first | (go_at_call 48; (with_reducible refine ((T1 _).out).mono ?_); rintro e w' ⟨rfl, rfl⟩) | (go_at_call 48; (with_reducible refine ((T2 _).out).mono ?_); rintro e w' ⟨rfl, rfl⟩) | (have _t := tok1; go_at_call 50; (with_reducible refine ((T3 _).out).mono ?_); rintro e w1 ⟨rfl, hb1⟩; clear tok1 _t; have hz1 := hb1.size; (try simp only [sA, sB, sC, sD] at hz1); (try (obtain ⟨qa, qb, qc⟩ := cf2 hb1 (w.heap.size); simp [go_sem, *] at qa qb qc)); (try have qf : w.heap.size < w1.heap.size := by omega); (try (obtain ⟨qa, qb, qc⟩ := cf2 hb1 (w.heap.size); simp [go_sem, *] at qa qb qc)); (try have qf : w.heap.size < w1.heap.size := by omega)))
  (refine bodyPost_ret (v := .tuple #[.agg #[.int .i64 0, .int .i64 0], .bool false]) (by simp [results, Tryz.results19, go_sem, *]) rfl ⟨rfl, by exact bel⟩)
 ·have T3 := fun W : World => Lib.hid (frMake_any n d W h3 (by omega) (by omega) (by omega) (by omega))
  rw [show fcV n d = mkF n d by unfold fcV fcB; rw [h1, h2, decide_eq_true h3]; rfl]
  have h4 : (d == 0) = false := by simpa using h3
  rw [h1] at T1
  rw [h2] at T2
  generalize mkF n d = v at *
  clear h1 h2
  have tok1 := trivial
  go_enter Tryz.func19, Tryz.ntmps19
  go_wp2_with (first | (go_at_call 48; (with_reducible refine ((T1 _).out).mono ?_); rintro e w' ⟨rfl, rfl⟩) | (go_at_call 48; (with_reducible refine ((T2 _).out).mono ?_); rintro e w' ⟨rfl, rfl⟩) | (have _t := tok1; go_at_call 50; (with_reducible refine ((T3 _).out).mono ?_); rintro e w1 ⟨rfl, hb1⟩; clear tok1 _t; have hz1 := hb1.size; (try simp only [sA, sB, sC, sD] at hz1); (try (obtain ⟨qa, qb, qc⟩ := cf2 hb1 (w.heap.size); simp [go_sem, *] at qa qb qc)); (try have qf : w.heap.size < w1.heap.size := by omega); (try (obtain ⟨qa, qb, qc⟩ := cf2 hb1 (w.heap.size); simp [go_sem, *] at qa qb qc)); (try have qf : w.heap.size < w1.heap.size := by omega)))
  refine bodyPost_ret (v := _) (by simp [results, Tryz.results19, go_sem, *]) rfl ⟨rfl, ?_⟩
  exact bel
def twoF (f : Int → Int → Int → Int → Int × Int × Bool) (n1 d1 n2 d2 : Int) : Int × Int × Bool := if (frB n1 d1 && frB n2 d2) = true then f n1 d1 n2 d2 else (0, 0, false)
theorem sSumOf_any (n1 d1 n2 d2 : Int) (w : World) : Calls Tryz.prog 17 #[.agg #[.int .i64 n1, .int .i64 d1], .agg #[.int .i64 n2, .int .i64 d2]] w fun e w' =>
  e = .returned (.tuple #[.agg #[.int .i64 (twoF suF n1 d1 n2 d2).1, .int .i64 (twoF suF n1 d1 n2 d2).2.1], .bool (twoF suF n1 d1 n2 d2).2.2]) ∧ Below w.heap.size w w' := by
 have T1 := fun W : World => Lib.hid (frTwo_any n1 d1 n2 d2 W)
 by_cases h : (frB n1 d1 && frB n2 d2) = true
 ·obtain ⟨h1, h2⟩ : frB n1 d1 = true ∧ frB n2 d2 = true := by simpa using h
  have T2 := fun W : World => Lib.hid (frAdd_any W h1 h2)
  rw [show twoF suF n1 d1 n2 d2 = suF n1 d1 n2 d2 from if_pos h]
  rw [h] at T1
  generalize suF n1 d1 n2 d2 = v at *
  clear h h1 h2
  have tok1 := trivial
  have tok2 := trivial
  go_enter Tryz.func17, Tryz.ntmps17
  go_wp2_with (first | (have _t := tok1; go_at_call 32; (with_reducible refine ((T1 _).out).mono ?_); rintro e w1 ⟨rfl, hb1⟩; clear tok1 _t; have hz1 := hb1.size; (try simp only [sA, sB, sC, sD] at hz1); (try (obtain ⟨qa, qb, qc⟩ := cf2 hb1 (w.heap.size); simp [go_sem, *] at qa qb qc)); (try have qh : w.heap.size < w1.heap.size := by omega); (try (obtain ⟨qi, qj, qp⟩ := cf2 hb1 (w.heap.size + 1); simp [go_sem, *] at qi qj qp)); (try have qz : w.heap.size + 1 < w1.heap.size := by omega); (try (obtain ⟨qk, ql, qq⟩ := cf2 hb1 (w.heap.size + 1 + 1); simp [go_sem, *] at qk ql qq)); (try have xa : w.heap.size + 1 + 1 < w1.heap.size := by omega); (try (obtain ⟨qa, qb, qc⟩ := cf2 hb1 (w.heap.size); simp [go_sem, *] at qa qb qc)); (try have qh : w.heap.size < w1.heap.size := by omega)) | (have _t := tok2; go_at_call 44; (with_reducible refine ((T2 _).out).mono ?_); rintro e w2 ⟨rfl, hb2⟩; clear tok2 _t; have hz2 := hb2.size; (try simp only [sA, sB, sC, sD] at hz2); (try (obtain ⟨qf, qg, qm⟩ := cf2 hb2 (w.heap.size); simp [go_sem, *] at qf qg qm)); (try have xb : w.heap.size < w2.heap.size := by omega); (try (obtain ⟨qr, qt, xc⟩ := cf2 hb2 (w.heap.size + 1); simp [go_sem, *] at qr qt xc)); (try have xf : w.heap.size + 1 < w2.heap.size := by omega); (try (obtain ⟨qu, qw, xe⟩ := cf2 hb2 (w.heap.size + 1 + 1); simp [go_sem, *] at qu qw xe)); (try have xg : w.heap.size + 1 + 1 < w2.heap.size := by omega); (try (obtain ⟨qf, qg, qm⟩ := cf2 hb2 (w.heap.size); simp [go_sem, *] at qf qg qm)); (try have xb : w.heap.size < w2.heap.size := by omega); (try clear qa qb qc); (try clear qh); (try clear qi qj qp); (try clear qz); (try clear qk ql qq); (try clear xa); (try clear qa qb qc); (try clear qh)))
  refine bodyPost_ret (v := _) (by simp [results, Tryz.results17, go_sem, *]) rfl ⟨rfl, ?_⟩
  exact bel
 ·rw [show twoF suF n1 d1 n2 d2 = (0, 0, false) from if_neg h]
  rw [show (frB n1 d1 && frB n2 d2) = false by simpa using h] at T1
  clear h
  have tok1 := trivial
  have tok2 := trivial
  go_enter Tryz.func17, Tryz.ntmps17
  go_wp2_with (first | (have _t := tok1; go_at_call 32; (with_reducible refine ((T1 _).out).mono ?_); rintro e w1 ⟨rfl, hb1⟩; clear tok1 _t; have hz1 := hb1.size; (try simp only [sA, sB, sC, sD] at hz1); (try (obtain ⟨qa, qb, qc⟩ := cf2 hb1 (w.heap.size); simp [go_sem, *] at qa qb qc)); (try have qh : w.heap.size < w1.heap.size := by omega); (try (obtain ⟨qi, qj, qp⟩ := cf2 hb1 (w.heap.size + 1); simp [go_sem, *] at qi qj qp)); (try have qz : w.heap.size + 1 < w1.heap.size := by omega); (try (obtain ⟨qk, ql, qq⟩ := cf2 hb1 (w.heap.size + 1 + 1); simp [go_sem, *] at qk ql qq)); (try have xa : w.heap.size + 1 + 1 < w1.heap.size := by omega); (try (obtain ⟨qa, qb, qc⟩ := cf2 hb1 (w.heap.size); simp [go_sem, *] at qa qb qc)); (try have qh : w.heap.size < w1.heap.size := by omega)) | (have _t := tok2; go_at_call 44; (with_reducible refine ((T2 _).out).mono ?_); rintro e w2 ⟨rfl, hb2⟩; clear tok2 _t; have hz2 := hb2.size; (try simp only [sA, sB, sC, sD] at hz2); (try (obtain ⟨qf, qg, qm⟩ := cf2 hb2 (w.heap.size); simp [go_sem, *] at qf qg qm)); (try have xb : w.heap.size < w2.heap.size := by omega); (try (obtain ⟨qr, qt, xc⟩ := cf2 hb2 (w.heap.size + 1); simp [go_sem, *] at qr qt xc)); (try have xf : w.heap.size + 1 < w2.heap.size := by omega); (try (obtain ⟨qu, qw, xe⟩ := cf2 hb2 (w.heap.size + 1 + 1); simp [go_sem, *] at qu qw xe)); (try have xg : w.heap.size + 1 + 1 < w2.heap.size := by omega); (try (obtain ⟨qf, qg, qm⟩ := cf2 hb2 (w.heap.size); simp [go_sem, *] at qf qg qm)); (try have xb : w.heap.size < w2.heap.size := by omega); (try clear qa qb qc); (try clear qh); (try clear qi qj qp); (try clear qz); (try clear qk ql qq); (try clear xa); (try clear qa qb qc); (try clear qh)))
  refine bodyPost_ret (v := _) (by simp [results, Tryz.results17, go_sem, *]) rfl ⟨rfl, ?_⟩
  exact bel
noncomputable def paO (A B n d : Int) : Bool := cvB A B && (frB n d && ((rtV d * rtV d == d) && (decide (rtV d ≤ 20) && inB n (-10000) 10000)))
noncomputable def paL (A B n d : Int) : List P3 := if paO A B n d = true then hvA A B n (rtV d) else []
def NewX (w : World) (s n : Nat) (zs : List Int) (ok : Bool) (r : Ending) (w' : World) : Prop := ∃ v B, r = .returned (.tuple #[v, .bool ok]) ∧ SlX w' B s v n zs ∧ w.heap.size ≤ B ∧ Below w.heap.size w w'
theorem newX_nil {w w' : World} (h : Below w.heap.size w w') : NewX w 3 ([] : List P3).length (flat3 []) false (.returned (.tuple #[.slice none 0 0, .bool false])) w' :=
 ⟨_, w.heap.size, rfl, ⟨rfl, .inl ⟨rfl, rfl⟩⟩, Nat.le_refl _, h⟩
theorem PointsAtX_any (A B n d : Int) (w : World) : Calls Tryz.prog 18 #[.agg #[.int .i64 A, .int .i64 B], .agg #[.int .i64 n, .int .i64 d]] w (NewX w 3 (paL A B n d).length (flat3 (paL A B n d)) (paO A B n d)) := by
 have T1 := fun W : World => Lib.hid (ecGood_any A B W)
 rcases h1 : cvB A B with _ | _
 ·rw [show paL A B n d = [] by unfold paL paO; rw [h1]; rfl, show paO A B n d = false by unfold paO; rw [h1]; rfl]
  rw [h1] at T1
  have T2 := T1
  have T3 := T1
  have T4 := T1
  have T5 := T1
  have T6 := T1
  clear h1
  have tok1 := trivial
  have tok2 := trivial
  have tok3 := trivial
  go_enter Tryz.func18, Tryz.ntmps18
  go_wp2_with (first | (have _t := tok1; go_at_call 43; (with_reducible refine ((T1 _).out).mono ?_); rintro e w1 ⟨rfl, hb1⟩; clear tok1 _t; have hz1 := hb1.size; (try simp only [sA, sB, sC, sD] at hz1); (try (obtain ⟨qa, qb, qg⟩ := cf2 hb1 (w.heap.size); simp [go_sem, *] at qa qb qg)); (try have qm : w.heap.size < w1.heap.size := by omega); (try (obtain ⟨qc, qf, qh⟩ := cf2 hb1 (w.heap.size + 1); simp [go_sem, *] at qc qf qh)); (try have qp : w.heap.size + 1 < w1.heap.size := by omega)) | (have _t := tok2; go_at_call 45; (with_reducible refine ((T2 _).out).mono ?_); rintro e w2 ⟨rfl, hb2⟩; clear tok2 _t; have hz2 := hb2.size; (try simp only [sA, sB, sC, sD] at hz2); (try (obtain ⟨qi, qj, qq⟩ := cf2 hb2 (w.heap.size); simp [go_sem, *] at qi qj qq)); (try have xa : w.heap.size < w2.heap.size := by omega); (try (obtain ⟨qk, ql, qr⟩ := cf2 hb2 (w.heap.size + 1); simp [go_sem, *] at qk ql qr)); (try have xb : w.heap.size + 1 < w2.heap.size := by omega); (try clear qa qb qg); (try clear qm); (try clear qc qf qh); (try clear qp)) | (go_at_call 46; (with_reducible refine ((T3 _).out).mono ?_); rintro e w' ⟨rfl, rfl⟩) | (go_at_call 47; (with_reducible refine ((T4 _).out).mono ?_); rintro e w' ⟨rfl, rfl⟩) | (go_at_call 48; (with_reducible refine ((T5 _).out).mono ?_); rintro e w' ⟨rfl, rfl⟩) | (have _t := tok3; go_at_call 49; (with_reducible refine ((T6 _).out).mono ?_); rintro e w3 ⟨v6, rfl, hx6, hb3⟩; clear tok3 _t; have hz3 := hb3.size; (try simp only [sA, sB, sC, sD] at hz3); (try (obtain ⟨qt, qu, xc⟩ := cf2 hb3 (w.heap.size); simp [go_sem, *] at qt qu xc)); (try have xf : w.heap.size < w3.heap.size := by omega); (try (obtain ⟨qw, qz, xe⟩ := cf2 hb3 (w.heap.size + 1); simp [go_sem, *] at qw qz xe)); (try have xg : w.heap.size + 1 < w3.heap.size := by omega); (try clear qa qb qg); (try clear qm); (try clear qc qf qh); (try clear qp); (try clear qi qj qq); (try clear xa); (try clear qk ql qr); (try clear xb)))
  go_ret2
  exact newX_nil bel
 have T2 := fun W : World => Lib.hid (frGood_any n d W)
 rw [h1] at T1
 rcases h2 : frB n d with _ | _
 ·rw [show paL A B n d = [] by unfold paL paO; rw [h1, h2]; rfl, show paO A B n d = false by unfold paO; rw [h1, h2]; rfl]
  rw [h2] at T2
  have T3 := T1
  have T4 := T1
  have T5 := T1
  have T6 := T1
  clear h1 h2
  have tok1 := trivial
  have tok2 := trivial
  have tok3 := trivial
  go_enter Tryz.func18, Tryz.ntmps18
  go_wp2_with (first | (have _t := tok1; go_at_call 43; (with_reducible refine ((T1 _).out).mono ?_); rintro e w1 ⟨rfl, hb1⟩; clear tok1 _t; have hz1 := hb1.size; (try simp only [sA, sB, sC, sD] at hz1); (try (obtain ⟨qa, qb, qg⟩ := cf2 hb1 (w.heap.size); simp [go_sem, *] at qa qb qg)); (try have qm : w.heap.size < w1.heap.size := by omega); (try (obtain ⟨qc, qf, qh⟩ := cf2 hb1 (w.heap.size + 1); simp [go_sem, *] at qc qf qh)); (try have qp : w.heap.size + 1 < w1.heap.size := by omega)) | (have _t := tok2; go_at_call 45; (with_reducible refine ((T2 _).out).mono ?_); rintro e w2 ⟨rfl, hb2⟩; clear tok2 _t; have hz2 := hb2.size; (try simp only [sA, sB, sC, sD] at hz2); (try (obtain ⟨qi, qj, qq⟩ := cf2 hb2 (w.heap.size); simp [go_sem, *] at qi qj qq)); (try have xa : w.heap.size < w2.heap.size := by omega); (try (obtain ⟨qk, ql, qr⟩ := cf2 hb2 (w.heap.size + 1); simp [go_sem, *] at qk ql qr)); (try have xb : w.heap.size + 1 < w2.heap.size := by omega); (try clear qa qb qg); (try clear qm); (try clear qc qf qh); (try clear qp)) | (go_at_call 46; (with_reducible refine ((T3 _).out).mono ?_); rintro e w' ⟨rfl, rfl⟩) | (go_at_call 47; (with_reducible refine ((T4 _).out).mono ?_); rintro e w' ⟨rfl, rfl⟩) | (go_at_call 48; (with_reducible refine ((T5 _).out).mono ?_); rintro e w' ⟨rfl, rfl⟩) | (have _t := tok3; go_at_call 49; (with_reducible refine ((T6 _).out).mono ?_); rintro e w3 ⟨v6, rfl, hx6, hb3⟩; clear tok3 _t; have hz3 := hb3.size; (try simp only [sA, sB, sC, sD] at hz3); (try (obtain ⟨qt, qu, xc⟩ := cf2 hb3 (w.heap.size); simp [go_sem, *] at qt qu xc)); (try have xf : w.heap.size < w3.heap.size := by omega); (try (obtain ⟨qw, qz, xe⟩ := cf2 hb3 (w.heap.size + 1); simp [go_sem, *] at qw qz xe)); (try have xg : w.heap.size + 1 < w3.heap.size := by omega); (try clear qa qb qg); (try clear qm); (try clear qc qf qh); (try clear qp); (try clear qi qj qq); (try clear xa); (try clear qk ql qr); (try clear xb)))
  go_ret2
  exact newX_nil bel
 rw [h2] at T2
 have hb := frB_bd h2
 have T3 := fun W : World => Lib.hid (frSquare_any d W (by omega) (by omega))
 have T4 := fun W : World => Lib.hid (frRoot_any d W (by omega) (by omega))
 have T5 := fun W : World => Lib.hid (l1In_any n (-10000) 10000 W)
 have hc := cvB_bd h1
 have hr := rtV_spec' (n := d) (by omega)
 unfold paL paO
 rw [h1, h2]
 simp only [Bool.true_and]
 obtain ⟨hr0, hr1, hr2⟩ := hr
 have hrb : rtV d ≤ 31623 := by
  refine Int.not_lt.1 fun h2 => ?_
  have this : 31624 * 31624 ≤ rtV d * rtV d := Int.mul_le_mul (by omega) (by omega) (by omega) (by omega)
  omega
 generalize rtV d = r at *
 rcases h3 : (r * r == d) with _ | _
 ·rw [h3] at T3
  simp only [Bool.false_and, Bool.false_eq_true, if_false]
  have T6 := T1
  clear h1 h2 h3 hr1 hr2
  have tok1 := trivial
  have tok2 := trivial
  have tok3 := trivial
  go_enter Tryz.func18, Tryz.ntmps18
  go_wp2_with (first | (have _t := tok1; go_at_call 43; (with_reducible refine ((T1 _).out).mono ?_); rintro e w1 ⟨rfl, hb1⟩; clear tok1 _t; have hz1 := hb1.size; (try simp only [sA, sB, sC, sD] at hz1); (try (obtain ⟨qa, qb, qg⟩ := cf2 hb1 (w.heap.size); simp [go_sem, *] at qa qb qg)); (try have qm : w.heap.size < w1.heap.size := by omega); (try (obtain ⟨qc, qf, qh⟩ := cf2 hb1 (w.heap.size + 1); simp [go_sem, *] at qc qf qh)); (try have qp : w.heap.size + 1 < w1.heap.size := by omega)) | (have _t := tok2; go_at_call 45; (with_reducible refine ((T2 _).out).mono ?_); rintro e w2 ⟨rfl, hb2⟩; clear tok2 _t; have hz2 := hb2.size; (try simp only [sA, sB, sC, sD] at hz2); (try (obtain ⟨qi, qj, qq⟩ := cf2 hb2 (w.heap.size); simp [go_sem, *] at qi qj qq)); (try have xa : w.heap.size < w2.heap.size := by omega); (try (obtain ⟨qk, ql, qr⟩ := cf2 hb2 (w.heap.size + 1); simp [go_sem, *] at qk ql qr)); (try have xb : w.heap.size + 1 < w2.heap.size := by omega); (try clear qa qb qg); (try clear qm); (try clear qc qf qh); (try clear qp)) | (go_at_call 46; (with_reducible refine ((T3 _).out).mono ?_); rintro e w' ⟨rfl, rfl⟩) | (go_at_call 47; (with_reducible refine ((T4 _).out).mono ?_); rintro e w' ⟨rfl, rfl⟩) | (go_at_call 48; (with_reducible refine ((T5 _).out).mono ?_); rintro e w' ⟨rfl, rfl⟩) | (have _t := tok3; go_at_call 49; (with_reducible refine ((T6 _).out).mono ?_); rintro e w3 ⟨v6, rfl, hx6, hb3⟩; clear tok3 _t; have hz3 := hb3.size; (try simp only [sA, sB, sC, sD] at hz3); (try (obtain ⟨qt, qu, xc⟩ := cf2 hb3 (w.heap.size); simp [go_sem, *] at qt qu xc)); (try have xf : w.heap.size < w3.heap.size := by omega); (try (obtain ⟨qw, qz, xe⟩ := cf2 hb3 (w.heap.size + 1); simp [go_sem, *] at qw qz xe)); (try have xg : w.heap.size + 1 < w3.heap.size := by omega); (try clear qa qb qg); (try clear qm); (try clear qc qf qh); (try clear qp); (try clear qi qj qq); (try clear xa); (try clear qk ql qr); (try clear xb)))
  go_ret2
  exact newX_nil bel
 rw [h3] at T3
 simp only [Bool.true_and]
 have h3' : r * r = d := by simpa using h3
 have hr3 : 1 ≤ r := by
  rcases (show r = 0 ∨ 1 ≤ r by omega) with h | h
  ·subst h; omega
  ·exact h
 clear hr1 hr2 h3 h3'
 by_cases h4 : r ≤ 20
 ·rcases h5 : inB n (-10000) 10000 with _ | _
  ·rw [h5] at T5
   simp only [Bool.and_false, Bool.false_eq_true, if_false]
   have T6 := T1
   clear h1 h2 h5
   have tok1 := trivial
   have tok2 := trivial
   have tok3 := trivial
   go_enter Tryz.func18, Tryz.ntmps18
   go_wp2_with (first | (have _t := tok1; go_at_call 43; (with_reducible refine ((T1 _).out).mono ?_); rintro e w1 ⟨rfl, hb1⟩; clear tok1 _t; have hz1 := hb1.size; (try simp only [sA, sB, sC, sD] at hz1); (try (obtain ⟨qa, qb, qg⟩ := cf2 hb1 (w.heap.size); simp [go_sem, *] at qa qb qg)); (try have qm : w.heap.size < w1.heap.size := by omega); (try (obtain ⟨qc, qf, qh⟩ := cf2 hb1 (w.heap.size + 1); simp [go_sem, *] at qc qf qh)); (try have qp : w.heap.size + 1 < w1.heap.size := by omega)) | (have _t := tok2; go_at_call 45; (with_reducible refine ((T2 _).out).mono ?_); rintro e w2 ⟨rfl, hb2⟩; clear tok2 _t; have hz2 := hb2.size; (try simp only [sA, sB, sC, sD] at hz2); (try (obtain ⟨qi, qj, qq⟩ := cf2 hb2 (w.heap.size); simp [go_sem, *] at qi qj qq)); (try have xa : w.heap.size < w2.heap.size := by omega); (try (obtain ⟨qk, ql, qr⟩ := cf2 hb2 (w.heap.size + 1); simp [go_sem, *] at qk ql qr)); (try have xb : w.heap.size + 1 < w2.heap.size := by omega); (try clear qa qb qg); (try clear qm); (try clear qc qf qh); (try clear qp)) | (go_at_call 46; (with_reducible refine ((T3 _).out).mono ?_); rintro e w' ⟨rfl, rfl⟩) | (go_at_call 47; (with_reducible refine ((T4 _).out).mono ?_); rintro e w' ⟨rfl, rfl⟩) | (go_at_call 48; (with_reducible refine ((T5 _).out).mono ?_); rintro e w' ⟨rfl, rfl⟩) | (have _t := tok3; go_at_call 49; (with_reducible refine ((T6 _).out).mono ?_); rintro e w3 ⟨v6, rfl, hx6, hb3⟩; clear tok3 _t; have hz3 := hb3.size; (try simp only [sA, sB, sC, sD] at hz3); (try (obtain ⟨qt, qu, xc⟩ := cf2 hb3 (w.heap.size); simp [go_sem, *] at qt qu xc)); (try have xf : w.heap.size < w3.heap.size := by omega); (try (obtain ⟨qw, qz, xe⟩ := cf2 hb3 (w.heap.size + 1); simp [go_sem, *] at qw qz xe)); (try have xg : w.heap.size + 1 < w3.heap.size := by omega); (try clear qa qb qg); (try clear qm); (try clear qc qf qh); (try clear qp); (try clear qi qj qq); (try clear xa); (try clear qk ql qr); (try clear xb)))
   go_ret2
   exact newX_nil bel
  ·rw [h5] at T5
   have hn := inB_iff.1 h5
   have T6 := fun W : World => Lib.hid (ptAtX_any A B n r W hc.1 hc.2.1 hn ⟨hr3, h4⟩)
   simp only [decide_eq_true h4, Bool.and_true, if_true]
   generalize hvA A B n r = L at *
   clear h1 h2 h5
   have tok1 := trivial
   have tok2 := trivial
   have tok3 := trivial
   go_enter Tryz.func18, Tryz.ntmps18
   go_wp2_with (first | (have _t := tok1; go_at_call 43; (with_reducible refine ((T1 _).out).mono ?_); rintro e w1 ⟨rfl, hb1⟩; clear tok1 _t; have hz1 := hb1.size; (try simp only [sA, sB, sC, sD] at hz1); (try (obtain ⟨qa, qb, qg⟩ := cf2 hb1 (w.heap.size); simp [go_sem, *] at qa qb qg)); (try have qm : w.heap.size < w1.heap.size := by omega); (try (obtain ⟨qc, qf, qh⟩ := cf2 hb1 (w.heap.size + 1); simp [go_sem, *] at qc qf qh)); (try have qp : w.heap.size + 1 < w1.heap.size := by omega)) | (have _t := tok2; go_at_call 45; (with_reducible refine ((T2 _).out).mono ?_); rintro e w2 ⟨rfl, hb2⟩; clear tok2 _t; have hz2 := hb2.size; (try simp only [sA, sB, sC, sD] at hz2); (try (obtain ⟨qi, qj, qq⟩ := cf2 hb2 (w.heap.size); simp [go_sem, *] at qi qj qq)); (try have xa : w.heap.size < w2.heap.size := by omega); (try (obtain ⟨qk, ql, qr⟩ := cf2 hb2 (w.heap.size + 1); simp [go_sem, *] at qk ql qr)); (try have xb : w.heap.size + 1 < w2.heap.size := by omega); (try clear qa qb qg); (try clear qm); (try clear qc qf qh); (try clear qp)) | (go_at_call 46; (with_reducible refine ((T3 _).out).mono ?_); rintro e w' ⟨rfl, rfl⟩) | (go_at_call 47; (with_reducible refine ((T4 _).out).mono ?_); rintro e w' ⟨rfl, rfl⟩) | (go_at_call 48; (with_reducible refine ((T5 _).out).mono ?_); rintro e w' ⟨rfl, rfl⟩) | (have _t := tok3; go_at_call 49; (with_reducible refine ((T6 _).out).mono ?_); rintro e w3 ⟨v6, rfl, hx6, hb3⟩; clear tok3 _t; have hz3 := hb3.size; (try simp only [sA, sB, sC, sD] at hz3); (try (obtain ⟨qt, qu, xc⟩ := cf2 hb3 (w.heap.size); simp [go_sem, *] at qt qu xc)); (try have xf : w.heap.size < w3.heap.size := by omega); (try (obtain ⟨qw, qz, xe⟩ := cf2 hb3 (w.heap.size + 1); simp [go_sem, *] at qw qz xe)); (try have xg : w.heap.size + 1 < w3.heap.size := by omega); (try clear qa qb qg); (try clear qm); (try clear qc qf qh); (try clear qp); (try clear qi qj qq); (try clear xa); (try clear qk ql qr); (try clear xb)))
   go_ret2
   refine ⟨v6, _, rfl, hx6, ?_, ?_⟩
   ·go_size
   ·exact bel
 ·simp only [decide_eq_false h4, Bool.false_and, Bool.false_eq_true, if_false]
  have h4' : decide (20 < r) = true := decide_eq_true (by omega)
  have T6 := T1
  clear h1 h2
  have tok1 := trivial
  have tok2 := trivial
  have tok3 := trivial
  go_enter Tryz.func18, Tryz.ntmps18
  go_wp2_with (first | (have _t := tok1; go_at_call 43; (with_reducible refine ((T1 _).out).mono ?_); rintro e w1 ⟨rfl, hb1⟩; clear tok1 _t; have hz1 := hb1.size; (try simp only [sA, sB, sC, sD] at hz1); (try (obtain ⟨qa, qb, qg⟩ := cf2 hb1 (w.heap.size); simp [go_sem, *] at qa qb qg)); (try have qm : w.heap.size < w1.heap.size := by omega); (try (obtain ⟨qc, qf, qh⟩ := cf2 hb1 (w.heap.size + 1); simp [go_sem, *] at qc qf qh)); (try have qp : w.heap.size + 1 < w1.heap.size := by omega)) | (have _t := tok2; go_at_call 45; (with_reducible refine ((T2 _).out).mono ?_); rintro e w2 ⟨rfl, hb2⟩; clear tok2 _t; have hz2 := hb2.size; (try simp only [sA, sB, sC, sD] at hz2); (try (obtain ⟨qi, qj, qq⟩ := cf2 hb2 (w.heap.size); simp [go_sem, *] at qi qj qq)); (try have xa : w.heap.size < w2.heap.size := by omega); (try (obtain ⟨qk, ql, qr⟩ := cf2 hb2 (w.heap.size + 1); simp [go_sem, *] at qk ql qr)); (try have xb : w.heap.size + 1 < w2.heap.size := by omega); (try clear qa qb qg); (try clear qm); (try clear qc qf qh); (try clear qp)) | (go_at_call 46; (with_reducible refine ((T3 _).out).mono ?_); rintro e w' ⟨rfl, rfl⟩) | (go_at_call 47; (with_reducible refine ((T4 _).out).mono ?_); rintro e w' ⟨rfl, rfl⟩) | (go_at_call 48; (with_reducible refine ((T5 _).out).mono ?_); rintro e w' ⟨rfl, rfl⟩) | (have _t := tok3; go_at_call 49; (with_reducible refine ((T6 _).out).mono ?_); rintro e w3 ⟨v6, rfl, hx6, hb3⟩; clear tok3 _t; have hz3 := hb3.size; (try simp only [sA, sB, sC, sD] at hz3); (try (obtain ⟨qt, qu, xc⟩ := cf2 hb3 (w.heap.size); simp [go_sem, *] at qt qu xc)); (try have xf : w.heap.size < w3.heap.size := by omega); (try (obtain ⟨qw, qz, xe⟩ := cf2 hb3 (w.heap.size + 1); simp [go_sem, *] at qw qz xe)); (try have xg : w.heap.size + 1 < w3.heap.size := by omega); (try clear qa qb qg); (try clear qm); (try clear qc qf qh); (try clear qp); (try clear qi qj qq); (try clear xa); (try clear qk ql qr); (try clear xb)))
  go_ret2
  exact newX_nil bel
noncomputable def dpV (A B x y e : Int) : Int × Int × Int × Bool := if (cvB A B && ptB A B x y e) = true then ptS A x y e x y e else (0, 0, 0, false)
theorem sDoublePoint_any (A B x y e : Int) (w : World) : Calls Tryz.prog 21 #[.agg #[.int .i64 A, .int .i64 B], .agg #[.int .i64 x, .int .i64 y, .int .i64 e]] w fun r w' =>
  r = .returned (.tuple #[.agg #[.int .i64 (dpV A B x y e).1, .int .i64 (dpV A B x y e).2.1, .int .i64 (dpV A B x y e).2.2.1], .bool (dpV A B x y e).2.2.2]) ∧ Below w.heap.size w w' := by
 have T1 := fun W : World => Lib.hid (IsPointOf_any A B x y e W)
 unfold dpV
 rcases h1 : (cvB A B && ptB A B x y e) with _ | _
 ·rw [h1] at T1
  rw [if_neg (by simp)]
  have T2 := T1
  clear h1
  have tok1 := trivial
  have tok2 := trivial
  go_enter Tryz.func21, Tryz.ntmps21
  go_wp2_with (first | (have _t := tok1; go_at_call 53; (with_reducible refine ((T1 _).out).mono ?_); rintro e w1 ⟨rfl, hb1⟩; clear tok1 _t; have hz1 := hb1.size; (try simp only [sA, sB, sC, sD] at hz1); (try (obtain ⟨qa, qb, qh⟩ := cf2 hb1 (w.heap.size); simp [go_sem, *] at qa qb qh)); (try have qq : w.heap.size < w1.heap.size := by omega); (try (obtain ⟨qc, qf, qg, qi⟩ := cf3 hb1 (w.heap.size + 1); simp [go_sem, *] at qc qf qg qi)); (try have qr : w.heap.size + 1 < w1.heap.size := by omega); (try (obtain ⟨qt, qu, qw, xb⟩ := cf3 hb1 (w.heap.size + 1 + 1); simp [go_sem, *] at qt qu qw xb)); (try have xg : w.heap.size + 1 + 1 < w1.heap.size := by omega); (try (obtain ⟨qa, qb, qh⟩ := cf2 hb1 (w.heap.size); simp [go_sem, *] at qa qb qh)); (try have qq : w.heap.size < w1.heap.size := by omega); (try (obtain ⟨qc, qf, qg, qi⟩ := cf3 hb1 (w.heap.size + 1); simp [go_sem, *] at qc qf qg qi)); (try have qr : w.heap.size + 1 < w1.heap.size := by omega)) | (have _t := tok2; go_at_call 54; (with_reducible refine ((T2 _).out).mono ?_); rintro e w2 ⟨rfl, hb2⟩; clear tok2 _t; have hz2 := hb2.size; (try simp only [sA, sB, sC, sD] at hz2); (try (obtain ⟨qj, qk, qz⟩ := cf2 hb2 (w.heap.size); simp [go_sem, *] at qj qk qz)); (try have xh : w.heap.size < w2.heap.size := by omega); (try (obtain ⟨ql, qm, qp, xa⟩ := cf3 hb2 (w.heap.size + 1); simp [go_sem, *] at ql qm qp xa)); (try have xi : w.heap.size + 1 < w2.heap.size := by omega); (try (obtain ⟨xc, xe, xf, xj⟩ := cf3 hb2 (w.heap.size + 1 + 1); simp [go_sem, *] at xc xe xf xj)); (try have xk : w.heap.size + 1 + 1 < w2.heap.size := by omega); (try (obtain ⟨qj, qk, qz⟩ := cf2 hb2 (w.heap.size); simp [go_sem, *] at qj qk qz)); (try have xh : w.heap.size < w2.heap.size := by omega); (try (obtain ⟨ql, qm, qp, xa⟩ := cf3 hb2 (w.heap.size + 1); simp [go_sem, *] at ql qm qp xa)); (try have xi : w.heap.size + 1 < w2.heap.size := by omega); (try clear qa qb qh); (try clear qq); (try clear qc qf qg qi); (try clear qr); (try clear qt qu qw xb); (try clear xg); (try clear qa qb qh); (try clear qq); (try clear qc qf qg qi); (try clear qr)))
  (refine bodyPost_ret (v := .tuple #[.agg #[.int .i64 0, .int .i64 0, .int .i64 0], .bool false]) (by simp [results, Tryz.results21, go_sem, *]) rfl ⟨rfl, by exact bel⟩)
 ·rw [h1] at T1
  rw [if_pos rfl]
  rw [Bool.and_eq_true] at h1
  have hc := cvB_bd h1.1
  have T2 := fun W : World => Lib.hid (ptAdd_any A B x y e x y e W hc.1 hc.2.1 h1.2 h1.2)
  generalize ptS A x y e x y e = v at *
  clear h1
  have tok1 := trivial
  have tok2 := trivial
  go_enter Tryz.func21, Tryz.ntmps21
  go_wp2_with (first | (have _t := tok1; go_at_call 53; (with_reducible refine ((T1 _).out).mono ?_); rintro e w1 ⟨rfl, hb1⟩; clear tok1 _t; have hz1 := hb1.size; (try simp only [sA, sB, sC, sD] at hz1); (try (obtain ⟨qa, qb, qh⟩ := cf2 hb1 (w.heap.size); simp [go_sem, *] at qa qb qh)); (try have qq : w.heap.size < w1.heap.size := by omega); (try (obtain ⟨qc, qf, qg, qi⟩ := cf3 hb1 (w.heap.size + 1); simp [go_sem, *] at qc qf qg qi)); (try have qr : w.heap.size + 1 < w1.heap.size := by omega); (try (obtain ⟨qt, qu, qw, xb⟩ := cf3 hb1 (w.heap.size + 1 + 1); simp [go_sem, *] at qt qu qw xb)); (try have xg : w.heap.size + 1 + 1 < w1.heap.size := by omega); (try (obtain ⟨qa, qb, qh⟩ := cf2 hb1 (w.heap.size); simp [go_sem, *] at qa qb qh)); (try have qq : w.heap.size < w1.heap.size := by omega); (try (obtain ⟨qc, qf, qg, qi⟩ := cf3 hb1 (w.heap.size + 1); simp [go_sem, *] at qc qf qg qi)); (try have qr : w.heap.size + 1 < w1.heap.size := by omega)) | (have _t := tok2; go_at_call 54; (with_reducible refine ((T2 _).out).mono ?_); rintro e w2 ⟨rfl, hb2⟩; clear tok2 _t; have hz2 := hb2.size; (try simp only [sA, sB, sC, sD] at hz2); (try (obtain ⟨qj, qk, qz⟩ := cf2 hb2 (w.heap.size); simp [go_sem, *] at qj qk qz)); (try have xh : w.heap.size < w2.heap.size := by omega); (try (obtain ⟨ql, qm, qp, xa⟩ := cf3 hb2 (w.heap.size + 1); simp [go_sem, *] at ql qm qp xa)); (try have xi : w.heap.size + 1 < w2.heap.size := by omega); (try (obtain ⟨xc, xe, xf, xj⟩ := cf3 hb2 (w.heap.size + 1 + 1); simp [go_sem, *] at xc xe xf xj)); (try have xk : w.heap.size + 1 + 1 < w2.heap.size := by omega); (try (obtain ⟨qj, qk, qz⟩ := cf2 hb2 (w.heap.size); simp [go_sem, *] at qj qk qz)); (try have xh : w.heap.size < w2.heap.size := by omega); (try (obtain ⟨ql, qm, qp, xa⟩ := cf3 hb2 (w.heap.size + 1); simp [go_sem, *] at ql qm qp xa)); (try have xi : w.heap.size + 1 < w2.heap.size := by omega); (try clear qa qb qh); (try clear qq); (try clear qc qf qg qi); (try clear qr); (try clear qt qu qw xb); (try clear xg); (try clear qa qb qh); (try clear qq); (try clear qc qf qg qi); (try clear qr)))
  refine bodyPost_ret (v := _) (by simp [results, Tryz.results21, go_sem, *]) rfl ⟨rfl, ?_⟩
  exact bel
theorem DoublePoint_any (A B x y e : Int) (w : World) : Calls Tryz.prog 20 #[.agg #[.int .i64 A, .int .i64 B], .agg #[.int .i64 x, .int .i64 y, .int .i64 e]] w fun r w' =>
  r = .returned (.tuple #[.agg #[.int .i64 (dpV A B x y e).1, .int .i64 (dpV A B x y e).2.1, .int .i64 (dpV A B x y e).2.2.1], .bool (dpV A B x y e).2.2.2]) ∧ Below w.heap.size w w' := by
 have T1 := fun W : World => Lib.hid (isPoint_any A B x y e W)
 unfold dpV
 rcases h1 : (cvB A B && ptB A B x y e) with _ | _
 ·rw [h1] at T1
  rw [if_neg (by simp)]
  have T2 := T1
  clear h1
  have tok1 := trivial
  have tok2 := trivial
  go_enter Tryz.func20, Tryz.ntmps20
  go_wp2_with (first | (have _t := tok1; go_at_call 51; (with_reducible refine ((T1 _).out).mono ?_); rintro e w1 ⟨rfl, hb1⟩; clear tok1 _t; have hz1 := hb1.size; (try simp only [sA, sB, sC, sD] at hz1); (try (obtain ⟨qa, qb, qh⟩ := cf2 hb1 (w.heap.size); simp [go_sem, *] at qa qb qh)); (try have qq : w.heap.size < w1.heap.size := by omega); (try (obtain ⟨qc, qf, qg, qi⟩ := cf3 hb1 (w.heap.size + 1); simp [go_sem, *] at qc qf qg qi)); (try have qr : w.heap.size + 1 < w1.heap.size := by omega); (try (obtain ⟨qt, qu, qw, xb⟩ := cf3 hb1 (w.heap.size + 1 + 1); simp [go_sem, *] at qt qu qw xb)); (try have xg : w.heap.size + 1 + 1 < w1.heap.size := by omega); (try (obtain ⟨qa, qb, qh⟩ := cf2 hb1 (w.heap.size); simp [go_sem, *] at qa qb qh)); (try have qq : w.heap.size < w1.heap.size := by omega); (try (obtain ⟨qc, qf, qg, qi⟩ := cf3 hb1 (w.heap.size + 1); simp [go_sem, *] at qc qf qg qi)); (try have qr : w.heap.size + 1 < w1.heap.size := by omega)) | (have _t := tok2; go_at_call 52; (with_reducible refine ((T2 _).out).mono ?_); rintro e w2 ⟨rfl, hb2⟩; clear tok2 _t; have hz2 := hb2.size; (try simp only [sA, sB, sC, sD] at hz2); (try (obtain ⟨qj, qk, qz⟩ := cf2 hb2 (w.heap.size); simp [go_sem, *] at qj qk qz)); (try have xh : w.heap.size < w2.heap.size := by omega); (try (obtain ⟨ql, qm, qp, xa⟩ := cf3 hb2 (w.heap.size + 1); simp [go_sem, *] at ql qm qp xa)); (try have xi : w.heap.size + 1 < w2.heap.size := by omega); (try (obtain ⟨xc, xe, xf, xj⟩ := cf3 hb2 (w.heap.size + 1 + 1); simp [go_sem, *] at xc xe xf xj)); (try have xk : w.heap.size + 1 + 1 < w2.heap.size := by omega); (try (obtain ⟨qj, qk, qz⟩ := cf2 hb2 (w.heap.size); simp [go_sem, *] at qj qk qz)); (try have xh : w.heap.size < w2.heap.size := by omega); (try (obtain ⟨ql, qm, qp, xa⟩ := cf3 hb2 (w.heap.size + 1); simp [go_sem, *] at ql qm qp xa)); (try have xi : w.heap.size + 1 < w2.heap.size := by omega); (try clear qa qb qh); (try clear qq); (try clear qc qf qg qi); (try clear qr); (try clear qt qu qw xb); (try clear xg); (try clear qa qb qh); (try clear qq); (try clear qc qf qg qi); (try clear qr)))
  (refine bodyPost_ret (v := .tuple #[.agg #[.int .i64 0, .int .i64 0, .int .i64 0], .bool false]) (by simp [results, Tryz.results20, go_sem, *]) rfl ⟨rfl, by exact bel⟩)
 ·rw [h1] at T1
  rw [if_pos rfl]
  rw [Bool.and_eq_true] at h1
  have hc := cvB_bd h1.1
  have T2 := fun W : World => Lib.hid (addPoints_any A B x y e x y e W hc.1 hc.2.1 h1.2 h1.2)
  generalize ptS A x y e x y e = v at *
  clear h1
  have tok1 := trivial
  have tok2 := trivial
  go_enter Tryz.func20, Tryz.ntmps20
  go_wp2_with (first | (have _t := tok1; go_at_call 51; (with_reducible refine ((T1 _).out).mono ?_); rintro e w1 ⟨rfl, hb1⟩; clear tok1 _t; have hz1 := hb1.size; (try simp only [sA, sB, sC, sD] at hz1); (try (obtain ⟨qa, qb, qh⟩ := cf2 hb1 (w.heap.size); simp [go_sem, *] at qa qb qh)); (try have qq : w.heap.size < w1.heap.size := by omega); (try (obtain ⟨qc, qf, qg, qi⟩ := cf3 hb1 (w.heap.size + 1); simp [go_sem, *] at qc qf qg qi)); (try have qr : w.heap.size + 1 < w1.heap.size := by omega); (try (obtain ⟨qt, qu, qw, xb⟩ := cf3 hb1 (w.heap.size + 1 + 1); simp [go_sem, *] at qt qu qw xb)); (try have xg : w.heap.size + 1 + 1 < w1.heap.size := by omega); (try (obtain ⟨qa, qb, qh⟩ := cf2 hb1 (w.heap.size); simp [go_sem, *] at qa qb qh)); (try have qq : w.heap.size < w1.heap.size := by omega); (try (obtain ⟨qc, qf, qg, qi⟩ := cf3 hb1 (w.heap.size + 1); simp [go_sem, *] at qc qf qg qi)); (try have qr : w.heap.size + 1 < w1.heap.size := by omega)) | (have _t := tok2; go_at_call 52; (with_reducible refine ((T2 _).out).mono ?_); rintro e w2 ⟨rfl, hb2⟩; clear tok2 _t; have hz2 := hb2.size; (try simp only [sA, sB, sC, sD] at hz2); (try (obtain ⟨qj, qk, qz⟩ := cf2 hb2 (w.heap.size); simp [go_sem, *] at qj qk qz)); (try have xh : w.heap.size < w2.heap.size := by omega); (try (obtain ⟨ql, qm, qp, xa⟩ := cf3 hb2 (w.heap.size + 1); simp [go_sem, *] at ql qm qp xa)); (try have xi : w.heap.size + 1 < w2.heap.size := by omega); (try (obtain ⟨xc, xe, xf, xj⟩ := cf3 hb2 (w.heap.size + 1 + 1); simp [go_sem, *] at xc xe xf xj)); (try have xk : w.heap.size + 1 + 1 < w2.heap.size := by omega); (try (obtain ⟨qj, qk, qz⟩ := cf2 hb2 (w.heap.size); simp [go_sem, *] at qj qk qz)); (try have xh : w.heap.size < w2.heap.size := by omega); (try (obtain ⟨ql, qm, qp, xa⟩ := cf3 hb2 (w.heap.size + 1); simp [go_sem, *] at ql qm qp xa)); (try have xi : w.heap.size + 1 < w2.heap.size := by omega); (try clear qa qb qh); (try clear qq); (try clear qc qf qg qi); (try clear qr); (try clear qt qu qw xb); (try clear xg); (try clear qa qb qh); (try clear qq); (try clear qc qf qg qi); (try clear qr)))
  refine bodyPost_ret (v := _) (by simp [results, Tryz.results20, go_sem, *]) rfl ⟨rfl, ?_⟩
  exact bel
theorem DrawIsTwoPoint_any {s : Option Addr} {n c : Nat} {w : World} (h : ByW w s n) :
  Calls Tryz.prog 22 #[.slice s n c] w fun e w' => ∃ a b x1 x2 y1 y2 : Int, e = .returned (.tuple #[.agg #[.int .i64 a, .int .i64 b], .agg #[.int .i64 x1, .int .i64 x2], .agg #[.int .i64 y1, .int .i64 y2]]) ∧ Below w.heap.size w w' := by
 have tok1 := trivial
 go_enter Tryz.func22, Tryz.ntmps22
 go_upto_region 2 with fail
 have hC := CurB.new (T := 63) (W := (((w.alloc (.cells #[.int .i64 0, .int .i64 0] 24)).alloc (.cells #[.int .i64 0, .int .i64 0] 26)).alloc (.cells #[.int .i64 0, .int .i64 0] 26))) (c := c) (y := 0) (h.byt bel) h.max
 simp only [World.size_alloc] at hC
 have hgl := hC.low
 go_wp2_with (first | (have _t := tok1; go_at_call 36; refine (twoPointed_any cbb (by omega)).mono ?_; rintro e w1 ⟨a1, b1, n1, d1, n2, d2, rfl, hb1⟩; clear tok1 _t; have hz1 := hb1.size; (try simp only [sA, sB, sC, sD] at hz1); (try (refine curCell' hb1 (w.heap.size) 0 ?_ ?_ ?_; (focus (go_size; done)); (focus (omega; done)); intro qa; simp [go_sem, *] at qa)); (try (refine curCell' hb1 (w.heap.size) 1 ?_ ?_ ?_; (focus (go_size; done)); (focus (omega; done)); intro qb; simp [go_sem, *] at qb)); (try (refine curFroz' hb1 (w.heap.size) ?_ ?_ ?_; (focus (go_size; done)); (focus (omega; done)); intro qi; simp [go_sem, *] at qi)); (try (refine (fun (ql : w.heap.size < w1.heap.size) => ?_) ?_; rotate_left; (focus (omega; done)))); (try (refine curCell' hb1 (w.heap.size + 1) 0 ?_ ?_ ?_; (focus (go_size; done)); (focus (omega; done)); intro qc; simp [go_sem, *] at qc)); (try (refine curCell' hb1 (w.heap.size + 1) 1 ?_ ?_ ?_; (focus (go_size; done)); (focus (omega; done)); intro qf; simp [go_sem, *] at qf)); (try (refine curFroz' hb1 (w.heap.size + 1) ?_ ?_ ?_; (focus (go_size; done)); (focus (omega; done)); intro qj; simp [go_sem, *] at qj)); (try (refine (fun (qm : w.heap.size + 1 < w1.heap.size) => ?_) ?_; rotate_left; (focus (omega; done)))); (try (refine curCell' hb1 (w.heap.size + 1 + 1) 0 ?_ ?_ ?_; (focus (go_size; done)); (focus (omega; done)); intro qg; simp [go_sem, *] at qg)); (try (refine curCell' hb1 (w.heap.size + 1 + 1) 1 ?_ ?_ ?_; (focus (go_size; done)); (focus (omega; done)); intro qh; simp [go_sem, *] at qh)); (try (refine curFroz' hb1 (w.heap.size + 1 + 1) ?_ ?_ ?_; (focus (go_size; done)); (focus (omega; done)); intro qk; simp [go_sem, *] at qk)); (try (refine (fun (qp : w.heap.size + 1 + 1 < w1.heap.size) => ?_) ?_; rotate_left; (focus (omega; done))))))
 (refine bodyPost_ret (v := .tuple #[.agg #[.int .i64 a1, .int .i64 b1], .agg #[.int .i64 n1, .int .i64 d1], .agg #[.int .i64 n2, .int .i64 d2]]) (by simp [results, Tryz.results22, go_sem, *]) rfl ⟨_, _, _, _, _, _, rfl, by (repeat' first | (with_reducible first | apply zRf | assumption | apply zDn | apply zDr | apply zAl | apply zSt | refine cr_below (by assumption) ?_ ?_ ?_ | refine zVi (by assumption) ?_ ?_) | go_size | (simp only [sA, sB, sC, sD]; omega) | omega)⟩)
theorem DrawImageOf_any {s : Option Addr} {n c : Nat} {w : World} (h : ByW w s n) :
  Calls Tryz.prog 4 #[.slice s n c] w fun e w' => ∃ a b x1 x2 y1 y2 : Int, e = .returned (.tuple #[.agg #[.int .i64 a, .int .i64 b], .agg #[.int .i64 x1, .int .i64 x2], .agg #[.int .i64 y1, .int .i64 y2]]) ∧ Below w.heap.size w w' := by
 have tok1 := trivial
 go_enter Tryz.func4, Tryz.ntmps4
 go_wp2_with (first | (have _t := tok1; go_at_call 22; refine (DrawIsTwoPoint_any (h.below bel)).mono ?_; rintro e w1 ⟨a1, b1, n1, d1, n2, d2, rfl, hb1⟩; clear tok1 _t; have hz1 := hb1.size; (try simp only [sA, sB, sC, sD] at hz1); (try (obtain ⟨qa, qb, qi⟩ := cf2 hb1 (w.heap.size); simp [go_sem, *] at qa qb qi)); (try have ql : w.heap.size < w1.heap.size := by omega); (try (obtain ⟨qc, qf, qj⟩ := cf2 hb1 (w.heap.size + 1); simp [go_sem, *] at qc qf qj)); (try have qm : w.heap.size + 1 < w1.heap.size := by omega); (try (obtain ⟨qg, qh, qk⟩ := cf2 hb1 (w.heap.size + 1 + 1); simp [go_sem, *] at qg qh qk)); (try have qp : w.heap.size + 1 + 1 < w1.heap.size := by omega)))
 (refine bodyPost_ret (v := .tuple #[.agg #[.int .i64 a1, .int .i64 b1], .agg #[.int .i64 n1, .int .i64 d1], .agg #[.int .i64 n2, .int .i64 d2]]) (by simp [results, Tryz.results4, go_sem, *]) rfl ⟨_, _, _, _, _, _, rfl, by exact bel⟩)
theorem sIm_ex (a b nx dx ny dy : Int) (w : World) : Calls Tryz.prog 6 #[.agg #[.int .i64 a, .int .i64 b], .agg #[.int .i64 nx, .int .i64 dx], .agg #[.int .i64 ny, .int .i64 dy]] w fun e w' => ∃ (x1 x2 y1 y2 : Int) (o : Bool), e = .returned (.tuple #[.agg #[.int .i64 x1, .int .i64 x2], .agg #[.int .i64 y1, .int .i64 y2], .bool o]) ∧ Below w.heap.size w w' :=
 (sImageOf_any a b nx dx ny dy w).mono fun e w' h => ⟨_, _, _, _, _, h.1, h.2⟩
theorem DrawBackImage_any {s : Option Addr} {n c : Nat} {w : World} (h : ByW w s n) :
  Calls Tryz.prog 7 #[.slice s n c] w fun e w' => ∃ a b x1 x2 y1 y2 : Int, e = .returned (.tuple #[.agg #[.int .i64 a, .int .i64 b], .agg #[.int .i64 x1, .int .i64 x2], .agg #[.int .i64 y1, .int .i64 y2]]) ∧ Below w.heap.size w w' := by
 have tok1 := trivial
 have tok2 := trivial
 have tok3 := trivial
 go_enter Tryz.func7, Tryz.ntmps7
 go_upto_region 2 with fail
 have hC := CurB.new (T := 63) (W := (((w.alloc (.cells #[.int .i64 0, .int .i64 0] 24)).alloc (.cells #[.int .i64 0, .int .i64 0] 26)).alloc (.cells #[.int .i64 0, .int .i64 0] 26))) (c := c) (y := 0) (h.byt bel) h.max
 simp only [World.size_alloc] at hC
 have hgl := hC.low
 go_upto_region 4 with (first | (have _t := tok1; go_at_call 36; refine (twoPointed_any cbb (by omega)).mono ?_; rintro e w1 ⟨a1, b1, n1, d1, n2, d2, rfl, hb1⟩; clear tok1 _t; have hz1 := hb1.size; (try simp only [sA, sB, sC, sD] at hz1); (try (refine curCell' hb1 (w.heap.size) 0 ?_ ?_ ?_; (focus (go_size; done)); (focus (omega; done)); intro qa; simp [go_sem, *] at qa)); (try (refine curCell' hb1 (w.heap.size) 1 ?_ ?_ ?_; (focus (go_size; done)); (focus (omega; done)); intro qb; simp [go_sem, *] at qb)); (try (refine curFroz' hb1 (w.heap.size) ?_ ?_ ?_; (focus (go_size; done)); (focus (omega; done)); intro xu; simp [go_sem, *] at xu)); (try (refine (fun (zf : w.heap.size < w1.heap.size) => ?_) ?_; rotate_left; (focus (omega; done)))); (try (refine curCell' hb1 (w.heap.size + 1) 0 ?_ ?_ ?_; (focus (go_size; done)); (focus (omega; done)); intro qc; simp [go_sem, *] at qc)); (try (refine curCell' hb1 (w.heap.size + 1) 1 ?_ ?_ ?_; (focus (go_size; done)); (focus (omega; done)); intro qf; simp [go_sem, *] at qf)); (try (refine curFroz' hb1 (w.heap.size + 1) ?_ ?_ ?_; (focus (go_size; done)); (focus (omega; done)); intro xv; simp [go_sem, *] at xv)); (try (refine (fun (zg : w.heap.size + 1 < w1.heap.size) => ?_) ?_; rotate_left; (focus (omega; done)))); (try (refine curCell' hb1 (w.heap.size + 1 + 1) 0 ?_ ?_ ?_; (focus (go_size; done)); (focus (omega; done)); intro qg; simp [go_sem, *] at qg)); (try (refine curCell' hb1 (w.heap.size + 1 + 1) 1 ?_ ?_ ?_; (focus (go_size; done)); (focus (omega; done)); intro qh; simp [go_sem, *] at qh)); (try (refine curFroz' hb1 (w.heap.size + 1 + 1) ?_ ?_ ?_; (focus (go_size; done)); (focus (omega; done)); intro xw; simp [go_sem, *] at xw)); (try (refine (fun (zh : w.heap.size + 1 + 1 < w1.heap.size) => ?_) ?_; rotate_left; (focus (omega; done)))); have sz1 := hb1.size; simp only [World.size_alloc] at sz1; have ne1 : w.heap.size < w1.heap.size + 1 := (by omega); have ne2 : w.heap.size < w1.heap.size + 1 + 1 := (by omega)) | (have _t := tok2; go_at_call 6; refine (sIm_ex _ _ _ _ _ _ _).mono ?_; rintro e w2 ⟨p1, p2, q1, q2, o2, rfl, hb2⟩; clear tok2 _t; have hz2 := hb2.size; (try simp only [sA, sB, sC, sD] at hz2); (try (obtain ⟨xf, xg, zi⟩ := cf2 hb2 (w.heap.size); simp [go_sem, *] at xf xg zi)); (try have zr : w.heap.size < w2.heap.size := by omega); (try (obtain ⟨xh, xi, zj⟩ := cf2 hb2 (w.heap.size + 1); simp [go_sem, *] at xh xi zj)); (try have zt : w.heap.size + 1 < w2.heap.size := by omega); (try (obtain ⟨xj, xk, zk⟩ := cf2 hb2 (w.heap.size + 1 + 1); simp [go_sem, *] at xj xk zk)); (try have zu : w.heap.size + 1 + 1 < w2.heap.size := by omega); (try (obtain ⟨qi, qj, xx⟩ := cf2 hb2 (w1.heap.size); simp [go_sem, *] at qi qj xx)); (try have zo : w1.heap.size < w2.heap.size := by omega); (try (obtain ⟨qk, ql, xy⟩ := cf2 hb2 (w1.heap.size + 1); simp [go_sem, *] at qk ql xy)); (try have zp : w1.heap.size + 1 < w2.heap.size := by omega); (try (obtain ⟨qm, qp, xz⟩ := cf2 hb2 (w1.heap.size + 1 + 1); simp [go_sem, *] at qm qp xz)); (try have zq : w1.heap.size + 1 + 1 < w2.heap.size := by omega); (try clear qa qb xu); (try clear zf); (try clear qc qf xv); (try clear zg); (try clear qg qh xw); (try clear zh)))
 cases o2
 ·go_upto_region 6 with (first | (have _t := tok3; go_at_call 37; refine (one_any cbb (by omega) (by omega) (by omega)).mono ?_; rintro e w3 ⟨x3, rfl, hb3⟩; clear tok3 _t; have hz3 := hb3.size; (try simp only [sA, sB, sC, sD] at hz3); (try (refine curCell' hb3 (w.heap.size) 0 ?_ ?_ ?_; (focus (go_size; done)); (focus (omega; done)); intro xl; simp [go_sem, *] at xl)); (try (refine curCell' hb3 (w.heap.size) 1 ?_ ?_ ?_; (focus (go_size; done)); (focus (omega; done)); intro xm; simp [go_sem, *] at xm)); (try (refine curFroz' hb3 (w.heap.size) ?_ ?_ ?_; (focus (go_size; done)); (focus (omega; done)); intro zl; simp [go_sem, *] at zl)); (try (refine (fun (jc : w.heap.size < w3.heap.size) => ?_) ?_; rotate_left; (focus (omega; done)))); (try (refine curCell' hb3 (w.heap.size + 1) 0 ?_ ?_ ?_; (focus (go_size; done)); (focus (omega; done)); intro xp; simp [go_sem, *] at xp)); (try (refine curCell' hb3 (w.heap.size + 1) 1 ?_ ?_ ?_; (focus (go_size; done)); (focus (omega; done)); intro xq; simp [go_sem, *] at xq)); (try (refine curFroz' hb3 (w.heap.size + 1) ?_ ?_ ?_; (focus (go_size; done)); (focus (omega; done)); intro zm; simp [go_sem, *] at zm)); (try (refine (fun (jd : w.heap.size + 1 < w3.heap.size) => ?_) ?_; rotate_left; (focus (omega; done)))); (try (refine curCell' hb3 (w.heap.size + 1 + 1) 0 ?_ ?_ ?_; (focus (go_size; done)); (focus (omega; done)); intro xr; simp [go_sem, *] at xr)); (try (refine curCell' hb3 (w.heap.size + 1 + 1) 1 ?_ ?_ ?_; (focus (go_size; done)); (focus (omega; done)); intro xt; simp [go_sem, *] at xt)); (try (refine curFroz' hb3 (w.heap.size + 1 + 1) ?_ ?_ ?_; (focus (go_size; done)); (focus (omega; done)); intro zn; simp [go_sem, *] at zn)); (try (refine (fun (je : w.heap.size + 1 + 1 < w3.heap.size) => ?_) ?_; rotate_left; (focus (omega; done)))); (try (refine curCell' hb3 (w1.heap.size) 0 ?_ ?_ ?_; (focus (go_size; done)); (focus (omega; done)); intro qq; simp [go_sem, *] at qq)); (try (refine curCell' hb3 (w1.heap.size) 1 ?_ ?_ ?_; (focus (go_size; done)); (focus (omega; done)); intro qr; simp [go_sem, *] at qr)); (try (refine curFroz' hb3 (w1.heap.size) ?_ ?_ ?_; (focus (go_size; done)); (focus (omega; done)); intro za; simp [go_sem, *] at za)); (try (refine (fun (zv : w1.heap.size < w3.heap.size) => ?_) ?_; rotate_left; (focus (omega; done)))); (try (refine curCell' hb3 (w1.heap.size + 1) 0 ?_ ?_ ?_; (focus (go_size; done)); (focus (omega; done)); intro qt; simp [go_sem, *] at qt)); (try (refine curCell' hb3 (w1.heap.size + 1) 1 ?_ ?_ ?_; (focus (go_size; done)); (focus (omega; done)); intro qu; simp [go_sem, *] at qu)); (try (refine curFroz' hb3 (w1.heap.size + 1) ?_ ?_ ?_; (focus (go_size; done)); (focus (omega; done)); intro zb; simp [go_sem, *] at zb)); (try (refine (fun (zw : w1.heap.size + 1 < w3.heap.size) => ?_) ?_; rotate_left; (focus (omega; done)))); (try (refine curCell' hb3 (w1.heap.size + 1 + 1) 0 ?_ ?_ ?_; (focus (go_size; done)); (focus (omega; done)); intro qw; simp [go_sem, *] at qw)); (try (refine curCell' hb3 (w1.heap.size + 1 + 1) 1 ?_ ?_ ?_; (focus (go_size; done)); (focus (omega; done)); intro qz; simp [go_sem, *] at qz)); (try (refine curFroz' hb3 (w1.heap.size + 1 + 1) ?_ ?_ ?_; (focus (go_size; done)); (focus (omega; done)); intro zc; simp [go_sem, *] at zc)); (try (refine (fun (zx : w1.heap.size + 1 + 1 < w3.heap.size) => ?_) ?_; rotate_left; (focus (omega; done)))); (try (refine curCell' hb3 (w2.heap.size) 0 ?_ ?_ ?_; (focus (go_size; done)); (focus (omega; done)); intro xa; simp [go_sem, *] at xa)); (try (refine curCell' hb3 (w2.heap.size) 1 ?_ ?_ ?_; (focus (go_size; done)); (focus (omega; done)); intro xb; simp [go_sem, *] at xb)); (try (refine curFroz' hb3 (w2.heap.size) ?_ ?_ ?_; (focus (go_size; done)); (focus (omega; done)); intro zd; simp [go_sem, *] at zd)); (try (refine (fun (zy : w2.heap.size < w3.heap.size) => ?_) ?_; rotate_left; (focus (omega; done)))); (try (refine curCell' hb3 (w2.heap.size + 1) 0 ?_ ?_ ?_; (focus (go_size; done)); (focus (omega; done)); intro xc; simp [go_sem, *] at xc)); (try (refine curCell' hb3 (w2.heap.size + 1) 1 ?_ ?_ ?_; (focus (go_size; done)); (focus (omega; done)); intro xe; simp [go_sem, *] at xe)); (try (refine curFroz' hb3 (w2.heap.size + 1) ?_ ?_ ?_; (focus (go_size; done)); (focus (omega; done)); intro ze; simp [go_sem, *] at ze)); (try (refine (fun (zz : w2.heap.size + 1 < w3.heap.size) => ?_) ?_; rotate_left; (focus (omega; done)))); (try clear qa qb xu); (try clear zf); (try clear qc qf xv); (try clear zg); (try clear qg qh xw); (try clear zh); (try clear xf xg zi); (try clear zr); (try clear xh xi zj); (try clear zt); (try clear xj xk zk); (try clear zu); (try clear qi qj xx); (try clear zo); (try clear qk ql xy); (try clear zp); (try clear qm qp xz); (try clear zq)))
  go_region
  all_goals iterate 24 (first | (with_reducible show bodyPost _ _ _ _ _ _) | (with_reducible refine wp_ret ?_) | go_values | go_skip | go_guarded | go_step | go_upon | go_back | skip)
  all_goals (refine bodyPost_ret (v := .tuple #[.agg #[.int .i64 a1, .int .i64 b1], .agg #[.int .i64 n1, .int .i64 d1], .agg #[.int .i64 n2, .int .i64 d2]]) (by simp [results, Tryz.results7, go_sem, *]) rfl ⟨_, _, _, _, _, _, rfl, by (repeat' first | (with_reducible first | apply zRf | assumption | apply zDn | apply zDr | apply zAl | apply zSt | refine cr_below (by assumption) ?_ ?_ ?_ | refine zVi (by assumption) ?_ ?_) | go_size | (simp only [sA, sB, sC, sD]; omega) | omega)⟩)
 ·go_upto_region 5 with (first | (have _t := tok3; go_at_call 37; refine (one_any cbb (by omega) (by omega) (by omega)).mono ?_; rintro e w3 ⟨x3, rfl, hb3⟩; clear tok3 _t; have hz3 := hb3.size; (try simp only [sA, sB, sC, sD] at hz3); (try (refine curCell' hb3 (w.heap.size) 0 ?_ ?_ ?_; (focus (go_size; done)); (focus (omega; done)); intro xl; simp [go_sem, *] at xl)); (try (refine curCell' hb3 (w.heap.size) 1 ?_ ?_ ?_; (focus (go_size; done)); (focus (omega; done)); intro xm; simp [go_sem, *] at xm)); (try (refine curFroz' hb3 (w.heap.size) ?_ ?_ ?_; (focus (go_size; done)); (focus (omega; done)); intro zl; simp [go_sem, *] at zl)); (try (refine (fun (jc : w.heap.size < w3.heap.size) => ?_) ?_; rotate_left; (focus (omega; done)))); (try (refine curCell' hb3 (w.heap.size + 1) 0 ?_ ?_ ?_; (focus (go_size; done)); (focus (omega; done)); intro xp; simp [go_sem, *] at xp)); (try (refine curCell' hb3 (w.heap.size + 1) 1 ?_ ?_ ?_; (focus (go_size; done)); (focus (omega; done)); intro xq; simp [go_sem, *] at xq)); (try (refine curFroz' hb3 (w.heap.size + 1) ?_ ?_ ?_; (focus (go_size; done)); (focus (omega; done)); intro zm; simp [go_sem, *] at zm)); (try (refine (fun (jd : w.heap.size + 1 < w3.heap.size) => ?_) ?_; rotate_left; (focus (omega; done)))); (try (refine curCell' hb3 (w.heap.size + 1 + 1) 0 ?_ ?_ ?_; (focus (go_size; done)); (focus (omega; done)); intro xr; simp [go_sem, *] at xr)); (try (refine curCell' hb3 (w.heap.size + 1 + 1) 1 ?_ ?_ ?_; (focus (go_size; done)); (focus (omega; done)); intro xt; simp [go_sem, *] at xt)); (try (refine curFroz' hb3 (w.heap.size + 1 + 1) ?_ ?_ ?_; (focus (go_size; done)); (focus (omega; done)); intro zn; simp [go_sem, *] at zn)); (try (refine (fun (je : w.heap.size + 1 + 1 < w3.heap.size) => ?_) ?_; rotate_left; (focus (omega; done)))); (try (refine curCell' hb3 (w1.heap.size) 0 ?_ ?_ ?_; (focus (go_size; done)); (focus (omega; done)); intro qq; simp [go_sem, *] at qq)); (try (refine curCell' hb3 (w1.heap.size) 1 ?_ ?_ ?_; (focus (go_size; done)); (focus (omega; done)); intro qr; simp [go_sem, *] at qr)); (try (refine curFroz' hb3 (w1.heap.size) ?_ ?_ ?_; (focus (go_size; done)); (focus (omega; done)); intro za; simp [go_sem, *] at za)); (try (refine (fun (zv : w1.heap.size < w3.heap.size) => ?_) ?_; rotate_left; (focus (omega; done)))); (try (refine curCell' hb3 (w1.heap.size + 1) 0 ?_ ?_ ?_; (focus (go_size; done)); (focus (omega; done)); intro qt; simp [go_sem, *] at qt)); (try (refine curCell' hb3 (w1.heap.size + 1) 1 ?_ ?_ ?_; (focus (go_size; done)); (focus (omega; done)); intro qu; simp [go_sem, *] at qu)); (try (refine curFroz' hb3 (w1.heap.size + 1) ?_ ?_ ?_; (focus (go_size; done)); (focus (omega; done)); intro zb; simp [go_sem, *] at zb)); (try (refine (fun (zw : w1.heap.size + 1 < w3.heap.size) => ?_) ?_; rotate_left; (focus (omega; done)))); (try (refine curCell' hb3 (w1.heap.size + 1 + 1) 0 ?_ ?_ ?_; (focus (go_size; done)); (focus (omega; done)); intro qw; simp [go_sem, *] at qw)); (try (refine curCell' hb3 (w1.heap.size + 1 + 1) 1 ?_ ?_ ?_; (focus (go_size; done)); (focus (omega; done)); intro qz; simp [go_sem, *] at qz)); (try (refine curFroz' hb3 (w1.heap.size + 1 + 1) ?_ ?_ ?_; (focus (go_size; done)); (focus (omega; done)); intro zc; simp [go_sem, *] at zc)); (try (refine (fun (zx : w1.heap.size + 1 + 1 < w3.heap.size) => ?_) ?_; rotate_left; (focus (omega; done)))); (try (refine curCell' hb3 (w2.heap.size) 0 ?_ ?_ ?_; (focus (go_size; done)); (focus (omega; done)); intro xa; simp [go_sem, *] at xa)); (try (refine curCell' hb3 (w2.heap.size) 1 ?_ ?_ ?_; (focus (go_size; done)); (focus (omega; done)); intro xb; simp [go_sem, *] at xb)); (try (refine curFroz' hb3 (w2.heap.size) ?_ ?_ ?_; (focus (go_size; done)); (focus (omega; done)); intro zd; simp [go_sem, *] at zd)); (try (refine (fun (zy : w2.heap.size < w3.heap.size) => ?_) ?_; rotate_left; (focus (omega; done)))); (try (refine curCell' hb3 (w2.heap.size + 1) 0 ?_ ?_ ?_; (focus (go_size; done)); (focus (omega; done)); intro xc; simp [go_sem, *] at xc)); (try (refine curCell' hb3 (w2.heap.size + 1) 1 ?_ ?_ ?_; (focus (go_size; done)); (focus (omega; done)); intro xe; simp [go_sem, *] at xe)); (try (refine curFroz' hb3 (w2.heap.size + 1) ?_ ?_ ?_; (focus (go_size; done)); (focus (omega; done)); intro ze; simp [go_sem, *] at ze)); (try (refine (fun (zz : w2.heap.size + 1 < w3.heap.size) => ?_) ?_; rotate_left; (focus (omega; done)))); (try clear qa qb xu); (try clear zf); (try clear qc qf xv); (try clear zg); (try clear qg qh xw); (try clear zh); (try clear xf xg zi); (try clear zr); (try clear xh xi zj); (try clear zt); (try clear xj xk zk); (try clear zu); (try clear qi qj xx); (try clear zo); (try clear qk ql xy); (try clear zp); (try clear qm qp xz); (try clear zq)))
  ·go_region
   all_goals iterate 24 (first | (with_reducible show bodyPost _ _ _ _ _ _) | (with_reducible refine wp_ret ?_) | go_values | go_skip | go_guarded | go_step | go_upon | go_back | skip)
   all_goals (refine bodyPost_ret (v := .tuple #[.agg #[.int .i64 a1, .int .i64 b1], .agg #[.int .i64 p1, .int .i64 p2], .agg #[.int .i64 q1, .int .i64 q2]]) (by simp [results, Tryz.results7, go_sem, *]) rfl ⟨_, _, _, _, _, _, rfl, by (repeat' first | (with_reducible first | apply zRf | assumption | apply zDn | apply zDr | apply zAl | apply zSt | refine cr_below (by assumption) ?_ ?_ ?_ | refine zVi (by assumption) ?_ ?_) | go_size | (simp only [sA, sB, sC, sD]; omega) | omega)⟩)
  ·go_upto_region 6 with fail
   go_region
   all_goals iterate 24 (first | (with_reducible show bodyPost _ _ _ _ _ _) | (with_reducible refine wp_ret ?_) | go_values | go_skip | go_guarded | go_step | go_upon | go_back | skip)
   all_goals (refine bodyPost_ret (v := .tuple #[.agg #[.int .i64 a1, .int .i64 b1], .agg #[.int .i64 n1, .int .i64 d1], .agg #[.int .i64 n2, .int .i64 d2]]) (by simp [results, Tryz.results7, go_sem, *]) rfl ⟨_, _, _, _, _, _, rfl, by (repeat' first | (with_reducible first | apply zRf | assumption | apply zDn | apply zDr | apply zAl | apply zSt | refine cr_below (by assumption) ?_ ?_ ?_ | refine zVi (by assumption) ?_ ?_) | go_size | (simp only [sA, sB, sC, sD]; omega) | omega)⟩)
end Go.Proofs.YtnemnkbcbokafaaGreat
