/- Lemmas and contracts of functions. No condition. -/
import Derived.Test.YtnkmgpmehkholaaGreatPk3
import Derived.Test.YtnkmgpmehkholaaGreatPk18
import Derived.Test.YtnkmgpmehkholaaGreatPk50
import Derived.BigQuiet
import Derived.Deep.DeepCutAuto
import Derived.Deep.MidRow
import Derived.Deep.QuietTactic
import Derived.Deep.RegionHeld3
import Derived.Handy
import Derived.IntWalk
import Derived.Laws.AppendOwnNone
import Derived.Lib.BitFns
import Derived.Lib.Hide
import Derived.Lib.SliceRun
import Derived.Lib.Slices
import Derived.Lib.Small
import Derived.Lib.Strings
import Derived.Lib.Walk
import Derived.Maps.AppendAt
import Derived.StillTail
import Derived.Test.YtnkmgpmehkholaaGreatProg
import Derived.WalkKit
import Derived.WalkLawsBesides
import Derived.WalkSpells
namespace Go.Proofs.YtnkmgpmehkholaaGreat
section
open Go.RowKit
set_option linter.unusedVariables false
set_option linter.unusedSimpArgs false

/-- the width of an interval: a fraction in lowest terms, or zeros -/
def widN (n1 d1 n2 d2 : Int) : Int := if goodB n1 d1 n2 d2 = true then (mkF (plN n2 d2 - plN n1 d1) 4096).1 else 0
def widD (n1 d1 n2 d2 : Int) : Int := if goodB n1 d1 n2 d2 = true then (mkF (plN n2 d2 - plN n1 d1) 4096).2.1 else 0
def widB (n1 d1 n2 d2 : Int) : Bool := if goodB n1 d1 n2 d2 = true then (mkF (plN n2 d2 - plN n1 d1) 4096).2.2 else false
theorem wid_no {n1 d1 n2 d2 : Int} (h : goodB n1 d1 n2 d2 = false) : widN n1 d1 n2 d2 = 0 := by simp [widN, h]
theorem wid_no' {n1 d1 n2 d2 : Int} (h : goodB n1 d1 n2 d2 = false) : widD n1 d1 n2 d2 = 0 := by simp [widD, h]
theorem wid_no'' {n1 d1 n2 d2 : Int} (h : goodB n1 d1 n2 d2 = false) : widB n1 d1 n2 d2 = false := by simp [widB, h]
theorem wid_yes {n1 d1 n2 d2 : Int} (h : goodB n1 d1 n2 d2 = true) : widN n1 d1 n2 d2 = (mkF (plN n2 d2 - plN n1 d1) 4096).1 := by simp [widN, h]
theorem wid_yes' {n1 d1 n2 d2 : Int} (h : goodB n1 d1 n2 d2 = true) : widD n1 d1 n2 d2 = (mkF (plN n2 d2 - plN n1 d1) 4096).2.1 := by simp [widD, h]
theorem wid_yes'' {n1 d1 n2 d2 : Int} (h : goodB n1 d1 n2 d2 = true) : widB n1 d1 n2 d2 = (mkF (plN n2 d2 - plN n1 d1) 4096).2.2 := by simp [widB, h]
end
section
open Go.RowKit
set_option linter.unusedVariables false
set_option maxHeartbeats 4000000
set_option linter.unusedSimpArgs false
theorem sWidthOf_any (n1 d1 n2 d2 : Int) (w : World) : Calls Tryz.prog 21 #[.agg #[.int .i64 n1, .int .i64 d1, .int .i64 n2, .int .i64 d2]] w fun e w' =>
  e = .returned (.tuple #[.agg #[.int .i64 (widN n1 d1 n2 d2), .int .i64 (widD n1 d1 n2 d2)], .bool (widB n1 d1 n2 d2)]) ∧ Below w.heap.size w w' := by
 cases hg : goodB n1 d1 n2 d2
 ·rw [wid_no hg, wid_no' hg, wid_no'' hg]
  have tok1 := trivial
  have tok2 := trivial
  have tok3 := trivial
  go_enter Tryz.func21, Tryz.ntmps21
  go_wp2_with (first | (have _t := tok1; go_at_call 39; refine (ivGood_any _ _ _ _ _).mono ?_; rintro e w1 ⟨rfl, hb1⟩; clear tok1 _t; have hz1 := hb1.size; (try simp only [sA, sB, sC, sD] at hz1); (try (obtain ⟨kq, qg⟩ := cfAt hb1 (w.heap.size); have qa := kq 0; have qb := kq 1; have qc := kq 2; have qd := kq 3; clear kq; simp [go_sem, *] at qa qb qc qd qg)); (try have qo : w.heap.size < w1.heap.size := by omega); (try (obtain ⟨kq, qh⟩ := cfAt hb1 (w.heap.size + 1); have qe := kq 0; have qf := kq 1; clear kq; simp [go_sem, *] at qe qf qh)); (try have qq : w.heap.size + 1 < w1.heap.size := by omega)) | (have _t := tok2; go_at_call 40; refine (ivEnds_any _ _ _ _ _).mono ?_; rintro e w2 ⟨rfl, hb2⟩; clear tok2 _t; have hz2 := hb2.size; (try simp only [sA, sB, sC, sD] at hz2); (try (obtain ⟨kq, qr⟩ := cfAt hb2 (w.heap.size); have qi := kq 0; have qj := kq 1; have qk := kq 2; have ql := kq 3; clear kq; simp [go_sem, *] at qi qj qk ql qr)); (try have xa : w.heap.size < w2.heap.size := by omega); (try (obtain ⟨kq, qt⟩ := cfAt hb2 (w.heap.size + 1); have qm := kq 0; have qn := kq 1; clear kq; simp [go_sem, *] at qm qn qt)); (try have xb : w.heap.size + 1 < w2.heap.size := by omega); (try clear qa qb qc qd qg); (try clear qo); (try clear qe qf qh); (try clear qq)) | (have _t := tok3; go_at_call 41; refine (frMk_any _ _ (by omega)).mono ?_; rintro e w3 ⟨rfl, hb3⟩; clear tok3 _t; have hz3 := hb3.size; (try simp only [sA, sB, sC, sD] at hz3); (try (obtain ⟨kq, xc⟩ := cfAt hb3 (w.heap.size); have qu := kq 0; have qv := kq 1; have qw := kq 2; have qx := kq 3; clear kq; simp [go_sem, *] at qu qv qw qx xc)); (try have xe : w.heap.size < w3.heap.size := by omega); (try (obtain ⟨kq, xd⟩ := cfAt hb3 (w.heap.size + 1); have qy := kq 0; have qz := kq 1; clear kq; simp [go_sem, *] at qy qz xd)); (try have xf : w.heap.size + 1 < w3.heap.size := by omega); (try clear qa qb qc qd qg); (try clear qo); (try clear qe qf qh); (try clear qq); (try clear qi qj qk ql qr); (try clear xa); (try clear qm qn qt); (try clear xb)))
  refine bodyPost_ret (v := _) (by simp [results, Tryz.results21, go_sem, *]) rfl ⟨rfl, ?_⟩
  exact bel
 ·have g1 := goodB_bd hg
  rw [wid_yes hg, wid_yes' hg, wid_yes'' hg]
  have tok1 := trivial
  have tok2 := trivial
  have tok3 := trivial
  go_enter Tryz.func21, Tryz.ntmps21
  go_wp2_with (first | (have _t := tok1; go_at_call 39; refine (ivGood_any _ _ _ _ _).mono ?_; rintro e w1 ⟨rfl, hb1⟩; clear tok1 _t; have hz1 := hb1.size; (try simp only [sA, sB, sC, sD] at hz1); (try (obtain ⟨kq, qg⟩ := cfAt hb1 (w.heap.size); have qa := kq 0; have qb := kq 1; have qc := kq 2; have qd := kq 3; clear kq; simp [go_sem, *] at qa qb qc qd qg)); (try have qo : w.heap.size < w1.heap.size := by omega); (try (obtain ⟨kq, qh⟩ := cfAt hb1 (w.heap.size + 1); have qe := kq 0; have qf := kq 1; clear kq; simp [go_sem, *] at qe qf qh)); (try have qq : w.heap.size + 1 < w1.heap.size := by omega)) | (have _t := tok2; go_at_call 40; refine (ivEnds_any _ _ _ _ _).mono ?_; rintro e w2 ⟨rfl, hb2⟩; clear tok2 _t; have hz2 := hb2.size; (try simp only [sA, sB, sC, sD] at hz2); (try (obtain ⟨kq, qr⟩ := cfAt hb2 (w.heap.size); have qi := kq 0; have qj := kq 1; have qk := kq 2; have ql := kq 3; clear kq; simp [go_sem, *] at qi qj qk ql qr)); (try have xa : w.heap.size < w2.heap.size := by omega); (try (obtain ⟨kq, qt⟩ := cfAt hb2 (w.heap.size + 1); have qm := kq 0; have qn := kq 1; clear kq; simp [go_sem, *] at qm qn qt)); (try have xb : w.heap.size + 1 < w2.heap.size := by omega); (try clear qa qb qc qd qg); (try clear qo); (try clear qe qf qh); (try clear qq)) | (have _t := tok3; go_at_call 41; refine (frMk_any _ _ (by omega)).mono ?_; rintro e w3 ⟨rfl, hb3⟩; clear tok3 _t; have hz3 := hb3.size; (try simp only [sA, sB, sC, sD] at hz3); (try (obtain ⟨kq, xc⟩ := cfAt hb3 (w.heap.size); have qu := kq 0; have qv := kq 1; have qw := kq 2; have qx := kq 3; clear kq; simp [go_sem, *] at qu qv qw qx xc)); (try have xe : w.heap.size < w3.heap.size := by omega); (try (obtain ⟨kq, xd⟩ := cfAt hb3 (w.heap.size + 1); have qy := kq 0; have qz := kq 1; clear kq; simp [go_sem, *] at qy qz xd)); (try have xf : w.heap.size + 1 < w3.heap.size := by omega); (try clear qa qb qc qd qg); (try clear qo); (try clear qe qf qh); (try clear qq); (try clear qi qj qk ql qr); (try clear xa); (try clear qm qn qt); (try clear xb)))
  refine bodyPost_ret (v := _) (by simp [results, Tryz.results21, go_sem, *]) rfl ⟨rfl, ?_⟩
  exact bel
end
section
open Go.RowKit
set_option linter.unusedVariables false
set_option maxHeartbeats 4000000
set_option maxRecDepth 20000
set_option linter.unusedSimpArgs false
/-- the width of what PairingOf answers -/
noncomputable def pwV (A B x1 y1 e1 x2 y2 e2 : Int) : Int × Int × Bool :=
 if (prF A B x1 y1 e1 x2 y2 e2).2.2.2.2 = true then
  (widN (prF A B x1 y1 e1 x2 y2 e2).1 (prF A B x1 y1 e1 x2 y2 e2).2.1 (prF A B x1 y1 e1 x2 y2 e2).2.2.1 (prF A B x1 y1 e1 x2 y2 e2).2.2.2.1,
   widD (prF A B x1 y1 e1 x2 y2 e2).1 (prF A B x1 y1 e1 x2 y2 e2).2.1 (prF A B x1 y1 e1 x2 y2 e2).2.2.1 (prF A B x1 y1 e1 x2 y2 e2).2.2.2.1,
   widB (prF A B x1 y1 e1 x2 y2 e2).1 (prF A B x1 y1 e1 x2 y2 e2).2.1 (prF A B x1 y1 e1 x2 y2 e2).2.2.1 (prF A B x1 y1 e1 x2 y2 e2).2.2.2.1)
 else (0, 0, false)
theorem sPairingWidth_any (A B x1 y1 e1 x2 y2 e2 : Int) (w : World) :
  Calls Tryz.prog 11 #[.agg #[.int .i64 A, .int .i64 B], .agg #[.int .i64 x1, .int .i64 y1, .int .i64 e1], .agg #[.int .i64 x2, .int .i64 y2, .int .i64 e2]] w fun r w' =>
   r = .returned (.tuple #[.agg #[.int .i64 (pwV A B x1 y1 e1 x2 y2 e2).1, .int .i64 (pwV A B x1 y1 e1 x2 y2 e2).2.1], .bool (pwV A B x1 y1 e1 x2 y2 e2).2.2]) ∧ Below w.heap.size w w' := by
 have TP := fun W : World => Lib.hid (sPairingOf_any A B x1 y1 e1 x2 y2 e2 W)
 unfold pwV
 obtain ⟨r1, r2, r3, r4, r5, hr⟩ := i5_open (prF A B x1 y1 e1 x2 y2 e2)
 rw [hr] at TP ⊢
 simp only at TP ⊢
 have TW := fun W : World => Lib.hid (sWidthOf_any r1 r2 r3 r4 W)
 clear hr
 generalize widN r1 r2 r3 r4 = n at *
 generalize widD r1 r2 r3 r4 = d at *
 generalize widB r1 r2 r3 r4 = o at *
 obtain ⟨v1, v2, v3, hv⟩ : ∃ a b c, (if r5 = true then (n, d, o) else ((0 : Int), (0 : Int), false)) = (a, b, c) := ⟨_, _, _, rfl⟩
 rw [hv]
 simp only
 have HV := Lib.hid hv
 clear hv
 have tok1 := trivial
 have tok2 := trivial
 have tok3 := trivial
 have tok4 := trivial
 have tok5 := trivial
 have tok6 := trivial
 have tok7 := trivial
 have tok8 := trivial
 have tok9 := trivial
 go_enter Tryz.func11, Tryz.ntmps11
 go_upto_region 1 with fail
 refine chk (fun W => Below w.heap.size w W ∧ W.heap[w.heap.size + 1 + 1 + 1]? = some (.cells #[.int .i64 0, .int .i64 0] 27 (0, 0)) ∧ W.heap[w.heap.size]? = some (.cells #[.int .i64 A, .int .i64 B] 32 (0, 0)) ∧ W.heap[w.heap.size + 1]? = some (.cells #[.int .i64 x1, .int .i64 y1, .int .i64 e1] 34 (0, 0)) ∧ W.heap[w.heap.size + 1 + 1]? = some (.cells #[.int .i64 x2, .int .i64 y2, .int .i64 e2] 34 (0, 0))) (by refine ⟨?_, ?_, ?_, ?_, ?_⟩ <;> (exact ck)) ?_
 rintro w1 ⟨hB1, qa, qb, qc, qd⟩
 obtain ⟨qg, qh, qu, xc⟩ := bk2 qa
 replace qa := Lib.hid qa
 obtain ⟨qi, qj, qv, xd⟩ := bk2 qb
 replace qb := Lib.hid qb
 obtain ⟨qk, ql, qm, qw, xe⟩ := bk3 qc
 replace qc := Lib.hid qc
 obtain ⟨qn, qo, qq, qx, xf⟩ := bk3 qd
 replace qd := Lib.hid qd
 go_upto_region 2 with (first | (have _t := tok2; go_at_call 6; (with_reducible refine ((TP _).out).mono ?_); rintro e w2 ⟨rfl, hb2⟩; clear tok2 _t; have hz2 := hb2.size; (try simp only [sA, sB, sC, sD] at hz2)))
 have hR2 := keepY hb2 qa.out
 have hB2 := below_via hb2 hB1 hB1.size
 clear hb2
 replace qa := qa.out
 replace qb := qb.out
 replace qc := qc.out
 replace qd := qd.out
 refine chk (fun W => Below w.heap.size w W ∧ W.heap[w.heap.size + 1 + 1 + 1]? = some (.cells #[.int .i64 0, .int .i64 0] 27 (0, 0)) ∧ W.heap[w2.heap.size]? = some (.cells #[.int .i64 r1, .int .i64 r2, .int .i64 r3, .int .i64 r4] 29 (0, 0))) (by refine ⟨?_, ?_, ?_⟩ <;> (exact ck)) ?_
 clear qg qh qu qa
 clear qi qj qv qb
 clear qk ql qm qw qc
 clear qn qo qq qx qd
 clear hB1
 rintro w3 ⟨hB3, qe, qf⟩
 obtain ⟨qr, qt, xg, xh⟩ := bk2 qe
 replace qe := Lib.hid qe
 obtain ⟨qy, qz, xa, xb, xi, xj⟩ := bk4 qf
 replace qf := Lib.hid qf
 clear hR2 hB2
 cases r5
 ·have hv := HV.out
  rw [if_neg (by simp)] at hv
  obtain ⟨rfl, rfl, rfl⟩ : 0 = v1 ∧ 0 = v2 ∧ false = v3 := by simpa using hv
  clear hv HV
  go_upto_region 3 with fail
  iterate 40 (first | (with_reducible show bodyPost _ _ _ _ _ _) | (with_reducible refine wp_ret ?_) | go_values | go_skip | go_guarded | go_step | go_upon | go_back | skip)
  refine bodyPost_ret (v := .tuple #[.agg #[.int .i64 0, .int .i64 0], .bool false]) (by simp [results, Tryz.results11, go_sem, qr, qt]) rfl ⟨rfl, ?_⟩
  have HO := qe.out
  (exact ck)
 ·have hv := HV.out
  rw [if_pos rfl] at hv
  obtain ⟨rfl, rfl, rfl⟩ : n = v1 ∧ d = v2 ∧ o = v3 := by simpa using hv
  clear hv HV
  go_upto_region 4 with fail
  go_wp2_with fail
  (first | (have _t := tok4; go_at_call 21; (with_reducible refine ((TW _).out).mono ?_); rintro e w4 ⟨rfl, hb4⟩; clear tok4 _t; have hz4 := hb4.size; (try simp only [sA, sB, sC, sD] at hz4)))
  have hRz := keepY hb4 qe.out
  have z0 : w4.cell? ⟨w.heap.size + 1 + 1 + 1, 0, none⟩ = some (.int .i64 0) := blk_cell hRz 0
  have z1 : w4.cell? ⟨w.heap.size + 1 + 1 + 1, 1, none⟩ = some (.int .i64 0) := blk_cell hRz 1
  have fz := fun o => blk_frozen hRz o
  have lz := blk_lt' hRz
  dsimp only
  iterate 40 (first | (with_reducible show bodyPost _ _ _ _ _ _) | (with_reducible refine wp_ret ?_) | go_values | go_skip | go_guarded | go_step | go_upon | go_back | skip)
  refine bodyPost_ret (v := .tuple #[.agg #[.int .i64 n, .int .i64 d], .bool o]) (by simp [results, Tryz.results11, go_sem, z0, z1]) rfl ⟨rfl, ?_⟩
  exact bel
end
end Go.Proofs.YtnkmgpmehkholaaGreat
