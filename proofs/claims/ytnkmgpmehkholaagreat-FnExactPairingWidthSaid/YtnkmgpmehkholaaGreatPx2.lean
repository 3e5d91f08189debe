/- Lemmas and contracts of functions. No condition. -/
import Derived.Test.YtnkmgpmehkholaaGreatPk52
import Derived.Test.YtnkmgpmehkholaaGreatPx1
import Derived.BigQuiet
import Derived.Deep.DeepCutAuto
import Derived.Deep.MidRow
import Derived.Deep.QuietTactic
import Derived.Deep.RegionHeld3
import Derived.Handy
import Derived.IntWalk
import Derived.Laws.AppendOwnNone
import Derived.Laws.Cover2
import Derived.Laws.Externs
import Derived.Laws.FloatArith
import Derived.Lib.BitFns
import Derived.Lib.Hide
import Derived.Lib.SliceRun
import Derived.Lib.Slices
import Derived.Lib.Small
import Derived.Lib.Strings
import Derived.Lib.Walk
import Derived.Maps.AppendAt
import Derived.StillTail
import Derived.Test.YtnkmgpmehkholaaGreatProg
import Derived.WalkKit
import Derived.WalkLawsBesides
import Derived.WalkSpells
namespace Go.Proofs.YtnkmgpmehkholaaGreat
open Go.RowKit
set_option linter.unusedVariables false
set_option maxHeartbeats 4000000
set_option maxRecDepth 20000
set_option linter.unusedSimpArgs false
attribute [local go_sem] openAt openUpon
theorem pw_none {A B x1 y1 e1 x2 y2 e2 : Int} (h : prF A B x1 y1 e1 x2 y2 e2 = ivZ) : pwV A B x1 y1 e1 x2 y2 e2 = (0, 0, false) := by
 unfold pwV; rw [h]; rfl
theorem pw_mk {A B x1 y1 e1 x2 y2 e2 a b : Int} (h : prF A B x1 y1 e1 x2 y2 e2 = mk5 a b) (hv : validB a b = true) : pwV A B x1 y1 e1 x2 y2 e2 = mkF (b - a) 4096 := by
 unfold pwV; rw [h]
 obtain ⟨g, h1, h2⟩ := iv_read hv
 simp only [mk5, if_pos]
 unfold widN widD widB
 simp only [g, if_pos, h1, h2]
theorem PairingWidth_any (A B x1 y1 e1 x2 y2 e2 : Int) (w : World) : Calls Tryz.prog 12 #[.agg #[.int .i64 A, .int .i64 B], .agg #[.int .i64 x1, .int .i64 y1, .int .i64 e1], .agg #[.int .i64 x2, .int .i64 y2, .int .i64 e2]] w fun r w' =>
   r = .returned (.tuple #[.agg #[.int .i64 (pwV A B x1 y1 e1 x2 y2 e2).1, .int .i64 (pwV A B x1 y1 e1 x2 y2 e2).2.1], .bool (pwV A B x1 y1 e1 x2 y2 e2).2.2]) ∧ Below w.heap.size w w' := by
 have T1 := fun W : World => Lib.hid (isP_any A B x1 y1 e1 W)
 have TQ := fun W : World => Lib.hid (isP_any A B x2 y2 e2 W)
 cases h1 : pqB A B x1 y1 e1
 ·rw [h1] at T1
  rw [pw_none (show prF A B x1 y1 e1 x2 y2 e2 = ivZ by simp [prF, h1])]
  clear h1
  have tok1 := trivial
  have tok2 := trivial
  have tok3 := trivial
  have tok4 := trivial
  go_enter Tryz.func12, Tryz.ntmps12
  go_upto_region 2 with (first | (have _t := tok1; go_at_call 18; (with_reducible refine ((T1 _).out).mono ?_); rintro e w1 ⟨rfl, hb1⟩; clear tok1 _t; have hz1 := hb1.size; (try simp only [sA, sB, sC, sD] at hz1); (try (obtain ⟨kq, qk⟩ := cfAt hb1 (w.heap.size); have qa := kq 0; have qb := kq 1; clear kq; simp [go_sem, *] at qa qb qk)); (try have xa : w.heap.size < w1.heap.size := by omega); (try (obtain ⟨kq, ql⟩ := cfAt hb1 (w.heap.size + 1); have qc := kq 0; have qd := kq 1; have qe := kq 2; clear kq; simp [go_sem, *] at qc qd qe ql)); (try have xb : w.heap.size + 1 < w1.heap.size := by omega); (try (obtain ⟨kq, qm⟩ := cfAt hb1 (w.heap.size + 1 + 1); have qf := kq 0; have qg := kq 1; have qh := kq 2; clear kq; simp [go_sem, *] at qf qg qh qm)); (try have xc : w.heap.size + 1 + 1 < w1.heap.size := by omega); (try (obtain ⟨kq, qn⟩ := cfAt hb1 (w.heap.size + 1 + 1 + 1); have qi := kq 0; have qj := kq 1; clear kq; simp [go_sem, *] at qi qj qn)); (try have xd : w.heap.size + 1 + 1 + 1 < w1.heap.size := by omega)) | (have _t := tok2; go_at_call 18; (with_reducible refine ((TQ _).out).mono ?_); rintro e w2 ⟨rfl, hb2⟩; clear tok2 _t; have hz2 := hb2.size; (try simp only [sA, sB, sC, sD] at hz2); (try (obtain ⟨kq, xe⟩ := cfAt hb2 (w.heap.size); have qo := kq 0; have qq := kq 1; clear kq; simp [go_sem, *] at qo qq xe)); (try have xt : w.heap.size < w2.heap.size := by omega); (try (obtain ⟨kq, xf⟩ := cfAt hb2 (w.heap.size + 1); have qr := kq 0; have qt := kq 1; have qu := kq 2; clear kq; simp [go_sem, *] at qr qt qu xf)); (try have xu : w.heap.size + 1 < w2.heap.size := by omega); (try (obtain ⟨kq, xg⟩ := cfAt hb2 (w.heap.size + 1 + 1); have qv := kq 0; have qw := kq 1; have qx := kq 2; clear kq; simp [go_sem, *] at qv qw qx xg)); (try have xv : w.heap.size + 1 + 1 < w2.heap.size := by omega); (try (obtain ⟨kq, xh⟩ := cfAt hb2 (w.heap.size + 1 + 1 + 1); have qy := kq 0; have qz := kq 1; clear kq; simp [go_sem, *] at qy qz xh)); (try have xw : w.heap.size + 1 + 1 + 1 < w2.heap.size := by omega); (try clear qa qb qk); (try clear xa); (try clear qc qd qe ql); (try clear xb); (try clear qf qg qh qm); (try clear xc); (try clear qi qj qn); (try clear xd)))
  iterate 40 (first | (with_reducible show bodyPost _ _ _ _ _ _) | (with_reducible refine wp_ret ?_) | go_values | go_skip | go_guarded | go_step | go_upon | go_back | skip)
  refine bodyPost_ret (v := _) (by simp [results, Tryz.results12, go_sem, *]) rfl ⟨rfl, ?_⟩
  exact bel
 ·rw [h1] at T1
  cases h2 : pqB A B x2 y2 e2
  ·rw [h2] at TQ
   rw [pw_none (show prF A B x1 y1 e1 x2 y2 e2 = ivZ by simp [prF, h2])]
   clear h1 h2
   have tok1 := trivial
   have tok2 := trivial
   have tok3 := trivial
   have tok4 := trivial
   go_enter Tryz.func12, Tryz.ntmps12
   go_upto_region 2 with (first | (have _t := tok1; go_at_call 18; (with_reducible refine ((T1 _).out).mono ?_); rintro e w1 ⟨rfl, hb1⟩; clear tok1 _t; have hz1 := hb1.size; (try simp only [sA, sB, sC, sD] at hz1); (try (obtain ⟨kq, qk⟩ := cfAt hb1 (w.heap.size); have qa := kq 0; have qb := kq 1; clear kq; simp [go_sem, *] at qa qb qk)); (try have xa : w.heap.size < w1.heap.size := by omega); (try (obtain ⟨kq, ql⟩ := cfAt hb1 (w.heap.size + 1); have qc := kq 0; have qd := kq 1; have qe := kq 2; clear kq; simp [go_sem, *] at qc qd qe ql)); (try have xb : w.heap.size + 1 < w1.heap.size := by omega); (try (obtain ⟨kq, qm⟩ := cfAt hb1 (w.heap.size + 1 + 1); have qf := kq 0; have qg := kq 1; have qh := kq 2; clear kq; simp [go_sem, *] at qf qg qh qm)); (try have xc : w.heap.size + 1 + 1 < w1.heap.size := by omega); (try (obtain ⟨kq, qn⟩ := cfAt hb1 (w.heap.size + 1 + 1 + 1); have qi := kq 0; have qj := kq 1; clear kq; simp [go_sem, *] at qi qj qn)); (try have xd : w.heap.size + 1 + 1 + 1 < w1.heap.size := by omega)) | (have _t := tok2; go_at_call 18; (with_reducible refine ((TQ _).out).mono ?_); rintro e w2 ⟨rfl, hb2⟩; clear tok2 _t; have hz2 := hb2.size; (try simp only [sA, sB, sC, sD] at hz2); (try (obtain ⟨kq, xe⟩ := cfAt hb2 (w.heap.size); have qo := kq 0; have qq := kq 1; clear kq; simp [go_sem, *] at qo qq xe)); (try have xt : w.heap.size < w2.heap.size := by omega); (try (obtain ⟨kq, xf⟩ := cfAt hb2 (w.heap.size + 1); have qr := kq 0; have qt := kq 1; have qu := kq 2; clear kq; simp [go_sem, *] at qr qt qu xf)); (try have xu : w.heap.size + 1 < w2.heap.size := by omega); (try (obtain ⟨kq, xg⟩ := cfAt hb2 (w.heap.size + 1 + 1); have qv := kq 0; have qw := kq 1; have qx := kq 2; clear kq; simp [go_sem, *] at qv qw qx xg)); (try have xv : w.heap.size + 1 + 1 < w2.heap.size := by omega); (try (obtain ⟨kq, xh⟩ := cfAt hb2 (w.heap.size + 1 + 1 + 1); have qy := kq 0; have qz := kq 1; clear kq; simp [go_sem, *] at qy qz xh)); (try have xw : w.heap.size + 1 + 1 + 1 < w2.heap.size := by omega); (try clear qa qb qk); (try clear xa); (try clear qc qd qe ql); (try clear xb); (try clear qf qg qh qm); (try clear xc); (try clear qi qj qn); (try clear xd)))
   iterate 40 (first | (with_reducible show bodyPost _ _ _ _ _ _) | (with_reducible refine wp_ret ?_) | go_values | go_skip | go_guarded | go_step | go_upon | go_back | skip)
   refine bodyPost_ret (v := _) (by simp [results, Tryz.results12, go_sem, *]) rfl ⟨rfl, ?_⟩
   exact bel
  ·rw [h2] at TQ
   have hpf : prF A B x1 y1 e1 x2 y2 e2 = prV A B x1 y1 e1 x2 y2 e2 := by simp [prF, h1, h2]
   obtain ⟨s1, s2, s3, ok, hs⟩ : ∃ a b c d, ptS A x1 y1 e1 x2 y2 e2 = (a, b, c, d) := ⟨_, _, _, _, rfl⟩
   cases ok
   ·have T2 := fun W : World => Lib.hid (pairing_no W h1 h2 hs)
    rw [pw_none (hpf.trans (pr_none hs))]
    clear h1 h2 hs hpf
    have tok1 := trivial
    have tok2 := trivial
    have tok3 := trivial
    have tok4 := trivial
    go_enter Tryz.func12, Tryz.ntmps12
    go_upto_region 3 with (first | (have _t := tok1; go_at_call 18; (with_reducible refine ((T1 _).out).mono ?_); rintro e w1 ⟨rfl, hb1⟩; clear tok1 _t; have hz1 := hb1.size; (try simp only [sA, sB, sC, sD] at hz1); (try (obtain ⟨kq, qk⟩ := cfAt hb1 (w.heap.size); have qa := kq 0; have qb := kq 1; clear kq; simp [go_sem, *] at qa qb qk)); (try have xa : w.heap.size < w1.heap.size := by omega); (try (obtain ⟨kq, ql⟩ := cfAt hb1 (w.heap.size + 1); have qc := kq 0; have qd := kq 1; have qe := kq 2; clear kq; simp [go_sem, *] at qc qd qe ql)); (try have xb : w.heap.size + 1 < w1.heap.size := by omega); (try (obtain ⟨kq, qm⟩ := cfAt hb1 (w.heap.size + 1 + 1); have qf := kq 0; have qg := kq 1; have qh := kq 2; clear kq; simp [go_sem, *] at qf qg qh qm)); (try have xc : w.heap.size + 1 + 1 < w1.heap.size := by omega); (try (obtain ⟨kq, qn⟩ := cfAt hb1 (w.heap.size + 1 + 1 + 1); have qi := kq 0; have qj := kq 1; clear kq; simp [go_sem, *] at qi qj qn)); (try have xd : w.heap.size + 1 + 1 + 1 < w1.heap.size := by omega)) | (have _t := tok2; go_at_call 18; (with_reducible refine ((TQ _).out).mono ?_); rintro e w2 ⟨rfl, hb2⟩; clear tok2 _t; have hz2 := hb2.size; (try simp only [sA, sB, sC, sD] at hz2); (try (obtain ⟨kq, xe⟩ := cfAt hb2 (w.heap.size); have qo := kq 0; have qq := kq 1; clear kq; simp [go_sem, *] at qo qq xe)); (try have xt : w.heap.size < w2.heap.size := by omega); (try (obtain ⟨kq, xf⟩ := cfAt hb2 (w.heap.size + 1); have qr := kq 0; have qt := kq 1; have qu := kq 2; clear kq; simp [go_sem, *] at qr qt qu xf)); (try have xu : w.heap.size + 1 < w2.heap.size := by omega); (try (obtain ⟨kq, xg⟩ := cfAt hb2 (w.heap.size + 1 + 1); have qv := kq 0; have qw := kq 1; have qx := kq 2; clear kq; simp [go_sem, *] at qv qw qx xg)); (try have xv : w.heap.size + 1 + 1 < w2.heap.size := by omega); (try (obtain ⟨kq, xh⟩ := cfAt hb2 (w.heap.size + 1 + 1 + 1); have qy := kq 0; have qz := kq 1; clear kq; simp [go_sem, *] at qy qz xh)); (try have xw : w.heap.size + 1 + 1 + 1 < w2.heap.size := by omega); (try clear qa qb qk); (try clear xa); (try clear qc qd qe ql); (try clear xb); (try clear qf qg qh qm); (try clear xc); (try clear qi qj qn); (try clear xd)))
    go_upto_region 5 with (first | (have _t := tok3; go_at_call 19; (with_reducible refine ((T2 _).out).mono ?_); rintro e w3 ⟨rfl, hb3⟩; clear tok3 _t; have hz3 := hb3.size; (try simp only [sA, sB, sC, sD] at hz3); (try (obtain ⟨kq, xy⟩ := cfAt hb3 (w.heap.size); have xi := kq 0; have xj := kq 1; clear kq; simp [go_sem, *] at xi xj xy)); (try have zd : w.heap.size < w3.heap.size := by omega); (try (obtain ⟨kq, za⟩ := cfAt hb3 (w.heap.size + 1); have xk := kq 0; have xl := kq 1; have xm := kq 2; clear kq; simp [go_sem, *] at xk xl xm za)); (try have ze : w.heap.size + 1 < w3.heap.size := by omega); (try (obtain ⟨kq, zb⟩ := cfAt hb3 (w.heap.size + 1 + 1); have xn := kq 0; have xo := kq 1; have xp := kq 2; clear kq; simp [go_sem, *] at xn xo xp zb)); (try have zf : w.heap.size + 1 + 1 < w3.heap.size := by omega); (try (obtain ⟨kq, zc⟩ := cfAt hb3 (w.heap.size + 1 + 1 + 1); have xq := kq 0; have xr := kq 1; clear kq; simp [go_sem, *] at xq xr zc)); (try have zg : w.heap.size + 1 + 1 + 1 < w3.heap.size := by omega); (try clear qa qb qk); (try clear xa); (try clear qc qd qe ql); (try clear xb); (try clear qf qg qh qm); (try clear xc); (try clear qi qj qn); (try clear xd); (try clear qo qq xe); (try clear xt); (try clear qr qt qu xf); (try clear xu); (try clear qv qw qx xg); (try clear xv); (try clear qy qz xh); (try clear xw)))
    iterate 40 (first | (with_reducible show bodyPost _ _ _ _ _ _) | (with_reducible refine wp_ret ?_) | go_values | go_skip | go_guarded | go_step | go_upon | go_back | skip)
    refine bodyPost_ret (v := _) (by simp [results, Tryz.results12, go_sem, *]) rfl ⟨rfl, ?_⟩
    exact bel
   ·have T2 := fun W : World => Lib.hid (pairing_yes W h1 h2 hs)
    rw [pr_prog hs] at hpf
    cases hv : d2V (BK A B s1 s3) (BK A B x1 e1) (BK A B x2 e2) (BL A B s1 s3) (BH A B s1 s3) (BL A B x1 e1) (BH A B x1 e1) (BL A B x2 e2) (BH A B x2 e2)
    ·rw [hv] at T2 hpf
     rw [if_neg (by simp)] at hpf
     rw [pw_none hpf]
     generalize d2A (BK A B s1 s3) (BK A B x1 e1) (BK A B x2 e2) (BL A B s1 s3) (BH A B s1 s3) (BL A B x1 e1) (BH A B x1 e1) (BL A B x2 e2) (BH A B x2 e2) = a at *
     generalize d2B (BK A B s1 s3) (BK A B x1 e1) (BK A B x2 e2) (BL A B s1 s3) (BH A B s1 s3) (BL A B x1 e1) (BH A B x1 e1) (BL A B x2 e2) (BH A B x2 e2) = b at *
     clear h1 h2 hs hv hpf
     have tok1 := trivial
     have tok2 := trivial
     have tok3 := trivial
     have tok4 := trivial
     go_enter Tryz.func12, Tryz.ntmps12
     go_upto_region 3 with (first | (have _t := tok1; go_at_call 18; (with_reducible refine ((T1 _).out).mono ?_); rintro e w1 ⟨rfl, hb1⟩; clear tok1 _t; have hz1 := hb1.size; (try simp only [sA, sB, sC, sD] at hz1); (try (obtain ⟨kq, qk⟩ := cfAt hb1 (w.heap.size); have qa := kq 0; have qb := kq 1; clear kq; simp [go_sem, *] at qa qb qk)); (try have xa : w.heap.size < w1.heap.size := by omega); (try (obtain ⟨kq, ql⟩ := cfAt hb1 (w.heap.size + 1); have qc := kq 0; have qd := kq 1; have qe := kq 2; clear kq; simp [go_sem, *] at qc qd qe ql)); (try have xb : w.heap.size + 1 < w1.heap.size := by omega); (try (obtain ⟨kq, qm⟩ := cfAt hb1 (w.heap.size + 1 + 1); have qf := kq 0; have qg := kq 1; have qh := kq 2; clear kq; simp [go_sem, *] at qf qg qh qm)); (try have xc : w.heap.size + 1 + 1 < w1.heap.size := by omega); (try (obtain ⟨kq, qn⟩ := cfAt hb1 (w.heap.size + 1 + 1 + 1); have qi := kq 0; have qj := kq 1; clear kq; simp [go_sem, *] at qi qj qn)); (try have xd : w.heap.size + 1 + 1 + 1 < w1.heap.size := by omega)) | (have _t := tok2; go_at_call 18; (with_reducible refine ((TQ _).out).mono ?_); rintro e w2 ⟨rfl, hb2⟩; clear tok2 _t; have hz2 := hb2.size; (try simp only [sA, sB, sC, sD] at hz2); (try (obtain ⟨kq, xe⟩ := cfAt hb2 (w.heap.size); have qo := kq 0; have qq := kq 1; clear kq; simp [go_sem, *] at qo qq xe)); (try have xt : w.heap.size < w2.heap.size := by omega); (try (obtain ⟨kq, xf⟩ := cfAt hb2 (w.heap.size + 1); have qr := kq 0; have qt := kq 1; have qu := kq 2; clear kq; simp [go_sem, *] at qr qt qu xf)); (try have xu : w.heap.size + 1 < w2.heap.size := by omega); (try (obtain ⟨kq, xg⟩ := cfAt hb2 (w.heap.size + 1 + 1); have qv := kq 0; have qw := kq 1; have qx := kq 2; clear kq; simp [go_sem, *] at qv qw qx xg)); (try have xv : w.heap.size + 1 + 1 < w2.heap.size := by omega); (try (obtain ⟨kq, xh⟩ := cfAt hb2 (w.heap.size + 1 + 1 + 1); have qy := kq 0; have qz := kq 1; clear kq; simp [go_sem, *] at qy qz xh)); (try have xw : w.heap.size + 1 + 1 + 1 < w2.heap.size := by omega); (try clear qa qb qk); (try clear xa); (try clear qc qd qe ql); (try clear xb); (try clear qf qg qh qm); (try clear xc); (try clear qi qj qn); (try clear xd)))
     go_upto_region 5 with (first | (have _t := tok3; go_at_call 19; (with_reducible refine ((T2 _).out).mono ?_); rintro e w3 ⟨rfl, hb3⟩; clear tok3 _t; have hz3 := hb3.size; (try simp only [sA, sB, sC, sD] at hz3); (try (obtain ⟨kq, xy⟩ := cfAt hb3 (w.heap.size); have xi := kq 0; have xj := kq 1; clear kq; simp [go_sem, *] at xi xj xy)); (try have zd : w.heap.size < w3.heap.size := by omega); (try (obtain ⟨kq, za⟩ := cfAt hb3 (w.heap.size + 1); have xk := kq 0; have xl := kq 1; have xm := kq 2; clear kq; simp [go_sem, *] at xk xl xm za)); (try have ze : w.heap.size + 1 < w3.heap.size := by omega); (try (obtain ⟨kq, zb⟩ := cfAt hb3 (w.heap.size + 1 + 1); have xn := kq 0; have xo := kq 1; have xp := kq 2; clear kq; simp [go_sem, *] at xn xo xp zb)); (try have zf : w.heap.size + 1 + 1 < w3.heap.size := by omega); (try (obtain ⟨kq, zc⟩ := cfAt hb3 (w.heap.size + 1 + 1 + 1); have xq := kq 0; have xr := kq 1; clear kq; simp [go_sem, *] at xq xr zc)); (try have zg : w.heap.size + 1 + 1 + 1 < w3.heap.size := by omega); (try clear qa qb qk); (try clear xa); (try clear qc qd qe ql); (try clear xb); (try clear qf qg qh qm); (try clear xc); (try clear qi qj qn); (try clear xd); (try clear qo qq xe); (try clear xt); (try clear qr qt qu xf); (try clear xu); (try clear qv qw qx xg); (try clear xv); (try clear qy qz xh); (try clear xw)))
     iterate 40 (first | (with_reducible show bodyPost _ _ _ _ _ _) | (with_reducible refine wp_ret ?_) | go_values | go_skip | go_guarded | go_step | go_upon | go_back | skip)
     refine bodyPost_ret (v := _) (by simp [results, Tryz.results12, go_sem, *]) rfl ⟨rfl, ?_⟩
     exact bel
    ·have hva := d2_valid hv
     rw [hv] at T2 hpf
     rw [if_pos rfl] at hpf
     rw [pw_mk hpf hva]
     generalize d2A (BK A B s1 s3) (BK A B x1 e1) (BK A B x2 e2) (BL A B s1 s3) (BH A B s1 s3) (BL A B x1 e1) (BH A B x1 e1) (BL A B x2 e2) (BH A B x2 e2) = a at *
     generalize d2B (BK A B s1 s3) (BK A B x1 e1) (BK A B x2 e2) (BL A B s1 s3) (BH A B s1 s3) (BL A B x1 e1) (BH A B x1 e1) (BL A B x2 e2) (BH A B x2 e2) = b at *
     have hab : (-409600000 ≤ a ∧ a ≤ 409600000) ∧ (-409600000 ≤ b ∧ b ≤ 409600000) := by
      unfold validB at hva
      simp only [Bool.and_eq_true, decide_eq_true_eq] at hva
      omega
     have T3 := fun W : World => Lib.hid (makeFraction_any (b - a) 4096 W (by omega) (by omega) (by omega) (by omega) (by omega))
     generalize mkF (b - a) 4096 = F at *
     obtain ⟨f1, f2, f3⟩ := F
     simp only at T3 ⊢
     clear h1 h2 hs hv hva hpf
     have tok1 := trivial
     have tok2 := trivial
     have tok3 := trivial
     have tok4 := trivial
     go_enter Tryz.func12, Tryz.ntmps12
     go_upto_region 3 with (first | (have _t := tok1; go_at_call 18; (with_reducible refine ((T1 _).out).mono ?_); rintro e w1 ⟨rfl, hb1⟩; clear tok1 _t; have hz1 := hb1.size; (try simp only [sA, sB, sC, sD] at hz1); (try (obtain ⟨kq, qk⟩ := cfAt hb1 (w.heap.size); have qa := kq 0; have qb := kq 1; clear kq; simp [go_sem, *] at qa qb qk)); (try have xa : w.heap.size < w1.heap.size := by omega); (try (obtain ⟨kq, ql⟩ := cfAt hb1 (w.heap.size + 1); have qc := kq 0; have qd := kq 1; have qe := kq 2; clear kq; simp [go_sem, *] at qc qd qe ql)); (try have xb : w.heap.size + 1 < w1.heap.size := by omega); (try (obtain ⟨kq, qm⟩ := cfAt hb1 (w.heap.size + 1 + 1); have qf := kq 0; have qg := kq 1; have qh := kq 2; clear kq; simp [go_sem, *] at qf qg qh qm)); (try have xc : w.heap.size + 1 + 1 < w1.heap.size := by omega); (try (obtain ⟨kq, qn⟩ := cfAt hb1 (w.heap.size + 1 + 1 + 1); have qi := kq 0; have qj := kq 1; clear kq; simp [go_sem, *] at qi qj qn)); (try have xd : w.heap.size + 1 + 1 + 1 < w1.heap.size := by omega)) | (have _t := tok2; go_at_call 18; (with_reducible refine ((TQ _).out).mono ?_); rintro e w2 ⟨rfl, hb2⟩; clear tok2 _t; have hz2 := hb2.size; (try simp only [sA, sB, sC, sD] at hz2); (try (obtain ⟨kq, xe⟩ := cfAt hb2 (w.heap.size); have qo := kq 0; have qq := kq 1; clear kq; simp [go_sem, *] at qo qq xe)); (try have xt : w.heap.size < w2.heap.size := by omega); (try (obtain ⟨kq, xf⟩ := cfAt hb2 (w.heap.size + 1); have qr := kq 0; have qt := kq 1; have qu := kq 2; clear kq; simp [go_sem, *] at qr qt qu xf)); (try have xu : w.heap.size + 1 < w2.heap.size := by omega); (try (obtain ⟨kq, xg⟩ := cfAt hb2 (w.heap.size + 1 + 1); have qv := kq 0; have qw := kq 1; have qx := kq 2; clear kq; simp [go_sem, *] at qv qw qx xg)); (try have xv : w.heap.size + 1 + 1 < w2.heap.size := by omega); (try (obtain ⟨kq, xh⟩ := cfAt hb2 (w.heap.size + 1 + 1 + 1); have qy := kq 0; have qz := kq 1; clear kq; simp [go_sem, *] at qy qz xh)); (try have xw : w.heap.size + 1 + 1 + 1 < w2.heap.size := by omega); (try clear qa qb qk); (try clear xa); (try clear qc qd qe ql); (try clear xb); (try clear qf qg qh qm); (try clear xc); (try clear qi qj qn); (try clear xd)))
     go_upto_region 6 with (first | (have _t := tok3; go_at_call 19; (with_reducible refine ((T2 _).out).mono ?_); rintro e w3 ⟨rfl, hb3⟩; clear tok3 _t; have hz3 := hb3.size; (try simp only [sA, sB, sC, sD] at hz3); (try (obtain ⟨kq, xy⟩ := cfAt hb3 (w.heap.size); have xi := kq 0; have xj := kq 1; clear kq; simp [go_sem, *] at xi xj xy)); (try have zd : w.heap.size < w3.heap.size := by omega); (try (obtain ⟨kq, za⟩ := cfAt hb3 (w.heap.size + 1); have xk := kq 0; have xl := kq 1; have xm := kq 2; clear kq; simp [go_sem, *] at xk xl xm za)); (try have ze : w.heap.size + 1 < w3.heap.size := by omega); (try (obtain ⟨kq, zb⟩ := cfAt hb3 (w.heap.size + 1 + 1); have xn := kq 0; have xo := kq 1; have xp := kq 2; clear kq; simp [go_sem, *] at xn xo xp zb)); (try have zf : w.heap.size + 1 + 1 < w3.heap.size := by omega); (try (obtain ⟨kq, zc⟩ := cfAt hb3 (w.heap.size + 1 + 1 + 1); have xq := kq 0; have xr := kq 1; clear kq; simp [go_sem, *] at xq xr zc)); (try have zg : w.heap.size + 1 + 1 + 1 < w3.heap.size := by omega); (try clear qa qb qk); (try clear xa); (try clear qc qd qe ql); (try clear xb); (try clear qf qg qh qm); (try clear xc); (try clear qi qj qn); (try clear xd); (try clear qo qq xe); (try clear xt); (try clear qr qt qu xf); (try clear xu); (try clear qv qw qx xg); (try clear xv); (try clear qy qz xh); (try clear xw)))
     go_wp2_with fail
     (first | (have _t := tok4; go_at_call 22; (with_reducible refine ((T3 _).out).mono ?_); rintro e w4 ⟨rfl, hb4⟩; clear tok4 _t; have hz4 := hb4.size; (try simp only [sA, sB, sC, sD] at hz4); (try (obtain ⟨kq, zw⟩ := cfAt hb4 (w.heap.size); have zj := kq 0; have zk := kq 1; clear kq; simp [go_sem, *] at zj zk zw)); (try have jc : w.heap.size < w4.heap.size := by omega); (try (obtain ⟨kq, zx⟩ := cfAt hb4 (w.heap.size + 1); have zm := kq 0; have zn := kq 1; have zo := kq 2; clear kq; simp [go_sem, *] at zm zn zo zx)); (try have jd : w.heap.size + 1 < w4.heap.size := by omega); (try (obtain ⟨kq, zy⟩ := cfAt hb4 (w.heap.size + 1 + 1); have zp := kq 0; have zq := kq 1; have zr := kq 2; clear kq; simp [go_sem, *] at zp zq zr zy)); (try have je : w.heap.size + 1 + 1 < w4.heap.size := by omega); (try (obtain ⟨kq, ja⟩ := cfAt hb4 (w.heap.size + 1 + 1 + 1); have zt := kq 0; have zu := kq 1; clear kq; simp [go_sem, *] at zt zu ja)); (try have jf : w.heap.size + 1 + 1 + 1 < w4.heap.size := by omega); (try (obtain ⟨kq, zv⟩ := cfAt hb4 (w3.heap.size); have zh := kq 0; have zi := kq 1; clear kq; simp [go_sem, *] at zh zi zv)); (try have jb : w3.heap.size < w4.heap.size := by omega); (try clear qa qb qk); (try clear xa); (try clear qc qd qe ql); (try clear xb); (try clear qf qg qh qm); (try clear xc); (try clear qi qj qn); (try clear xd); (try clear qo qq xe); (try clear xt); (try clear qr qt qu xf); (try clear xu); (try clear qv qw qx xg); (try clear xv); (try clear qy qz xh); (try clear xw); (try clear xi xj xy); (try clear zd); (try clear xk xl xm za); (try clear ze); (try clear xn xo xp zb); (try clear zf); (try clear xq xr zc); (try clear zg)))
     dsimp only
     iterate 40 (first | (with_reducible show bodyPost _ _ _ _ _ _) | (with_reducible refine wp_ret ?_) | go_values | go_skip | go_guarded | go_step | go_upon | go_back | skip)
     refine bodyPost_ret (v := _) (by simp [results, Tryz.results12, go_sem, *]) rfl ⟨rfl, ?_⟩
     exact bel
theorem FnExactPairingWidth_any (a0_0 : Int) (a0_1 : Int) (a1_0 : Int) (a1_1 : Int) (a1_2 : Int) (a2_0 : Int) (a2_1 : Int) (a2_2 : Int) (w : World) : Calls Tryz.prog 4 #[.agg #[.int .i64 a0_0, .int .i64 a0_1], .agg #[.int .i64 a1_0, .int .i64 a1_1, .int .i64 a1_2], .agg #[.int .i64 a2_0, .int .i64 a2_1, .int .i64 a2_2]] w fun e w' => e = .returned (.bool true) ∧ Below w.heap.size w w' := by
 have CS := fun W : World => Lib.hid (sPairingWidth_any a0_0 a0_1 a1_0 a1_1 a1_2 a2_0 a2_1 a2_2 W)
 have CI := fun W : World => Lib.hid (PairingWidth_any a0_0 a0_1 a1_0 a1_1 a1_2 a2_0 a2_1 a2_2 W)
 generalize pwV a0_0 a0_1 a1_0 a1_1 a1_2 a2_0 a2_1 a2_2 = r at *; obtain ⟨r1, r2, r3⟩ := r
 have tok1 := trivial
 have tok2 := trivial
 have tok3 := trivial
 go_enter Tryz.func4, Tryz.ntmps4
 go_wp2_with fail
 refine wp_drawn_fill (n := 10) 7 19 27 #[.int .i64 0, .int .i64 0] (by kernel_rfl) (by kernel_rfl) (by kernel_rfl) ⟨_, rfl, rfl, rfl, fun _ _ => by simp [go_sem]⟩ ⟨_, rfl, rfl, rfl, rfl⟩ (by kernel_rfl) (by kernel_rfl) (by kernel_rfl) ?_
 apply Exists.intro
 refine ⟨?_, ?_⟩
 ·intro W hW
  try (have qa := fun x => xcell hW (w.heap.size) (by go_size) x 0; simp [go_sem, *] at qa)
  try (have qb := fun x => xcell hW (w.heap.size) (by go_size) x 1; simp [go_sem, *] at qb)
  try (have qc := fun x => xcell hW (w.heap.size + 1) (by go_size) x 0; simp [go_sem, *] at qc)
  try (have qd := fun x => xcell hW (w.heap.size + 1) (by go_size) x 1; simp [go_sem, *] at qd)
  try (have qe := fun x => xcell hW (w.heap.size + 1) (by go_size) x 2; simp [go_sem, *] at qe)
  try (have qf := fun x => xcell hW (w.heap.size + 1 + 1) (by go_size) x 0; simp [go_sem, *] at qf)
  try (have qg := fun x => xcell hW (w.heap.size + 1 + 1) (by go_size) x 1; simp [go_sem, *] at qg)
  try (have qh := fun x => xcell hW (w.heap.size + 1 + 1) (by go_size) x 2; simp [go_sem, *] at qh)
  simp only [List.take_succ_cons, List.take_zero]
  repeat (go_big_quiet_step ((first | (go_at_call 7; exact draw_of _ (toCurve_any _ _ _)) | (go_at_call 8; exact draw_of _ (toPoint_any _ _ _ _)) | (go_at_call 11; exact draw_of _ ((CS _).out)))))
  exact wpQuiet_nil rfl
 refine ⟨_, rfl, rfl, by simp [Value.oneCell'], ?_⟩
 intro g1 w1 hb1 hg1 hk1
 try simp only [sA, sB, sC, sD] at hg1
 try have zn : w.heap.size < g1 := by omega
 try have zo : w.heap.size + 1 < g1 := by omega
 try have zp : w.heap.size + 1 + 1 < g1 := by omega
 simp only [List.drop_succ_cons, List.drop_zero, Act.put, List.setIfInBounds_toArray, List.set_cons_succ, List.set_cons_zero]
 have hz1 := hb1.size
 (try simp only [sA, sB, sC, sD] at hz1)
 (try (obtain ⟨kq, qr⟩ := cfAt hb1 (w.heap.size); have qi := kq 0; have qj := kq 1; clear kq; simp [go_sem, *] at qi qj qr))
 (try have xf : w.heap.size < w1.heap.size := by omega)
 (try (obtain ⟨kq, qt⟩ := cfAt hb1 (w.heap.size + 1); have qk := kq 0; have ql := kq 1; have qm := kq 2; clear kq; simp [go_sem, *] at qk ql qm qt))
 (try have xg : w.heap.size + 1 < w1.heap.size := by omega)
 (try (obtain ⟨kq, qu⟩ := cfAt hb1 (w.heap.size + 1 + 1); have qn := kq 0; have qo := kq 1; have qq := kq 2; clear kq; simp [go_sem, *] at qn qo qq qu))
 (try have xh : w.heap.size + 1 + 1 < w1.heap.size := by omega)
 have kg1 := blk_cell hk1
 have fg1 := blk_frozen hk1
 have lg1 := blk_lt hk1
 go_wp2_with fail
 refine wp_drawn_fill (n := 10) 9 29 27 #[.int .i64 0, .int .i64 0] (by kernel_rfl) (by kernel_rfl) (by kernel_rfl) ⟨_, rfl, rfl, rfl, fun _ _ => by simp [go_sem]⟩ ⟨_, rfl, rfl, rfl, rfl⟩ (by kernel_rfl) (by kernel_rfl) (by kernel_rfl) ?_
 apply Exists.intro
 refine ⟨?_, ?_⟩
 ·intro W hW
  try (have qa := fun x => xcell hW (w.heap.size) (by go_size) x 0; simp [go_sem, *] at qa)
  try (have qb := fun x => xcell hW (w.heap.size) (by go_size) x 1; simp [go_sem, *] at qb)
  try (have qc := fun x => xcell hW (w.heap.size + 1) (by go_size) x 0; simp [go_sem, *] at qc)
  try (have qd := fun x => xcell hW (w.heap.size + 1) (by go_size) x 1; simp [go_sem, *] at qd)
  try (have qe := fun x => xcell hW (w.heap.size + 1) (by go_size) x 2; simp [go_sem, *] at qe)
  try (have qf := fun x => xcell hW (w.heap.size + 1 + 1) (by go_size) x 0; simp [go_sem, *] at qf)
  try (have qg := fun x => xcell hW (w.heap.size + 1 + 1) (by go_size) x 1; simp [go_sem, *] at qg)
  try (have qh := fun x => xcell hW (w.heap.size + 1 + 1) (by go_size) x 2; simp [go_sem, *] at qh)
  try (have xv := fun x => xcell hW (g1) (by go_size) x 0; simp [go_sem, *] at xv)
  try (have xw := fun x => xcell hW (g1) (by go_size) x 1; simp [go_sem, *] at xw)
  simp only [List.take_succ_cons, List.take_zero]
  repeat (go_big_quiet_step ((first | (go_at_call 7; exact draw_of _ (toCurve_any _ _ _)) | (go_at_call 8; exact draw_of _ (toPoint_any _ _ _ _)) | (go_at_call 12; exact draw_of _ ((CI _).out)))))
  exact wpQuiet_nil rfl
 refine ⟨_, rfl, rfl, by simp [Value.oneCell'], ?_⟩
 intro g2 w2 hb2 hg2 hk2
 try simp only [sA, sB, sC, sD] at hg2
 try have zq : w.heap.size < g2 := by omega
 try have zr : w.heap.size + 1 < g2 := by omega
 try have zt : w.heap.size + 1 + 1 < g2 := by omega
 try have zu : g1 < g2 := by omega
 simp only [List.drop_succ_cons, List.drop_zero, Act.put, List.setIfInBounds_toArray, List.set_cons_succ, List.set_cons_zero]
 have hz2 := hb2.size
 (try simp only [sA, sB, sC, sD] at hz2)
 (try (obtain ⟨kq, xi⟩ := cfAt hb2 (w.heap.size); have qv := kq 0; have qw := kq 1; clear kq; simp [go_sem, *] at qv qw xi))
 (try have zd : w.heap.size < w2.heap.size := by omega)
 (try (obtain ⟨kq, xj⟩ := cfAt hb2 (w.heap.size + 1); have qx := kq 0; have qy := kq 1; have qz := kq 2; clear kq; simp [go_sem, *] at qx qy qz xj))
 (try have ze : w.heap.size + 1 < w2.heap.size := by omega)
 (try (obtain ⟨kq, xk⟩ := cfAt hb2 (w.heap.size + 1 + 1); have xa := kq 0; have xb := kq 1; have xc := kq 2; clear kq; simp [go_sem, *] at xa xb xc xk))
 (try have zf : w.heap.size + 1 + 1 < w2.heap.size := by omega)
 (try (obtain ⟨kq, xu⟩ := cfAt hb2 (g1); have xd := kq 0; have xe := kq 1; clear kq; simp [go_sem, *] at xd xe xu))
 (try have zj : g1 < w2.heap.size := by omega)
 (try clear qi qj qr)
 (try clear xf)
 (try clear qk ql qm qt)
 (try clear xg)
 (try clear qn qo qq qu)
 (try clear xh)
 have kg2 := blk_cell hk2
 have fg2 := blk_frozen hk2
 have lg2 := blk_lt hk2
 go_wp2_with (first | (have _t := tok3; go_at_call 13; refine (eqFraction_same _ _ _).mono ?_; rintro e w3 ⟨rfl, hb3⟩; clear tok3 _t; have hz3 := hb3.size; (try simp only [sA, sB, sC, sD] at hz3); (try (obtain ⟨kq, zg⟩ := cfAt hb3 (w.heap.size); have xl := kq 0; have xm := kq 1; clear kq; simp [go_sem, *] at xl xm zg)); (try have zv : w.heap.size < w3.heap.size := by omega); (try (obtain ⟨kq, zh⟩ := cfAt hb3 (w.heap.size + 1); have xn := kq 0; have xo := kq 1; have xp := kq 2; clear kq; simp [go_sem, *] at xn xo xp zh)); (try have zw : w.heap.size + 1 < w3.heap.size := by omega); (try (obtain ⟨kq, zi⟩ := cfAt hb3 (w.heap.size + 1 + 1); have xq := kq 0; have xr := kq 1; have xt := kq 2; clear kq; simp [go_sem, *] at xq xr xt zi)); (try have zx : w.heap.size + 1 + 1 < w3.heap.size := by omega); (try (obtain ⟨kq, zk⟩ := cfAt hb3 (g1); have xy := kq 0; have za := kq 1; clear kq; simp [go_sem, *] at xy za zk)); (try have zy : g1 < w3.heap.size := by omega); (try (obtain ⟨kq, zm⟩ := cfAt hb3 (g2); have zb := kq 0; have zc := kq 1; clear kq; simp [go_sem, *] at zb zc zm)); (try have ja : g2 < w3.heap.size := by omega); (try clear qi qj qr); (try clear xf); (try clear qk ql qm qt); (try clear xg); (try clear qn qo qq qu); (try clear xh); (try clear qv qw xi); (try clear zd); (try clear qx qy qz xj); (try clear ze); (try clear xa xb xc xk); (try clear zf); (try clear xd xe xu); (try clear zj)))
 go_ret
 refine ⟨rfl, ?_⟩
 exact bel
end Go.Proofs.YtnkmgpmehkholaaGreat
