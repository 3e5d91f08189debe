/- Lemmas and contracts of functions. No condition. -/
import Derived.Test.YtnkmgpmehkholaaGreatPq8
import Derived.Test.YtnkmgpmehkholaaGreatPq20
import Derived.Test.YtnkmgpmehkholaaGreatPq45
namespace Go.Proofs.YtnkmgpmehkholaaGreat
open Go.RowKit
set_option linter.unusedVariables false
set_option maxHeartbeats 1000000
set_option maxRecDepth 20000
set_option linter.unusedSimpArgs false
attribute [local go_sem] openAt openUpon
/-- a number of a span that is kept if the flag stays true -/
def kpV (v : Bool) (x : Int) : Int := if v = true then x else 0
theorem kp_bd {v : Bool} {x M : Int} (h : v = true → -M ≤ x ∧ x ≤ M) (hM : 0 ≤ M) : -M ≤ kpV v x ∧ kpV v x ≤ M := by
 unfold kpV
 cases v
 ·simp; omega
 ·simpa using h rfl
theorem kp_valid (v : Bool) (a b : Int) : (-409600000 ≤ kpV (v && validB a b) a ∧ kpV (v && validB a b) a ≤ 409600000) ∧ (-409600000 ≤ kpV (v && validB a b) b ∧ kpV (v && validB a b) b ≤ 409600000) := by
 have h : (v && validB a b) = true → a ≤ b ∧ -409600000 ≤ a ∧ b ≤ 409600000 := fun h => by
  simp only [Bool.and_eq_true] at h
  exact validB_bd h.2
 exact ⟨kp_bd (fun h2 => by have := h h2; omega) (by omega), kp_bd (fun h2 => by have := h h2; omega) (by omega)⟩
theorem CalE.set {T : TypeId} {w w1 : World} {p : Nat} (h : CalE T w w1 p) (u : Bool) : Cal T w (w1.setCell ⟨p, 0, none⟩ (.bool u)) p u := h.elim fun v h => h.set u
theorem CalE.go {T : TypeId} {w w1 w2 : World} {p : Nat} {u : Bool} (hb : Cal T w1 w2 p u) (h : CalE T w w1 p) : Cal T w w2 p u := h.elim fun v h => h.trans hb
theorem spKeep_any (a b : Int) (v : Bool) (w : World) (gp : Nat) (hp : w.heap[gp]? = some (.cells #[.bool v] 59 (0, 0))) :
  Calls Tryz.prog 60 #[.pointer (some ⟨gp, 0, none⟩), .agg #[.int .i64 a, .int .i64 b]] w fun e w' =>
   e = .returned (.agg #[.int .i64 (kpV (v && validB a b) a), .int .i64 (kpV (v && validB a b) b)]) ∧ Cal 59 w w' gp (v && validB a b) := by
 have hc := cell_of_one hp
 have hf := free_of_one hp
 have hl : gp < w.heap.size := lt_of_block hp
 have hnot : ∀ (x : Bool) (w : World), (Op.unary .not (.bool x)).run Tryz.prog w = .ok (.bool (!x)) w := fun _ _ => rfl
 have HP := Lib.hid hp
 have TV := fun W => Lib.hid (valid_any a b W)
 unfold kpV
 generalize validB a b = u at *
 clear hp
 cases v <;> cases u
 ·simp only [Bool.and_true, Bool.and_false, if_true, if_false, Bool.false_eq_true]
  have tok1 := trivial
  go_enter Tryz.func60, Tryz.ntmps60
  go_upto_region 3 with (first | (have _t := tok1; go_at_call 38; (with_reducible refine ((TV _).out).mono ?_); rintro e w1 ⟨rfl, hb1⟩; clear tok1 _t; have hz1 := hb1.size; (try simp only [sA, sB, sC, sD] at hz1); (try (obtain ⟨kq, qh⟩ := cfAt hb1 (w.heap.size); have qc := kq 0; have qd := kq 1; clear kq; simp [go_sem, *] at qc qd qh)); (try have qk : w.heap.size < w1.heap.size := by omega); (try (obtain ⟨kq, qi⟩ := cfAt hb1 (w.heap.size + 1); have qe := kq 0; have qf := kq 1; clear kq; simp [go_sem, *] at qe qf qi)); (try have ql : w.heap.size + 1 < w1.heap.size := by omega); (try (obtain ⟨kq, qj⟩ := cfAt hb1 (gp); have qg := kq 0; clear kq; simp [go_sem, *] at qg qj)); (try have qm : gp < w1.heap.size := by omega)))
  iterate 40 (first | (with_reducible show bodyPost _ _ _ _ _ _) | (with_reducible refine wp_ret ?_) | go_values | go_skip | go_guarded | go_step | go_upon | go_back | skip)
  refine bodyPost_ret (v := _) (by simp [results, Tryz.results60, go_sem, *]) rfl ⟨rfl, ?_⟩
  (exact clf)
 ·simp only [Bool.and_true, Bool.and_false, if_true, if_false, Bool.false_eq_true]
  have tok1 := trivial
  go_enter Tryz.func60, Tryz.ntmps60
  go_upto_region 3 with (first | (have _t := tok1; go_at_call 38; (with_reducible refine ((TV _).out).mono ?_); rintro e w1 ⟨rfl, hb1⟩; clear tok1 _t; have hz1 := hb1.size; (try simp only [sA, sB, sC, sD] at hz1); (try (obtain ⟨kq, qh⟩ := cfAt hb1 (w.heap.size); have qc := kq 0; have qd := kq 1; clear kq; simp [go_sem, *] at qc qd qh)); (try have qk : w.heap.size < w1.heap.size := by omega); (try (obtain ⟨kq, qi⟩ := cfAt hb1 (w.heap.size + 1); have qe := kq 0; have qf := kq 1; clear kq; simp [go_sem, *] at qe qf qi)); (try have ql : w.heap.size + 1 < w1.heap.size := by omega); (try (obtain ⟨kq, qj⟩ := cfAt hb1 (gp); have qg := kq 0; clear kq; simp [go_sem, *] at qg qj)); (try have qm : gp < w1.heap.size := by omega)))
  iterate 40 (first | (with_reducible show bodyPost _ _ _ _ _ _) | (with_reducible refine wp_ret ?_) | go_values | go_skip | go_guarded | go_step | go_upon | go_back | skip)
  refine bodyPost_ret (v := _) (by simp [results, Tryz.results60, go_sem, *]) rfl ⟨rfl, ?_⟩
  (exact clf)
 ·simp only [Bool.and_true, Bool.and_false, if_true, if_false, Bool.false_eq_true]
  have tok1 := trivial
  go_enter Tryz.func60, Tryz.ntmps60
  go_upto_region 3 with (first | (have _t := tok1; go_at_call 38; (with_reducible refine ((TV _).out).mono ?_); rintro e w1 ⟨rfl, hb1⟩; clear tok1 _t; have hz1 := hb1.size; (try simp only [sA, sB, sC, sD] at hz1); (try (obtain ⟨kq, qh⟩ := cfAt hb1 (w.heap.size); have qc := kq 0; have qd := kq 1; clear kq; simp [go_sem, *] at qc qd qh)); (try have qk : w.heap.size < w1.heap.size := by omega); (try (obtain ⟨kq, qi⟩ := cfAt hb1 (w.heap.size + 1); have qe := kq 0; have qf := kq 1; clear kq; simp [go_sem, *] at qe qf qi)); (try have ql : w.heap.size + 1 < w1.heap.size := by omega); (try (obtain ⟨kq, qj⟩ := cfAt hb1 (gp); have qg := kq 0; clear kq; simp [go_sem, *] at qg qj)); (try have qm : gp < w1.heap.size := by omega)))
  iterate 40 (first | (with_reducible show bodyPost _ _ _ _ _ _) | (with_reducible refine wp_ret ?_) | go_values | go_skip | go_guarded | go_step | go_upon | go_back | skip)
  refine bodyPost_ret (v := _) (by simp [results, Tryz.results60, go_sem, *]) rfl ⟨rfl, ?_⟩
  (exact clf)
 ·simp only [Bool.and_true, Bool.and_false, if_true, if_false, Bool.false_eq_true]
  have tok1 := trivial
  go_enter Tryz.func60, Tryz.ntmps60
  go_upto_region 4 with (first | (have _t := tok1; go_at_call 38; (with_reducible refine ((TV _).out).mono ?_); rintro e w1 ⟨rfl, hb1⟩; clear tok1 _t; have hz1 := hb1.size; (try simp only [sA, sB, sC, sD] at hz1); (try (obtain ⟨kq, qh⟩ := cfAt hb1 (w.heap.size); have qc := kq 0; have qd := kq 1; clear kq; simp [go_sem, *] at qc qd qh)); (try have qk : w.heap.size < w1.heap.size := by omega); (try (obtain ⟨kq, qi⟩ := cfAt hb1 (w.heap.size + 1); have qe := kq 0; have qf := kq 1; clear kq; simp [go_sem, *] at qe qf qi)); (try have ql : w.heap.size + 1 < w1.heap.size := by omega); (try (obtain ⟨kq, qj⟩ := cfAt hb1 (gp); have qg := kq 0; clear kq; simp [go_sem, *] at qg qj)); (try have qm : gp < w1.heap.size := by omega)))
  iterate 40 (first | (with_reducible show bodyPost _ _ _ _ _ _) | (with_reducible refine wp_ret ?_) | go_values | go_skip | go_guarded | go_step | go_upon | go_back | skip)
  refine bodyPost_ret (v := _) (by simp [results, Tryz.results60, go_sem, *]) rfl ⟨rfl, ?_⟩
  (exact clf)
theorem spplus_any (a b c d : Int) (v : Bool) (w : World) (gp : Nat) (hp : w.heap[gp]? = some (.cells #[.bool v] 59 (0, 0))) (ha : -409600000 ≤ a ∧ a ≤ 409600000) (hb : -409600000 ≤ b ∧ b ≤ 409600000) (hc : -409600000 ≤ c ∧ c ≤ 409600000) (hd : -409600000 ≤ d ∧ d ≤ 409600000) :
  Calls Tryz.prog 31 #[.pointer (some ⟨gp, 0, none⟩), .agg #[.int .i64 a, .int .i64 b], .agg #[.int .i64 c, .int .i64 d]] w fun e w' =>
   e = .returned (.agg #[.int .i64 (kpV (v && validB (a + c) (b + d)) (a + c)), .int .i64 (kpV (v && validB (a + c) (b + d)) (b + d))]) ∧ Cal 59 w w' gp (v && validB (a + c) (b + d)) := by
 have hl : gp < w.heap.size := lt_of_block hp
 have HP := Lib.hid hp
 clear hp
 have tok1 := trivial
 have tok2 := trivial
 go_enter Tryz.func31, Tryz.ntmps31
 go_wp2_with (first | (have _t := tok1; go_at_call 61; refine (plus_any a b c d _ (by omega) (by omega) (by omega) (by omega)).mono ?_; rintro e w1 ⟨rfl, hb1⟩; clear tok1 _t; have hz1 := hb1.size; (try simp only [sA, sB, sC, sD] at hz1); (try (obtain ⟨kq, qi⟩ := cfAt hb1 (w.heap.size); have qc := kq 0; have qd := kq 1; clear kq; simp [go_sem, *] at qc qd qi)); (try have qt : w.heap.size < w1.heap.size := by omega); (try (obtain ⟨kq, qj⟩ := cfAt hb1 (w.heap.size + 1); have qe := kq 0; have qf := kq 1; clear kq; simp [go_sem, *] at qe qf qj)); (try have qu : w.heap.size + 1 < w1.heap.size := by omega); (try (obtain ⟨kq, qk⟩ := cfAt hb1 (w.heap.size + 1 + 1); have qg := kq 0; have qh := kq 1; clear kq; simp [go_sem, *] at qg qh qk)); (try have qv : w.heap.size + 1 + 1 < w1.heap.size := by omega)) | (have _t := tok2; go_at_call 60; refine (spKeep_any _ _ v _ gp (Cal.at_ (w := w) clf)).mono ?_; rintro e w2 ⟨rfl, hb2⟩; clear tok2 _t; have hz2 := hb2.size; (try simp only [sA, sB, sC, sD] at hz2); (try (refine calCell' hb2 (w.heap.size) 0 ?_ ?_ ?_; (focus (go_size; done)); (focus (omega; done)); intro ql; simp [go_sem, *] at ql)); (try (refine calCell' hb2 (w.heap.size) 1 ?_ ?_ ?_; (focus (go_size; done)); (focus (omega; done)); intro qm; simp [go_sem, *] at qm)); (try (refine calFroz' hb2 (w.heap.size) ?_ ?_ ?_; (focus (go_size; done)); (focus (omega; done)); intro qw; simp [go_sem, *] at qw)); (try (refine (fun (qz : w.heap.size < w2.heap.size) => ?_) ?_; rotate_left; (focus (omega; done)))); (try (refine calCell' hb2 (w.heap.size + 1) 0 ?_ ?_ ?_; (focus (go_size; done)); (focus (omega; done)); intro qn; simp [go_sem, *] at qn)); (try (refine calCell' hb2 (w.heap.size + 1) 1 ?_ ?_ ?_; (focus (go_size; done)); (focus (omega; done)); intro qo; simp [go_sem, *] at qo)); (try (refine calFroz' hb2 (w.heap.size + 1) ?_ ?_ ?_; (focus (go_size; done)); (focus (omega; done)); intro qx; simp [go_sem, *] at qx)); (try (refine (fun (xc : w.heap.size + 1 < w2.heap.size) => ?_) ?_; rotate_left; (focus (omega; done)))); (try (refine calCell' hb2 (w.heap.size + 1 + 1) 0 ?_ ?_ ?_; (focus (go_size; done)); (focus (omega; done)); intro qq; simp [go_sem, *] at qq)); (try (refine calCell' hb2 (w.heap.size + 1 + 1) 1 ?_ ?_ ?_; (focus (go_size; done)); (focus (omega; done)); intro qr; simp [go_sem, *] at qr)); (try (refine calFroz' hb2 (w.heap.size + 1 + 1) ?_ ?_ ?_; (focus (go_size; done)); (focus (omega; done)); intro qy; simp [go_sem, *] at qy)); (try (refine (fun (xd : w.heap.size + 1 + 1 < w2.heap.size) => ?_) ?_; rotate_left; (focus (omega; done)))); have kp2 := calAt hb2; have fp2 := calFree hb2; have lp2 := Cal.lt hb2; (try clear kp1); (try clear fp1); (try clear qc qd qi); (try clear qt); (try clear qe qf qj); (try clear qu); (try clear qg qh qk); (try clear qv)))
 refine bodyPost_ret (v := _) (by simp [results, Tryz.results31, go_sem, *]) rfl ⟨rfl, ?_⟩
 (exact clf)
theorem spminus_any (a b c d : Int) (v : Bool) (w : World) (gp : Nat) (hp : w.heap[gp]? = some (.cells #[.bool v] 59 (0, 0))) (ha : -409600000 ≤ a ∧ a ≤ 409600000) (hb : -409600000 ≤ b ∧ b ≤ 409600000) (hc : -409600000 ≤ c ∧ c ≤ 409600000) (hd : -409600000 ≤ d ∧ d ≤ 409600000) :
  Calls Tryz.prog 32 #[.pointer (some ⟨gp, 0, none⟩), .agg #[.int .i64 a, .int .i64 b], .agg #[.int .i64 c, .int .i64 d]] w fun e w' =>
   e = .returned (.agg #[.int .i64 (kpV (v && validB (a - d) (b - c)) (a - d)), .int .i64 (kpV (v && validB (a - d) (b - c)) (b - c))]) ∧ Cal 59 w w' gp (v && validB (a - d) (b - c)) := by
 have hl : gp < w.heap.size := lt_of_block hp
 have HP := Lib.hid hp
 clear hp
 have tok1 := trivial
 have tok2 := trivial
 go_enter Tryz.func32, Tryz.ntmps32
 go_wp2_with (first | (have _t := tok1; go_at_call 62; refine (minus_any a b c d _ (by omega) (by omega) (by omega) (by omega)).mono ?_; rintro e w1 ⟨rfl, hb1⟩; clear tok1 _t; have hz1 := hb1.size; (try simp only [sA, sB, sC, sD] at hz1); (try (obtain ⟨kq, qi⟩ := cfAt hb1 (w.heap.size); have qc := kq 0; have qd := kq 1; clear kq; simp [go_sem, *] at qc qd qi)); (try have qt : w.heap.size < w1.heap.size := by omega); (try (obtain ⟨kq, qj⟩ := cfAt hb1 (w.heap.size + 1); have qe := kq 0; have qf := kq 1; clear kq; simp [go_sem, *] at qe qf qj)); (try have qu : w.heap.size + 1 < w1.heap.size := by omega); (try (obtain ⟨kq, qk⟩ := cfAt hb1 (w.heap.size + 1 + 1); have qg := kq 0; have qh := kq 1; clear kq; simp [go_sem, *] at qg qh qk)); (try have qv : w.heap.size + 1 + 1 < w1.heap.size := by omega)) | (have _t := tok2; go_at_call 60; refine (spKeep_any _ _ v _ gp (Cal.at_ (w := w) clf)).mono ?_; rintro e w2 ⟨rfl, hb2⟩; clear tok2 _t; have hz2 := hb2.size; (try simp only [sA, sB, sC, sD] at hz2); (try (refine calCell' hb2 (w.heap.size) 0 ?_ ?_ ?_; (focus (go_size; done)); (focus (omega; done)); intro ql; simp [go_sem, *] at ql)); (try (refine calCell' hb2 (w.heap.size) 1 ?_ ?_ ?_; (focus (go_size; done)); (focus (omega; done)); intro qm; simp [go_sem, *] at qm)); (try (refine calFroz' hb2 (w.heap.size) ?_ ?_ ?_; (focus (go_size; done)); (focus (omega; done)); intro qw; simp [go_sem, *] at qw)); (try (refine (fun (qz : w.heap.size < w2.heap.size) => ?_) ?_; rotate_left; (focus (omega; done)))); (try (refine calCell' hb2 (w.heap.size + 1) 0 ?_ ?_ ?_; (focus (go_size; done)); (focus (omega; done)); intro qn; simp [go_sem, *] at qn)); (try (refine calCell' hb2 (w.heap.size + 1) 1 ?_ ?_ ?_; (focus (go_size; done)); (focus (omega; done)); intro qo; simp [go_sem, *] at qo)); (try (refine calFroz' hb2 (w.heap.size + 1) ?_ ?_ ?_; (focus (go_size; done)); (focus (omega; done)); intro qx; simp [go_sem, *] at qx)); (try (refine (fun (xc : w.heap.size + 1 < w2.heap.size) => ?_) ?_; rotate_left; (focus (omega; done)))); (try (refine calCell' hb2 (w.heap.size + 1 + 1) 0 ?_ ?_ ?_; (focus (go_size; done)); (focus (omega; done)); intro qq; simp [go_sem, *] at qq)); (try (refine calCell' hb2 (w.heap.size + 1 + 1) 1 ?_ ?_ ?_; (focus (go_size; done)); (focus (omega; done)); intro qr; simp [go_sem, *] at qr)); (try (refine calFroz' hb2 (w.heap.size + 1 + 1) ?_ ?_ ?_; (focus (go_size; done)); (focus (omega; done)); intro qy; simp [go_sem, *] at qy)); (try (refine (fun (xd : w.heap.size + 1 + 1 < w2.heap.size) => ?_) ?_; rotate_left; (focus (omega; done)))); have kp2 := calAt hb2; have fp2 := calFree hb2; have lp2 := Cal.lt hb2; (try clear kp1); (try clear fp1); (try clear qc qd qi); (try clear qt); (try clear qe qf qj); (try clear qu); (try clear qg qh qk); (try clear qv)))
 refine bodyPost_ret (v := _) (by simp [results, Tryz.results32, go_sem, *]) rfl ⟨rfl, ?_⟩
 (exact clf)
end Go.Proofs.YtnkmgpmehkholaaGreat
