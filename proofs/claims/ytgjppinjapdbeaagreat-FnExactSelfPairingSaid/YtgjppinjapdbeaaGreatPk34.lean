/- Lemmas and contracts of functions. No condition. -/
import Derived.Test.YtgjppinjapdbeaaGreatPk1
import Derived.Test.YtgjppinjapdbeaaGreatPk25
import Derived.Test.YtgjppinjapdbeaaGreatPk28
import Derived.Test.YtgjppinjapdbeaaGreatPk33
namespace Go.Proofs.YtgjppinjapdbeaaGreat
section
open Go.RowKit
set_option linter.unusedVariables false
set_option linter.unusedSimpArgs false

structure Cal (T : TypeId) (w w' : World) (p : Nat) (v : Bool) : Prop where
  os : w'.os = w.os
  tape : w'.tape = w.tape
  output : w'.output = w.output
  size : w.heap.size ≤ w'.heap.size
  block : ∀ k, k < w.heap.size → k ≠ p → w'.heap[k]? = w.heap[k]?
  at_ : w'.heap[p]? = some (.cells #[.bool v] T (0, 0))
section
variable {T : TypeId} {w w1 w2 : World} {p : Nat} {v u : Bool}
theorem Cal.start (h : w.heap[p]? = some (.cells #[.bool v] T (0, 0))) : Cal T w w p v := ⟨rfl, rfl, rfl, Nat.le_refl _, fun _ _ _ => rfl, h⟩
theorem Cal.lt (h : Cal T w w1 p v) : p < w1.heap.size := lt_of_block h.at_
theorem Cal.drewN (h : Cal T w w1 p v) (n : Nat) : Cal T w (w1.drewN n) p v := ⟨h.os, h.tape, h.output, h.size, h.block, h.at_⟩
theorem Cal.drew (h : Cal T w w1 p v) : Cal T w w1.drew p v := ⟨h.os, h.tape, h.output, h.size, h.block, h.at_⟩
theorem Cal.alloc (h : Cal T w w1 p v) (o : Obj) : Cal T w (w1.alloc o) p v :=
  ⟨h.os, h.tape, h.output, by have := h.size; simp; omega, fun k hk hp => (Below.heap_alloc _ _ _ (by have := h.size; omega)).trans (h.block k hk hp), (Below.heap_alloc _ _ _ h.lt).trans h.at_⟩
theorem Cal.set (h : Cal T w w1 p v) (u : Bool) : Cal T w (w1.setCell ⟨p, 0, none⟩ (.bool u)) p u :=
  ⟨h.os, h.tape, h.output, by have := h.size; simp [World.setCell]; omega, fun k hk hp => (Below.heap_setCell w1 _ _ k hp).trans (h.block k hk hp), one_setCell h.at_⟩
theorem Cal.own (h : Cal T w w1 p v) {a : Addr} (ha : w.heap.size ≤ a.block) (hp : a.block ≠ p) (x : Value) : Cal T w (w1.setCell a x) p v :=
  ⟨h.os, h.tape, h.output, by have := h.size; simp [World.setCell]; omega, fun k hk hkp => (Below.heap_setCell w1 _ _ k (by omega)).trans (h.block k hk hkp), (Below.heap_setCell w1 _ _ p (fun e => hp e.symm)).trans h.at_⟩
theorem Cal.trans (h : Cal T w w1 p v) (k : Cal T w1 w2 p u) : Cal T w w2 p u :=
  ⟨k.os.trans h.os, k.tape.trans h.tape, k.output.trans h.output, Nat.le_trans h.size k.size, fun i hi hp => (k.block i (Nat.lt_of_lt_of_le hi h.size) hp).trans (h.block i hi hp), k.at_⟩
theorem Cal.step (h : Cal T w w1 p v) (k : Below w1.heap.size w1 w2) : Cal T w w2 p v :=
  ⟨k.os.trans h.os, k.tape.trans h.tape, k.output.trans h.output, Nat.le_trans h.size k.size, fun i hi hp => (k.block i (Nat.lt_of_lt_of_le hi h.size)).trans (h.block i hi hp), (k.block p h.lt).trans h.at_⟩
theorem Cal.below {B : Nat} (h : Cal T w w1 p v) (hB : B ≤ w.heap.size) (hp : B ≤ p) : Below B w w1 :=
  ⟨h.os, h.tape, h.output, h.size, fun k hk => h.block k (by omega) (by omega)⟩
def CalE (T : TypeId) (w w' : World) (p : Nat) : Prop := ∃ v, Cal T w w' p v
theorem CalE.of (h : Cal T w w1 p v) : CalE T w w1 p := ⟨v, h⟩
theorem CalE.alloc (h : CalE T w w1 p) (o : Obj) : CalE T w (w1.alloc o) p := h.elim fun v h => ⟨v, h.alloc o⟩
theorem CalE.drew (h : CalE T w w1 p) : CalE T w w1.drew p := h.elim fun v h => ⟨v, h.drew⟩
theorem CalE.drewN (h : CalE T w w1 p) (n : Nat) : CalE T w (w1.drewN n) p := h.elim fun v h => ⟨v, h.drewN n⟩
theorem CalE.own (h : CalE T w w1 p) {a : Addr} (ha : w.heap.size ≤ a.block) (hp : a.block ≠ p) (x : Value) : CalE T w (w1.setCell a x) p := h.elim fun v h => ⟨v, h.own ha hp x⟩
theorem CalE.via (hb : Cal T w1 w2 p u) (h : CalE T w w1 p) : CalE T w w2 p := h.elim fun v h => ⟨u, h.trans hb⟩
theorem CalE.step (hb : Below w1.heap.size w1 w2) (h : CalE T w w1 p) : CalE T w w2 p := h.elim fun v h => ⟨v, h.step hb⟩
theorem CalE.below {B : Nat} (h : CalE T w w1 p) (hB : B ≤ w.heap.size) (hp : B ≤ p) : Below B w w1 := h.elim fun v h => h.below hB hp
theorem cal_step (hb : Below w1.heap.size w1 w2) (h : Cal T w w1 p v) : Cal T w w2 p v := h.step hb
theorem calCell (h : Cal T w w1 p v) (b : Nat) (hb : b < w.heap.size) (hp : b ≠ p) : ∀ o, w1.cell? ⟨b, o, none⟩ = w.cell? ⟨b, o, none⟩ := fun o => World.cell?_of_block (h.block b hb hp)
theorem calFroz (h : Cal T w w1 p v) (b : Nat) (hb : b < w.heap.size) (hp : b ≠ p) : ∀ o, w1.frozen? ⟨b, o, none⟩ = w.frozen? ⟨b, o, none⟩ := fun o => World.frozen?_of_block (h.block b hb hp)
theorem calCell' {C : Prop} (h : Cal T w w1 p v) (b o : Nat) (hb : b < w.heap.size) (hp : b ≠ p) (k : w1.cell? ⟨b, o, none⟩ = w.cell? ⟨b, o, none⟩ → C) : C := k (calCell h b hb hp o)
theorem calFroz' {C : Prop} (h : Cal T w w1 p v) (b : Nat) (hb : b < w.heap.size) (hp : b ≠ p) (k : (∀ o, w1.frozen? ⟨b, o, none⟩ = w.frozen? ⟨b, o, none⟩) → C) : C := k (calFroz h b hb hp)
theorem calAt (h : Cal T w w1 p v) : w1.cell? ⟨p, 0, none⟩ = some (.bool v) := cell_of_one h.at_
theorem calFree (h : Cal T w w1 p v) : w1.frozen? ⟨p, 0, none⟩ = false := free_of_one h.at_
end
end
section
open Go.RowKit
set_option linter.unusedVariables false
set_option maxHeartbeats 1000000
set_option maxRecDepth 20000
set_option linter.unusedSimpArgs false
attribute [local go_sem] openAt openUpon
/-- a number of a span that is kept if the flag stays true -/
def kpV (v : Bool) (x : Int) : Int := if v = true then x else 0
theorem CalE.set {T : TypeId} {w w1 : World} {p : Nat} (h : CalE T w w1 p) (u : Bool) : Cal T w (w1.setCell ⟨p, 0, none⟩ (.bool u)) p u := h.elim fun v h => h.set u
theorem CalE.go {T : TypeId} {w w1 w2 : World} {p : Nat} {u : Bool} (hb : Cal T w1 w2 p u) (h : CalE T w w1 p) : Cal T w w2 p u := h.elim fun v h => h.trans hb
theorem spKeep_any (a b : Int) (v : Bool) (w : World) (gp : Nat) (hp : w.heap[gp]? = some (.cells #[.bool v] 61 (0, 0))) :
    Calls Tryz.prog 67 #[.pointer (some ⟨gp, 0, none⟩), .agg #[.int .i64 a, .int .i64 b]] w fun e w' =>
      e = .returned (.agg #[.int .i64 (kpV (v && validB a b) a), .int .i64 (kpV (v && validB a b) b)]) ∧ Cal 61 w w' gp (v && validB a b) := by
  have hc := cell_of_one hp
  have hf := free_of_one hp
  have hl : gp < w.heap.size := lt_of_block hp
  have hnot : ∀ (x : Bool) (w : World), (Op.unary .not (.bool x)).run Tryz.prog w = .ok (.bool (!x)) w := fun _ _ => rfl
  have HP := Lib.hid hp
  have TV := fun W => Lib.hid (valid_any a b W)
  unfold kpV
  generalize validB a b = u at *
  clear hp
  cases v <;> cases u
  · simp only [Bool.and_true, Bool.and_false, if_true, if_false, Bool.false_eq_true]
    have tok1 : True := trivial
    go_enter Tryz.func67, Tryz.ntmps67
    go_upto_region 3 with (first | (have _t := tok1; go_at_call 45; (with_reducible refine ((TV _).out).mono ?_); rintro e w1 ⟨rfl, hb1⟩; clear tok1 _t; have hz1 := hb1.size; (try simp only [World.size_alloc, World.size_setCell, World.size_drew, World.size_drewN'] at hz1); (try (have kq := cellAt hb1 (w.heap.size) (by go_size); have k1_w_0_0 := kq 0; have k1_w_0_1 := kq 1; clear kq; have f1_w_0 := frozAt hb1 (w.heap.size) (by go_size); simp [go_sem, *] at k1_w_0_0 k1_w_0_1 f1_w_0)); (try have l1_w_0 : w.heap.size < w1.heap.size := by omega); (try (have kq := cellAt hb1 (w.heap.size + 1) (by go_size); have k1_w_1_0 := kq 0; have k1_w_1_1 := kq 1; clear kq; have f1_w_1 := frozAt hb1 (w.heap.size + 1) (by go_size); simp [go_sem, *] at k1_w_1_0 k1_w_1_1 f1_w_1)); (try have l1_w_1 : w.heap.size + 1 < w1.heap.size := by omega); (try (have kq := cellAt hb1 (gp) (by go_size); have k1_gp_0 := kq 0; clear kq; have f1_gp := frozAt hb1 (gp) (by go_size); simp [go_sem, *] at k1_gp_0 f1_gp)); (try have l1_gp : gp < w1.heap.size := by omega)))
    iterate 40 (first | (with_reducible show bodyPost _ _ _ _ _ _) | (with_reducible refine wp_ret ?_) | go_values | go_skip | go_guarded | go_step | go_upon | go_back | skip)
    refine bodyPost_ret (v := _) (by simp [results, Tryz.results67, go_sem, *]) rfl ⟨rfl, ?_⟩
    (repeat' first | (with_reducible first | assumption | exact Cal.start (Hid.out (by assumption)) | exact CalE.of (Cal.start (Hid.out (by assumption))) | refine CalE.set ?_ _ | refine Cal.alloc ?_ _ | refine CalE.alloc ?_ _ | refine Cal.drew ?_ | refine CalE.drew ?_ | refine Cal.drewN ?_ _ | refine CalE.drewN ?_ _ | refine CalE.go (by assumption) ?_ | refine CalE.via (by assumption) ?_ | refine cal_step (by assumption) ?_ | refine CalE.step (by assumption) ?_ | refine Cal.own ?_ ?_ ?_ _ | refine CalE.own ?_ ?_ ?_ _) | (simp only []; omega) | omega | go_size)
  · simp only [Bool.and_true, Bool.and_false, if_true, if_false, Bool.false_eq_true]
    have tok1 : True := trivial
    go_enter Tryz.func67, Tryz.ntmps67
    go_upto_region 3 with (first | (have _t := tok1; go_at_call 45; (with_reducible refine ((TV _).out).mono ?_); rintro e w1 ⟨rfl, hb1⟩; clear tok1 _t; have hz1 := hb1.size; (try simp only [World.size_alloc, World.size_setCell, World.size_drew, World.size_drewN'] at hz1); (try (have kq := cellAt hb1 (w.heap.size) (by go_size); have k1_w_0_0 := kq 0; have k1_w_0_1 := kq 1; clear kq; have f1_w_0 := frozAt hb1 (w.heap.size) (by go_size); simp [go_sem, *] at k1_w_0_0 k1_w_0_1 f1_w_0)); (try have l1_w_0 : w.heap.size < w1.heap.size := by omega); (try (have kq := cellAt hb1 (w.heap.size + 1) (by go_size); have k1_w_1_0 := kq 0; have k1_w_1_1 := kq 1; clear kq; have f1_w_1 := frozAt hb1 (w.heap.size + 1) (by go_size); simp [go_sem, *] at k1_w_1_0 k1_w_1_1 f1_w_1)); (try have l1_w_1 : w.heap.size + 1 < w1.heap.size := by omega); (try (have kq := cellAt hb1 (gp) (by go_size); have k1_gp_0 := kq 0; clear kq; have f1_gp := frozAt hb1 (gp) (by go_size); simp [go_sem, *] at k1_gp_0 f1_gp)); (try have l1_gp : gp < w1.heap.size := by omega)))
    iterate 40 (first | (with_reducible show bodyPost _ _ _ _ _ _) | (with_reducible refine wp_ret ?_) | go_values | go_skip | go_guarded | go_step | go_upon | go_back | skip)
    refine bodyPost_ret (v := _) (by simp [results, Tryz.results67, go_sem, *]) rfl ⟨rfl, ?_⟩
    (repeat' first | (with_reducible first | assumption | exact Cal.start (Hid.out (by assumption)) | exact CalE.of (Cal.start (Hid.out (by assumption))) | refine CalE.set ?_ _ | refine Cal.alloc ?_ _ | refine CalE.alloc ?_ _ | refine Cal.drew ?_ | refine CalE.drew ?_ | refine Cal.drewN ?_ _ | refine CalE.drewN ?_ _ | refine CalE.go (by assumption) ?_ | refine CalE.via (by assumption) ?_ | refine cal_step (by assumption) ?_ | refine CalE.step (by assumption) ?_ | refine Cal.own ?_ ?_ ?_ _ | refine CalE.own ?_ ?_ ?_ _) | (simp only []; omega) | omega | go_size)
  · simp only [Bool.and_true, Bool.and_false, if_true, if_false, Bool.false_eq_true]
    have tok1 : True := trivial
    go_enter Tryz.func67, Tryz.ntmps67
    go_upto_region 3 with (first | (have _t := tok1; go_at_call 45; (with_reducible refine ((TV _).out).mono ?_); rintro e w1 ⟨rfl, hb1⟩; clear tok1 _t; have hz1 := hb1.size; (try simp only [World.size_alloc, World.size_setCell, World.size_drew, World.size_drewN'] at hz1); (try (have kq := cellAt hb1 (w.heap.size) (by go_size); have k1_w_0_0 := kq 0; have k1_w_0_1 := kq 1; clear kq; have f1_w_0 := frozAt hb1 (w.heap.size) (by go_size); simp [go_sem, *] at k1_w_0_0 k1_w_0_1 f1_w_0)); (try have l1_w_0 : w.heap.size < w1.heap.size := by omega); (try (have kq := cellAt hb1 (w.heap.size + 1) (by go_size); have k1_w_1_0 := kq 0; have k1_w_1_1 := kq 1; clear kq; have f1_w_1 := frozAt hb1 (w.heap.size + 1) (by go_size); simp [go_sem, *] at k1_w_1_0 k1_w_1_1 f1_w_1)); (try have l1_w_1 : w.heap.size + 1 < w1.heap.size := by omega); (try (have kq := cellAt hb1 (gp) (by go_size); have k1_gp_0 := kq 0; clear kq; have f1_gp := frozAt hb1 (gp) (by go_size); simp [go_sem, *] at k1_gp_0 f1_gp)); (try have l1_gp : gp < w1.heap.size := by omega)))
    iterate 40 (first | (with_reducible show bodyPost _ _ _ _ _ _) | (with_reducible refine wp_ret ?_) | go_values | go_skip | go_guarded | go_step | go_upon | go_back | skip)
    refine bodyPost_ret (v := _) (by simp [results, Tryz.results67, go_sem, *]) rfl ⟨rfl, ?_⟩
    (repeat' first | (with_reducible first | assumption | exact Cal.start (Hid.out (by assumption)) | exact CalE.of (Cal.start (Hid.out (by assumption))) | refine CalE.set ?_ _ | refine Cal.alloc ?_ _ | refine CalE.alloc ?_ _ | refine Cal.drew ?_ | refine CalE.drew ?_ | refine Cal.drewN ?_ _ | refine CalE.drewN ?_ _ | refine CalE.go (by assumption) ?_ | refine CalE.via (by assumption) ?_ | refine cal_step (by assumption) ?_ | refine CalE.step (by assumption) ?_ | refine Cal.own ?_ ?_ ?_ _ | refine CalE.own ?_ ?_ ?_ _) | (simp only []; omega) | omega | go_size)
  · simp only [Bool.and_true, Bool.and_false, if_true, if_false, Bool.false_eq_true]
    have tok1 : True := trivial
    go_enter Tryz.func67, Tryz.ntmps67
    go_upto_region 4 with (first | (have _t := tok1; go_at_call 45; (with_reducible refine ((TV _).out).mono ?_); rintro e w1 ⟨rfl, hb1⟩; clear tok1 _t; have hz1 := hb1.size; (try simp only [World.size_alloc, World.size_setCell, World.size_drew, World.size_drewN'] at hz1); (try (have kq := cellAt hb1 (w.heap.size) (by go_size); have k1_w_0_0 := kq 0; have k1_w_0_1 := kq 1; clear kq; have f1_w_0 := frozAt hb1 (w.heap.size) (by go_size); simp [go_sem, *] at k1_w_0_0 k1_w_0_1 f1_w_0)); (try have l1_w_0 : w.heap.size < w1.heap.size := by omega); (try (have kq := cellAt hb1 (w.heap.size + 1) (by go_size); have k1_w_1_0 := kq 0; have k1_w_1_1 := kq 1; clear kq; have f1_w_1 := frozAt hb1 (w.heap.size + 1) (by go_size); simp [go_sem, *] at k1_w_1_0 k1_w_1_1 f1_w_1)); (try have l1_w_1 : w.heap.size + 1 < w1.heap.size := by omega); (try (have kq := cellAt hb1 (gp) (by go_size); have k1_gp_0 := kq 0; clear kq; have f1_gp := frozAt hb1 (gp) (by go_size); simp [go_sem, *] at k1_gp_0 f1_gp)); (try have l1_gp : gp < w1.heap.size := by omega)))
    iterate 40 (first | (with_reducible show bodyPost _ _ _ _ _ _) | (with_reducible refine wp_ret ?_) | go_values | go_skip | go_guarded | go_step | go_upon | go_back | skip)
    refine bodyPost_ret (v := _) (by simp [results, Tryz.results67, go_sem, *]) rfl ⟨rfl, ?_⟩
    (repeat' first | (with_reducible first | assumption | exact Cal.start (Hid.out (by assumption)) | exact CalE.of (Cal.start (Hid.out (by assumption))) | refine CalE.set ?_ _ | refine Cal.alloc ?_ _ | refine CalE.alloc ?_ _ | refine Cal.drew ?_ | refine CalE.drew ?_ | refine Cal.drewN ?_ _ | refine CalE.drewN ?_ _ | refine CalE.go (by assumption) ?_ | refine CalE.via (by assumption) ?_ | refine cal_step (by assumption) ?_ | refine CalE.step (by assumption) ?_ | refine Cal.own ?_ ?_ ?_ _ | refine CalE.own ?_ ?_ ?_ _) | (simp only []; omega) | omega | go_size)
theorem spplus_any (a b c d : Int) (v : Bool) (w : World) (gp : Nat) (hp : w.heap[gp]? = some (.cells #[.bool v] 61 (0, 0))) (ha : -409600000 ≤ a ∧ a ≤ 409600000) (hb : -409600000 ≤ b ∧ b ≤ 409600000) (hc : -409600000 ≤ c ∧ c ≤ 409600000) (hd : -409600000 ≤ d ∧ d ≤ 409600000) :
    Calls Tryz.prog 37 #[.pointer (some ⟨gp, 0, none⟩), .agg #[.int .i64 a, .int .i64 b], .agg #[.int .i64 c, .int .i64 d]] w fun e w' =>
      e = .returned (.agg #[.int .i64 (kpV (v && validB (a + c) (b + d)) (a + c)), .int .i64 (kpV (v && validB (a + c) (b + d)) (b + d))]) ∧ Cal 61 w w' gp (v && validB (a + c) (b + d)) := by
  have hl : gp < w.heap.size := lt_of_block hp
  have HP := Lib.hid hp
  clear hp
  have tok1 : True := trivial
  have tok2 : True := trivial
  go_enter Tryz.func37, Tryz.ntmps37
  go_wp2_with (first | (have _t := tok1; go_at_call 68; refine (plus_any a b c d _ (by omega) (by omega) (by omega) (by omega)).mono ?_; rintro e w1 ⟨rfl, hb1⟩; clear tok1 _t; have hz1 := hb1.size; (try simp only [World.size_alloc, World.size_setCell, World.size_drew, World.size_drewN'] at hz1); (try (have kq := cellAt hb1 (w.heap.size) (by go_size); have k1_w_0_0 := kq 0; have k1_w_0_1 := kq 1; clear kq; have f1_w_0 := frozAt hb1 (w.heap.size) (by go_size); simp [go_sem, *] at k1_w_0_0 k1_w_0_1 f1_w_0)); (try have l1_w_0 : w.heap.size < w1.heap.size := by omega); (try (have kq := cellAt hb1 (w.heap.size + 1) (by go_size); have k1_w_1_0 := kq 0; have k1_w_1_1 := kq 1; clear kq; have f1_w_1 := frozAt hb1 (w.heap.size + 1) (by go_size); simp [go_sem, *] at k1_w_1_0 k1_w_1_1 f1_w_1)); (try have l1_w_1 : w.heap.size + 1 < w1.heap.size := by omega); (try (have kq := cellAt hb1 (w.heap.size + 1 + 1) (by go_size); have k1_w_2_0 := kq 0; have k1_w_2_1 := kq 1; clear kq; have f1_w_2 := frozAt hb1 (w.heap.size + 1 + 1) (by go_size); simp [go_sem, *] at k1_w_2_0 k1_w_2_1 f1_w_2)); (try have l1_w_2 : w.heap.size + 1 + 1 < w1.heap.size := by omega)) | (have _t := tok2; go_at_call 67; refine (spKeep_any _ _ v _ gp (Cal.at_ (w := w) (by (repeat' first | (with_reducible first | assumption | exact Cal.start (Hid.out (by assumption)) | exact CalE.of (Cal.start (Hid.out (by assumption))) | refine CalE.set ?_ _ | refine Cal.alloc ?_ _ | refine CalE.alloc ?_ _ | refine Cal.drew ?_ | refine CalE.drew ?_ | refine Cal.drewN ?_ _ | refine CalE.drewN ?_ _ | refine CalE.go (by assumption) ?_ | refine CalE.via (by assumption) ?_ | refine cal_step (by assumption) ?_ | refine CalE.step (by assumption) ?_ | refine Cal.own ?_ ?_ ?_ _ | refine CalE.own ?_ ?_ ?_ _) | (simp only []; omega) | omega | go_size)))).mono ?_; rintro e w2 ⟨rfl, hb2⟩; clear tok2 _t; have hz2 := hb2.size; (try simp only [World.size_alloc, World.size_setCell, World.size_drew, World.size_drewN'] at hz2); (try (refine calCell' hb2 (w.heap.size) 0 ?_ ?_ ?_; (focus (go_size; done)); (focus (omega; done)); intro k2_w_0_0; simp [go_sem, *] at k2_w_0_0)); (try (refine calCell' hb2 (w.heap.size) 1 ?_ ?_ ?_; (focus (go_size; done)); (focus (omega; done)); intro k2_w_0_1; simp [go_sem, *] at k2_w_0_1)); (try (refine calFroz' hb2 (w.heap.size) ?_ ?_ ?_; (focus (go_size; done)); (focus (omega; done)); intro f2_w_0; simp [go_sem, *] at f2_w_0)); (try (refine (fun (l2_w_0 : w.heap.size < w2.heap.size) => ?_) ?_; rotate_left; (focus (omega; done)))); (try (refine calCell' hb2 (w.heap.size + 1) 0 ?_ ?_ ?_; (focus (go_size; done)); (focus (omega; done)); intro k2_w_1_0; simp [go_sem, *] at k2_w_1_0)); (try (refine calCell' hb2 (w.heap.size + 1) 1 ?_ ?_ ?_; (focus (go_size; done)); (focus (omega; done)); intro k2_w_1_1; simp [go_sem, *] at k2_w_1_1)); (try (refine calFroz' hb2 (w.heap.size + 1) ?_ ?_ ?_; (focus (go_size; done)); (focus (omega; done)); intro f2_w_1; simp [go_sem, *] at f2_w_1)); (try (refine (fun (l2_w_1 : w.heap.size + 1 < w2.heap.size) => ?_) ?_; rotate_left; (focus (omega; done)))); (try (refine calCell' hb2 (w.heap.size + 1 + 1) 0 ?_ ?_ ?_; (focus (go_size; done)); (focus (omega; done)); intro k2_w_2_0; simp [go_sem, *] at k2_w_2_0)); (try (refine calCell' hb2 (w.heap.size + 1 + 1) 1 ?_ ?_ ?_; (focus (go_size; done)); (focus (omega; done)); intro k2_w_2_1; simp [go_sem, *] at k2_w_2_1)); (try (refine calFroz' hb2 (w.heap.size + 1 + 1) ?_ ?_ ?_; (focus (go_size; done)); (focus (omega; done)); intro f2_w_2; simp [go_sem, *] at f2_w_2)); (try (refine (fun (l2_w_2 : w.heap.size + 1 + 1 < w2.heap.size) => ?_) ?_; rotate_left; (focus (omega; done)))); have kp2 := calAt hb2; have fp2 := calFree hb2; have lp2 := Cal.lt hb2; (try clear kp1); (try clear fp1); (try clear k1_w_0_0 k1_w_0_1 f1_w_0); (try clear l1_w_0); (try clear k1_w_1_0 k1_w_1_1 f1_w_1); (try clear l1_w_1); (try clear k1_w_2_0 k1_w_2_1 f1_w_2); (try clear l1_w_2)))
  refine bodyPost_ret (v := _) (by simp [results, Tryz.results37, go_sem, *]) rfl ⟨rfl, ?_⟩
  (repeat' first | (with_reducible first | assumption | exact Cal.start (Hid.out (by assumption)) | exact CalE.of (Cal.start (Hid.out (by assumption))) | refine CalE.set ?_ _ | refine Cal.alloc ?_ _ | refine CalE.alloc ?_ _ | refine Cal.drew ?_ | refine CalE.drew ?_ | refine Cal.drewN ?_ _ | refine CalE.drewN ?_ _ | refine CalE.go (by assumption) ?_ | refine CalE.via (by assumption) ?_ | refine cal_step (by assumption) ?_ | refine CalE.step (by assumption) ?_ | refine Cal.own ?_ ?_ ?_ _ | refine CalE.own ?_ ?_ ?_ _) | (simp only []; omega) | omega | go_size)
end
section
open Go.RowKit
set_option linter.unusedVariables false
set_option maxHeartbeats 1000000
set_option maxRecDepth 20000
set_option linter.unusedSimpArgs false
attribute [local go_sem] openAt openUpon
abbrev I5 := Int × Int × Int × Int × Bool
theorem i5_open (r : I5) : ∃ a b c d e, r = (a, b, c, d, e) := ⟨_, _, _, _, _, rfl⟩
noncomputable def BL (A B x e : Int) : Int := bLo (dcV A B) (ptSt A B x e) (bestN (ptSt A B x e))
noncomputable def BH (A B x e : Int) : Int := bHi (dcV A B) (ptSt A B x e) (bestN (ptSt A B x e))
noncomputable def BK (A B x e : Int) : Bool := beOk (dcV A B) (ptSt A B x e)
/-- a span as an interval's four numbers -/
noncomputable def mk5 (a b : Int) : I5 := (mkN a 4096, mkD a 4096, mkN b 4096, mkD b 4096, true)
theorem BK_valid {A B x e : Int} (h : BK A B x e = true) : validB (BL A B x e) (BH A B x e) = true := by
  rcases be_lit (dcV A B) (ptSt A B x e) with ⟨_, hv, _⟩ | ⟨h2, _⟩
  · exact hv
  · unfold BK at h; rw [h2] at h; cases h
theorem B_bd {A B x y e : Int} (h : pqB A B x y e = true) : (0 ≤ BL A B x e ∧ BL A B x e ≤ 14100000) ∧ (0 ≤ BH A B x e ∧ BH A B x e ≤ 14100000) := best_bd h
/-- the best height as an interval, or nothing -/
noncomputable def hgV (A B x e : Int) : I5 := if BK A B x e = true then mk5 (BL A B x e) (BH A B x e) else ivZ
theorem hpHeight_any {A B x y e : Int} (w : World) (h : pqB A B x y e = true) : Calls Tryz.prog 31 #[.agg #[.int .i64 A, .int .i64 B], .agg #[.int .i64 x, .int .i64 y, .int .i64 e]] w fun r w' =>
    r = .returned (.tuple #[.agg #[.int .i64 (hgV A B x e).1, .int .i64 (hgV A B x e).2.1, .int .i64 (hgV A B x e).2.2.1, .int .i64 (hgV A B x e).2.2.2.1], .bool (hgV A B x e).2.2.2.2]) ∧ Below w.heap.size w w' := by
  have hb := pq_bd h
  have T1 := fun W : World => Lib.hid (chBest_any A B x y e W hb.1 hb.2.1 hb.2.2.1 hb.2.2.2.1 hb.2.2.2.2)
  have E : hgV A B x e = (beN1 (dcV A B) (ptSt A B x e), beD1 (dcV A B) (ptSt A B x e), beN2 (dcV A B) (ptSt A B x e), beD2 (dcV A B) (ptSt A B x e), beOk (dcV A B) (ptSt A B x e)) := by
    unfold hgV BK mk5 BL BH
    rcases be_lit (dcV A B) (ptSt A B x e) with ⟨h1, _, h3, h4, h5, h6, _⟩ | ⟨h1, _, h3, h4, h5, h6, _⟩
    · rw [h1, h3, h4, h5, h6]; rfl
    · rw [h1, h3, h4, h5, h6]; rfl
  rw [E]
  clear E h hb
  generalize beN1 (dcV A B) (ptSt A B x e) = i1 at *
  generalize beD1 (dcV A B) (ptSt A B x e) = i2 at *
  generalize beN2 (dcV A B) (ptSt A B x e) = i3 at *
  generalize beD2 (dcV A B) (ptSt A B x e) = i4 at *
  generalize beK (dcV A B) (ptSt A B x e) = i5 at *
  generalize beOk (dcV A B) (ptSt A B x e) = i6 at *
  have tok1 : True := trivial
  go_enter Tryz.func31, Tryz.ntmps31
  go_wp2_with (first | (have _t := tok1; go_at_call 55; (with_reducible refine ((T1 _).out).mono ?_); rintro e w1 ⟨rfl, hb1⟩; clear tok1 _t; have hz1 := hb1.size; (try simp only [World.size_alloc, World.size_setCell, World.size_drew, World.size_drewN'] at hz1); (try (have kq := cellAt hb1 (w.heap.size) (by go_size); have k1_w_0_0 := kq 0; have k1_w_0_1 := kq 1; clear kq; have f1_w_0 := frozAt hb1 (w.heap.size) (by go_size); simp [go_sem, *] at k1_w_0_0 k1_w_0_1 f1_w_0)); (try have l1_w_0 : w.heap.size < w1.heap.size := by omega); (try (have kq := cellAt hb1 (w.heap.size + 1) (by go_size); have k1_w_1_0 := kq 0; have k1_w_1_1 := kq 1; have k1_w_1_2 := kq 2; clear kq; have f1_w_1 := frozAt hb1 (w.heap.size + 1) (by go_size); simp [go_sem, *] at k1_w_1_0 k1_w_1_1 k1_w_1_2 f1_w_1)); (try have l1_w_1 : w.heap.size + 1 < w1.heap.size := by omega); (try (have kq := cellAt hb1 (w.heap.size + 1 + 1) (by go_size); have k1_w_2_0 := kq 0; have k1_w_2_1 := kq 1; have k1_w_2_2 := kq 2; have k1_w_2_3 := kq 3; clear kq; have f1_w_2 := frozAt hb1 (w.heap.size + 1 + 1) (by go_size); simp [go_sem, *] at k1_w_2_0 k1_w_2_1 k1_w_2_2 k1_w_2_3 f1_w_2)); (try have l1_w_2 : w.heap.size + 1 + 1 < w1.heap.size := by omega)))
  refine bodyPost_ret (v := _) (by simp [results, Tryz.results31, go_sem, *]) rfl ⟨rfl, ?_⟩
  repeat' first | (with_reducible first | apply zRf | assumption | apply zDn | apply zDr | apply zAl | apply zSt | refine zVi (by assumption) ?_ ?_) | go_size
/-- the sum of a span with itself -/
noncomputable def slV (A B x e : Int) : I5 := if (BK A B x e && validB (BL A B x e + BL A B x e) (BH A B x e + BH A B x e)) = true then mk5 (BL A B x e + BL A B x e) (BH A B x e + BH A B x e) else ivZ
theorem hpSelf_any {A B x y e : Int} (w : World) (h : pqB A B x y e = true) : Calls Tryz.prog 20 #[.agg #[.int .i64 A, .int .i64 B], .agg #[.int .i64 x, .int .i64 y, .int .i64 e]] w fun r w' =>
    r = .returned (.tuple #[.agg #[.int .i64 (slV A B x e).1, .int .i64 (slV A B x e).2.1, .int .i64 (slV A B x e).2.2.1, .int .i64 (slV A B x e).2.2.2.1], .bool (slV A B x e).2.2.2.2]) ∧ Below w.heap.size w w' := by
  have T1 := fun W : World => Lib.hid (hpHeight_any (y := y) W h)
  cases hk : BK A B x e
  · rw [show hgV A B x e = ivZ by simp [hgV, hk]] at T1
    rw [show slV A B x e = ivZ by simp [slV, hk]]
    clear h hk
    unfold ivZ at *
    have tok1 : True := trivial
    go_enter Tryz.func20, Tryz.ntmps20
    go_wp2_with (first | (have _t := tok1; go_at_call 31; (with_reducible refine ((T1 _).out).mono ?_); rintro e w1 ⟨rfl, hb1⟩; clear tok1 _t; have hz1 := hb1.size; (try simp only [World.size_alloc, World.size_setCell, World.size_drew, World.size_drewN'] at hz1); (try (have kq := cellAt hb1 (w.heap.size) (by go_size); have k1_w_0_0 := kq 0; have k1_w_0_1 := kq 1; clear kq; have f1_w_0 := frozAt hb1 (w.heap.size) (by go_size); simp [go_sem, *] at k1_w_0_0 k1_w_0_1 f1_w_0)); (try have l1_w_0 : w.heap.size < w1.heap.size := by omega); (try (have kq := cellAt hb1 (w.heap.size + 1) (by go_size); have k1_w_1_0 := kq 0; have k1_w_1_1 := kq 1; have k1_w_1_2 := kq 2; clear kq; have f1_w_1 := frozAt hb1 (w.heap.size + 1) (by go_size); simp [go_sem, *] at k1_w_1_0 k1_w_1_1 k1_w_1_2 f1_w_1)); (try have l1_w_1 : w.heap.size + 1 < w1.heap.size := by omega); (try (have kq := cellAt hb1 (w.heap.size + 1 + 1) (by go_size); have k1_w_2_0 := kq 0; have k1_w_2_1 := kq 1; have k1_w_2_2 := kq 2; have k1_w_2_3 := kq 3; clear kq; have f1_w_2 := frozAt hb1 (w.heap.size + 1 + 1) (by go_size); simp [go_sem, *] at k1_w_2_0 k1_w_2_1 k1_w_2_2 k1_w_2_3 f1_w_2)); (try have l1_w_2 : w.heap.size + 1 + 1 < w1.heap.size := by omega)))
    refine bodyPost_ret (v := _) (by simp [results, Tryz.results20, go_sem, *]) rfl ⟨rfl, ?_⟩
    repeat' first | (with_reducible first | apply zRf | assumption | apply zDn | apply zDr | apply zAl | apply zSt | refine zVi (by assumption) ?_ ?_) | go_size
  · have hv := BK_valid hk
    obtain ⟨g1, g2, g3⟩ := iv_read hv
    have T2 := fun W : World => Lib.hid (ivAdd_any W g1 g1)
    rw [g2, g3] at T2
    rw [show hgV A B x e = mk5 (BL A B x e) (BH A B x e) by simp [hgV, hk]] at T1
    have hs : slV A B x e = if validB (BL A B x e + BL A B x e) (BH A B x e + BH A B x e) = true then mk5 (BL A B x e + BL A B x e) (BH A B x e + BH A B x e) else ivZ := by simp [slV, hk]
    rw [hs]
    clear h hk hv g1 g2 g3 hs
    generalize BL A B x e = lo at *
    generalize BH A B x e = hi at *
    simp only [opV, if_pos rfl] at T2
    unfold mk5 ivZ at *
    cases hv : validB (lo + lo) (hi + hi)
    · rw [ivV_no (by simp [hv])] at T2
      rw [if_neg (by simp)]
      clear hv
      generalize mkN lo 4096 = i1 at *
      generalize mkD lo 4096 = i2 at *
      generalize mkN hi 4096 = i3 at *
      generalize mkD hi 4096 = i4 at *
      have tok1 : True := trivial
      have tok2 : True := trivial
      go_enter Tryz.func20, Tryz.ntmps20
      go_wp2_with (first | (have _t := tok1; go_at_call 31; (with_reducible refine ((T1 _).out).mono ?_); rintro e w1 ⟨rfl, hb1⟩; clear tok1 _t; have hz1 := hb1.size; (try simp only [World.size_alloc, World.size_setCell, World.size_drew, World.size_drewN'] at hz1); (try (have kq := cellAt hb1 (w.heap.size) (by go_size); have k1_w_0_0 := kq 0; have k1_w_0_1 := kq 1; clear kq; have f1_w_0 := frozAt hb1 (w.heap.size) (by go_size); simp [go_sem, *] at k1_w_0_0 k1_w_0_1 f1_w_0)); (try have l1_w_0 : w.heap.size < w1.heap.size := by omega); (try (have kq := cellAt hb1 (w.heap.size + 1) (by go_size); have k1_w_1_0 := kq 0; have k1_w_1_1 := kq 1; have k1_w_1_2 := kq 2; clear kq; have f1_w_1 := frozAt hb1 (w.heap.size + 1) (by go_size); simp [go_sem, *] at k1_w_1_0 k1_w_1_1 k1_w_1_2 f1_w_1)); (try have l1_w_1 : w.heap.size + 1 < w1.heap.size := by omega); (try (have kq := cellAt hb1 (w.heap.size + 1 + 1) (by go_size); have k1_w_2_0 := kq 0; have k1_w_2_1 := kq 1; have k1_w_2_2 := kq 2; have k1_w_2_3 := kq 3; clear kq; have f1_w_2 := frozAt hb1 (w.heap.size + 1 + 1) (by go_size); simp [go_sem, *] at k1_w_2_0 k1_w_2_1 k1_w_2_2 k1_w_2_3 f1_w_2)); (try have l1_w_2 : w.heap.size + 1 + 1 < w1.heap.size := by omega)) | (have _t := tok2; go_at_call 32; (with_reducible refine ((T2 _).out).mono ?_); rintro e w2 ⟨rfl, hb2⟩; clear tok2 _t; have hz2 := hb2.size; (try simp only [World.size_alloc, World.size_setCell, World.size_drew, World.size_drewN'] at hz2); (try (have kq := cellAt hb2 (w.heap.size) (by go_size); have k2_w_0_0 := kq 0; have k2_w_0_1 := kq 1; clear kq; have f2_w_0 := frozAt hb2 (w.heap.size) (by go_size); simp [go_sem, *] at k2_w_0_0 k2_w_0_1 f2_w_0)); (try have l2_w_0 : w.heap.size < w2.heap.size := by omega); (try (have kq := cellAt hb2 (w.heap.size + 1) (by go_size); have k2_w_1_0 := kq 0; have k2_w_1_1 := kq 1; have k2_w_1_2 := kq 2; clear kq; have f2_w_1 := frozAt hb2 (w.heap.size + 1) (by go_size); simp [go_sem, *] at k2_w_1_0 k2_w_1_1 k2_w_1_2 f2_w_1)); (try have l2_w_1 : w.heap.size + 1 < w2.heap.size := by omega); (try (have kq := cellAt hb2 (w.heap.size + 1 + 1) (by go_size); have k2_w_2_0 := kq 0; have k2_w_2_1 := kq 1; have k2_w_2_2 := kq 2; have k2_w_2_3 := kq 3; clear kq; have f2_w_2 := frozAt hb2 (w.heap.size + 1 + 1) (by go_size); simp [go_sem, *] at k2_w_2_0 k2_w_2_1 k2_w_2_2 k2_w_2_3 f2_w_2)); (try have l2_w_2 : w.heap.size + 1 + 1 < w2.heap.size := by omega); (try (have kq := cellAt hb2 (w1.heap.size) (by go_size); have k2_w1_0_0 := kq 0; have k2_w1_0_1 := kq 1; have k2_w1_0_2 := kq 2; have k2_w1_0_3 := kq 3; clear kq; have f2_w1_0 := frozAt hb2 (w1.heap.size) (by go_size); simp [go_sem, *] at k2_w1_0_0 k2_w1_0_1 k2_w1_0_2 k2_w1_0_3 f2_w1_0)); (try have l2_w1_0 : w1.heap.size < w2.heap.size := by omega); (try clear k1_w_0_0 k1_w_0_1 f1_w_0); (try clear l1_w_0); (try clear k1_w_1_0 k1_w_1_1 k1_w_1_2 f1_w_1); (try clear l1_w_1); (try clear k1_w_2_0 k1_w_2_1 k1_w_2_2 k1_w_2_3 f1_w_2); (try clear l1_w_2)))
      refine bodyPost_ret (v := _) (by simp [results, Tryz.results20, go_sem, *]) rfl ⟨rfl, ?_⟩
      repeat' first | (with_reducible first | apply zRf | assumption | apply zDn | apply zDr | apply zAl | apply zSt | refine zVi (by assumption) ?_ ?_) | go_size
    · rw [ivV_yes hv] at T2
      rw [if_pos rfl]
      clear hv
      generalize mkN lo 4096 = i1 at *
      generalize mkD lo 4096 = i2 at *
      generalize mkN hi 4096 = i3 at *
      generalize mkD hi 4096 = i4 at *
      generalize mkN (lo + lo) 4096 = j1 at *
      generalize mkD (lo + lo) 4096 = j2 at *
      generalize mkN (hi + hi) 4096 = j3 at *
      generalize mkD (hi + hi) 4096 = j4 at *
      have tok1 : True := trivial
      have tok2 : True := trivial
      go_enter Tryz.func20, Tryz.ntmps20
      go_wp2_with (first | (have _t := tok1; go_at_call 31; (with_reducible refine ((T1 _).out).mono ?_); rintro e w1 ⟨rfl, hb1⟩; clear tok1 _t; have hz1 := hb1.size; (try simp only [World.size_alloc, World.size_setCell, World.size_drew, World.size_drewN'] at hz1); (try (have kq := cellAt hb1 (w.heap.size) (by go_size); have k1_w_0_0 := kq 0; have k1_w_0_1 := kq 1; clear kq; have f1_w_0 := frozAt hb1 (w.heap.size) (by go_size); simp [go_sem, *] at k1_w_0_0 k1_w_0_1 f1_w_0)); (try have l1_w_0 : w.heap.size < w1.heap.size := by omega); (try (have kq := cellAt hb1 (w.heap.size + 1) (by go_size); have k1_w_1_0 := kq 0; have k1_w_1_1 := kq 1; have k1_w_1_2 := kq 2; clear kq; have f1_w_1 := frozAt hb1 (w.heap.size + 1) (by go_size); simp [go_sem, *] at k1_w_1_0 k1_w_1_1 k1_w_1_2 f1_w_1)); (try have l1_w_1 : w.heap.size + 1 < w1.heap.size := by omega); (try (have kq := cellAt hb1 (w.heap.size + 1 + 1) (by go_size); have k1_w_2_0 := kq 0; have k1_w_2_1 := kq 1; have k1_w_2_2 := kq 2; have k1_w_2_3 := kq 3; clear kq; have f1_w_2 := frozAt hb1 (w.heap.size + 1 + 1) (by go_size); simp [go_sem, *] at k1_w_2_0 k1_w_2_1 k1_w_2_2 k1_w_2_3 f1_w_2)); (try have l1_w_2 : w.heap.size + 1 + 1 < w1.heap.size := by omega)) | (have _t := tok2; go_at_call 32; (with_reducible refine ((T2 _).out).mono ?_); rintro e w2 ⟨rfl, hb2⟩; clear tok2 _t; have hz2 := hb2.size; (try simp only [World.size_alloc, World.size_setCell, World.size_drew, World.size_drewN'] at hz2); (try (have kq := cellAt hb2 (w.heap.size) (by go_size); have k2_w_0_0 := kq 0; have k2_w_0_1 := kq 1; clear kq; have f2_w_0 := frozAt hb2 (w.heap.size) (by go_size); simp [go_sem, *] at k2_w_0_0 k2_w_0_1 f2_w_0)); (try have l2_w_0 : w.heap.size < w2.heap.size := by omega); (try (have kq := cellAt hb2 (w.heap.size + 1) (by go_size); have k2_w_1_0 := kq 0; have k2_w_1_1 := kq 1; have k2_w_1_2 := kq 2; clear kq; have f2_w_1 := frozAt hb2 (w.heap.size + 1) (by go_size); simp [go_sem, *] at k2_w_1_0 k2_w_1_1 k2_w_1_2 f2_w_1)); (try have l2_w_1 : w.heap.size + 1 < w2.heap.size := by omega); (try (have kq := cellAt hb2 (w.heap.size + 1 + 1) (by go_size); have k2_w_2_0 := kq 0; have k2_w_2_1 := kq 1; have k2_w_2_2 := kq 2; have k2_w_2_3 := kq 3; clear kq; have f2_w_2 := frozAt hb2 (w.heap.size + 1 + 1) (by go_size); simp [go_sem, *] at k2_w_2_0 k2_w_2_1 k2_w_2_2 k2_w_2_3 f2_w_2)); (try have l2_w_2 : w.heap.size + 1 + 1 < w2.heap.size := by omega); (try (have kq := cellAt hb2 (w1.heap.size) (by go_size); have k2_w1_0_0 := kq 0; have k2_w1_0_1 := kq 1; have k2_w1_0_2 := kq 2; have k2_w1_0_3 := kq 3; clear kq; have f2_w1_0 := frozAt hb2 (w1.heap.size) (by go_size); simp [go_sem, *] at k2_w1_0_0 k2_w1_0_1 k2_w1_0_2 k2_w1_0_3 f2_w1_0)); (try have l2_w1_0 : w1.heap.size < w2.heap.size := by omega); (try clear k1_w_0_0 k1_w_0_1 f1_w_0); (try clear l1_w_0); (try clear k1_w_1_0 k1_w_1_1 k1_w_1_2 f1_w_1); (try clear l1_w_1); (try clear k1_w_2_0 k1_w_2_1 k1_w_2_2 k1_w_2_3 f1_w_2); (try clear l1_w_2)))
      refine bodyPost_ret (v := _) (by simp [results, Tryz.results20, go_sem, *]) rfl ⟨rfl, ?_⟩
      repeat' first | (with_reducible first | apply zRf | assumption | apply zDn | apply zDr | apply zAl | apply zSt | refine zVi (by assumption) ?_ ?_) | go_size
noncomputable def spV (A B x y e : Int) : I5 := if pqB A B x y e = true then slV A B x e else ivZ
theorem sSelfPairing_any (A B x y e : Int) (w : World) : Calls Tryz.prog 7 #[.agg #[.int .i64 A, .int .i64 B], .agg #[.int .i64 x, .int .i64 y, .int .i64 e]] w fun r w' =>
    r = .returned (.tuple #[.agg #[.int .i64 (spV A B x y e).1, .int .i64 (spV A B x y e).2.1, .int .i64 (spV A B x y e).2.2.1, .int .i64 (spV A B x y e).2.2.2.1], .bool (spV A B x y e).2.2.2.2]) ∧ Below w.heap.size w w' := by
  have T1 := fun W : World => Lib.hid (sIsP_any A B x y e W)
  cases h : pqB A B x y e
  · have T2 := T1
    rw [h] at T1
    rw [show spV A B x y e = ivZ by simp [spV, h]]
    clear h
    unfold ivZ
    have tok1 : True := trivial
    have tok2 : True := trivial
    go_enter Tryz.func7, Tryz.ntmps7
    go_upto_region 2 with (first | (have _t := tok1; go_at_call 19; (with_reducible refine ((T1 _).out).mono ?_); rintro e w1 ⟨rfl, hb1⟩; clear tok1 _t; have hz1 := hb1.size; (try simp only [World.size_alloc, World.size_setCell, World.size_drew, World.size_drewN'] at hz1); (try (have kq := cellAt hb1 (w.heap.size) (by go_size); have k1_w_0_0 := kq 0; have k1_w_0_1 := kq 1; clear kq; have f1_w_0 := frozAt hb1 (w.heap.size) (by go_size); simp [go_sem, *] at k1_w_0_0 k1_w_0_1 f1_w_0)); (try have l1_w_0 : w.heap.size < w1.heap.size := by omega); (try (have kq := cellAt hb1 (w.heap.size + 1) (by go_size); have k1_w_1_0 := kq 0; have k1_w_1_1 := kq 1; have k1_w_1_2 := kq 2; clear kq; have f1_w_1 := frozAt hb1 (w.heap.size + 1) (by go_size); simp [go_sem, *] at k1_w_1_0 k1_w_1_1 k1_w_1_2 f1_w_1)); (try have l1_w_1 : w.heap.size + 1 < w1.heap.size := by omega); (try (have kq := cellAt hb1 (w.heap.size + 1 + 1) (by go_size); have k1_w_2_0 := kq 0; have k1_w_2_1 := kq 1; have k1_w_2_2 := kq 2; have k1_w_2_3 := kq 3; clear kq; have f1_w_2 := frozAt hb1 (w.heap.size + 1 + 1) (by go_size); simp [go_sem, *] at k1_w_2_0 k1_w_2_1 k1_w_2_2 k1_w_2_3 f1_w_2)); (try have l1_w_2 : w.heap.size + 1 + 1 < w1.heap.size := by omega)) | (have _t := tok2; go_at_call 20; (with_reducible refine ((T2 _).out).mono ?_); rintro e w2 ⟨rfl, hb2⟩; clear tok2 _t; have hz2 := hb2.size; (try simp only [World.size_alloc, World.size_setCell, World.size_drew, World.size_drewN'] at hz2); (try (have kq := cellAt hb2 (w.heap.size) (by go_size); have k2_w_0_0 := kq 0; have k2_w_0_1 := kq 1; clear kq; have f2_w_0 := frozAt hb2 (w.heap.size) (by go_size); simp [go_sem, *] at k2_w_0_0 k2_w_0_1 f2_w_0)); (try have l2_w_0 : w.heap.size < w2.heap.size := by omega); (try (have kq := cellAt hb2 (w.heap.size + 1) (by go_size); have k2_w_1_0 := kq 0; have k2_w_1_1 := kq 1; have k2_w_1_2 := kq 2; clear kq; have f2_w_1 := frozAt hb2 (w.heap.size + 1) (by go_size); simp [go_sem, *] at k2_w_1_0 k2_w_1_1 k2_w_1_2 f2_w_1)); (try have l2_w_1 : w.heap.size + 1 < w2.heap.size := by omega); (try (have kq := cellAt hb2 (w.heap.size + 1 + 1) (by go_size); have k2_w_2_0 := kq 0; have k2_w_2_1 := kq 1; have k2_w_2_2 := kq 2; have k2_w_2_3 := kq 3; clear kq; have f2_w_2 := frozAt hb2 (w.heap.size + 1 + 1) (by go_size); simp [go_sem, *] at k2_w_2_0 k2_w_2_1 k2_w_2_2 k2_w_2_3 f2_w_2)); (try have l2_w_2 : w.heap.size + 1 + 1 < w2.heap.size := by omega); (try clear k1_w_0_0 k1_w_0_1 f1_w_0); (try clear l1_w_0); (try clear k1_w_1_0 k1_w_1_1 k1_w_1_2 f1_w_1); (try clear l1_w_1); (try clear k1_w_2_0 k1_w_2_1 k1_w_2_2 k1_w_2_3 f1_w_2); (try clear l1_w_2)))
    iterate 40 (first | (with_reducible show bodyPost _ _ _ _ _ _) | (with_reducible refine wp_ret ?_) | go_values | go_skip | go_guarded | go_step | go_upon | go_back | skip)
    refine bodyPost_ret (v := _) (by simp [results, Tryz.results7, go_sem, *]) rfl ⟨rfl, ?_⟩
    repeat' first | (with_reducible first | apply zRf | assumption | apply zDn | apply zDr | apply zAl | apply zSt | refine zVi (by assumption) ?_ ?_) | go_size
  · have T2 := fun W : World => Lib.hid (hpSelf_any W h)
    rw [h] at T1
    rw [show spV A B x y e = slV A B x e by simp [spV, h]]
    obtain ⟨r1, r2, r3, r4, r5, hr⟩ := i5_open (slV A B x e)
    simp only [hr] at T2 ⊢
    clear h hr
    have tok1 : True := trivial
    have tok2 : True := trivial
    go_enter Tryz.func7, Tryz.ntmps7
    go_wp2_with (first | (have _t := tok1; go_at_call 19; (with_reducible refine ((T1 _).out).mono ?_); rintro e w1 ⟨rfl, hb1⟩; clear tok1 _t; have hz1 := hb1.size; (try simp only [World.size_alloc, World.size_setCell, World.size_drew, World.size_drewN'] at hz1); (try (have kq := cellAt hb1 (w.heap.size) (by go_size); have k1_w_0_0 := kq 0; have k1_w_0_1 := kq 1; clear kq; have f1_w_0 := frozAt hb1 (w.heap.size) (by go_size); simp [go_sem, *] at k1_w_0_0 k1_w_0_1 f1_w_0)); (try have l1_w_0 : w.heap.size < w1.heap.size := by omega); (try (have kq := cellAt hb1 (w.heap.size + 1) (by go_size); have k1_w_1_0 := kq 0; have k1_w_1_1 := kq 1; have k1_w_1_2 := kq 2; clear kq; have f1_w_1 := frozAt hb1 (w.heap.size + 1) (by go_size); simp [go_sem, *] at k1_w_1_0 k1_w_1_1 k1_w_1_2 f1_w_1)); (try have l1_w_1 : w.heap.size + 1 < w1.heap.size := by omega); (try (have kq := cellAt hb1 (w.heap.size + 1 + 1) (by go_size); have k1_w_2_0 := kq 0; have k1_w_2_1 := kq 1; have k1_w_2_2 := kq 2; have k1_w_2_3 := kq 3; clear kq; have f1_w_2 := frozAt hb1 (w.heap.size + 1 + 1) (by go_size); simp [go_sem, *] at k1_w_2_0 k1_w_2_1 k1_w_2_2 k1_w_2_3 f1_w_2)); (try have l1_w_2 : w.heap.size + 1 + 1 < w1.heap.size := by omega)) | (have _t := tok2; go_at_call 20; (with_reducible refine ((T2 _).out).mono ?_); rintro e w2 ⟨rfl, hb2⟩; clear tok2 _t; have hz2 := hb2.size; (try simp only [World.size_alloc, World.size_setCell, World.size_drew, World.size_drewN'] at hz2); (try (have kq := cellAt hb2 (w.heap.size) (by go_size); have k2_w_0_0 := kq 0; have k2_w_0_1 := kq 1; clear kq; have f2_w_0 := frozAt hb2 (w.heap.size) (by go_size); simp [go_sem, *] at k2_w_0_0 k2_w_0_1 f2_w_0)); (try have l2_w_0 : w.heap.size < w2.heap.size := by omega); (try (have kq := cellAt hb2 (w.heap.size + 1) (by go_size); have k2_w_1_0 := kq 0; have k2_w_1_1 := kq 1; have k2_w_1_2 := kq 2; clear kq; have f2_w_1 := frozAt hb2 (w.heap.size + 1) (by go_size); simp [go_sem, *] at k2_w_1_0 k2_w_1_1 k2_w_1_2 f2_w_1)); (try have l2_w_1 : w.heap.size + 1 < w2.heap.size := by omega); (try (have kq := cellAt hb2 (w.heap.size + 1 + 1) (by go_size); have k2_w_2_0 := kq 0; have k2_w_2_1 := kq 1; have k2_w_2_2 := kq 2; have k2_w_2_3 := kq 3; clear kq; have f2_w_2 := frozAt hb2 (w.heap.size + 1 + 1) (by go_size); simp [go_sem, *] at k2_w_2_0 k2_w_2_1 k2_w_2_2 k2_w_2_3 f2_w_2)); (try have l2_w_2 : w.heap.size + 1 + 1 < w2.heap.size := by omega); (try clear k1_w_0_0 k1_w_0_1 f1_w_0); (try clear l1_w_0); (try clear k1_w_1_0 k1_w_1_1 k1_w_1_2 f1_w_1); (try clear l1_w_1); (try clear k1_w_2_0 k1_w_2_1 k1_w_2_2 k1_w_2_3 f1_w_2); (try clear l1_w_2)))
    refine bodyPost_ret (v := _) (by simp [results, Tryz.results7, go_sem, *]) rfl ⟨rfl, ?_⟩
    repeat' first | (with_reducible first | apply zRf | assumption | apply zDn | apply zDr | apply zAl | apply zSt | refine zVi (by assumption) ?_ ?_) | go_size
end
section
open Go.RowKit
set_option linter.unusedVariables false
set_option maxHeartbeats 4000000
set_option maxRecDepth 20000
set_option linter.unusedSimpArgs false
attribute [local go_sem] openAt openUpon
theorem spbest_any {A B x y e : Int} (v : Bool) (w : World) (gp : Nat) (hp : w.heap[gp]? = some (.cells #[.bool v] 61 (0, 0))) (h : pqB A B x y e = true) :
    Calls Tryz.prog 36 #[.pointer (some ⟨gp, 0, none⟩), .agg #[.int .i64 A, .int .i64 B], .agg #[.int .i64 x, .int .i64 y, .int .i64 e]] w fun r w' =>
      r = .returned (.agg #[.int .i64 (kpV (v && BK A B x e) (BL A B x e)), .int .i64 (kpV (v && BK A B x e) (BH A B x e))]) ∧ Cal 61 w w' gp (v && BK A B x e) := by
  have hc := cell_of_one hp
  have hf := free_of_one hp
  have hl : gp < w.heap.size := lt_of_block hp
  have HP := Lib.hid hp
  have hb := pq_bd h
  have T1 := fun W : World => Lib.hid (bestHeight_any A B x y e W hb.1 hb.2.1 hb.2.2.1 hb.2.2.2.1 hb.2.2.2.2)
  have E : (v && BK A B x e && validB (BL A B x e) (BH A B x e)) = (v && BK A B x e) := by
    cases hk : BK A B x e
    · simp
    · rw [BK_valid hk]; simp
  have T20 : ∀ W : World, W.heap[gp]? = some (.cells #[.bool (v && BK A B x e)] 61 (0, 0)) → Calls Tryz.prog 67 #[.pointer (some ⟨gp, 0, none⟩), .agg #[.int .i64 (BL A B x e), .int .i64 (BH A B x e)]] W fun r w' =>
      r = .returned (.agg #[.int .i64 (kpV (v && BK A B x e) (BL A B x e)), .int .i64 (kpV (v && BK A B x e) (BH A B x e))]) ∧ Cal 61 W w' gp (v && BK A B x e) := fun W hW => by
    have := spKeep_any (BL A B x e) (BH A B x e) (v && BK A B x e) W gp hW
    rwa [E] at this
  have T2 := fun (W : World) h => Lib.hid (T20 W h)
  clear T20
  rw [show bLo (dcV A B) (ptSt A B x e) (bestN (ptSt A B x e)) = BL A B x e from rfl, show bHi (dcV A B) (ptSt A B x e) (bestN (ptSt A B x e)) = BH A B x e from rfl, show beOk (dcV A B) (ptSt A B x e) = BK A B x e from rfl] at T1
  clear E hp h hb
  generalize BL A B x e = lo at *
  generalize BH A B x e = hi at *
  generalize BK A B x e = k at *
  generalize bestN (ptSt A B x e) = N at *
  cases v <;> cases k
  all_goals
    simp only [Bool.and_true, Bool.and_false] at T2 ⊢
    have tok1 : True := trivial
    have tok2 : True := trivial
    have tok3 : True := trivial
    go_enter Tryz.func36, Tryz.ntmps36
    go_wp2_with (first | (have _t := tok1; go_at_call 66; (with_reducible refine ((T1 _).out).mono ?_); rintro e w1 ⟨rfl, hb1⟩; clear tok1 _t; have hz1 := hb1.size; (try simp only [World.size_alloc, World.size_setCell, World.size_drew, World.size_drewN'] at hz1); (try (have kq := cellAt hb1 (w.heap.size) (by go_size); have k1_w_0_0 := kq 0; have k1_w_0_1 := kq 1; clear kq; have f1_w_0 := frozAt hb1 (w.heap.size) (by go_size); simp [go_sem, *] at k1_w_0_0 k1_w_0_1 f1_w_0)); (try have l1_w_0 : w.heap.size < w1.heap.size := by omega); (try (have kq := cellAt hb1 (w.heap.size + 1) (by go_size); have k1_w_1_0 := kq 0; have k1_w_1_1 := kq 1; have k1_w_1_2 := kq 2; clear kq; have f1_w_1 := frozAt hb1 (w.heap.size + 1) (by go_size); simp [go_sem, *] at k1_w_1_0 k1_w_1_1 k1_w_1_2 f1_w_1)); (try have l1_w_1 : w.heap.size + 1 < w1.heap.size := by omega); (try (have kq := cellAt hb1 (w.heap.size + 1 + 1) (by go_size); have k1_w_2_0 := kq 0; have k1_w_2_1 := kq 1; clear kq; have f1_w_2 := frozAt hb1 (w.heap.size + 1 + 1) (by go_size); simp [go_sem, *] at k1_w_2_0 k1_w_2_1 f1_w_2)); (try have l1_w_2 : w.heap.size + 1 + 1 < w1.heap.size := by omega); have hbw : Below w.heap.size w w1 := (by repeat' first | (with_reducible first | apply zRf | assumption | apply zDn | apply zDr | apply zAl | apply zSt | refine zVi (by assumption) ?_ ?_) | go_size); have kg := (cellAt hbw gp hl 0).trans hc; have fg := (frozAt hbw gp hl 0).trans hf; have lg : gp < w1.heap.size := Nat.lt_of_lt_of_le hl hbw.size) | (have _t := tok3; go_at_call 67; (with_reducible refine ((T2 _ (Cal.at_ (w := w) (by (repeat' first | (with_reducible first | assumption | exact Cal.start (Hid.out (by assumption)) | exact CalE.of (Cal.start (Hid.out (by assumption))) | refine CalE.set ?_ _ | refine CalE.of (CalE.set ?_ _) | refine Cal.alloc ?_ _ | refine CalE.alloc ?_ _ | refine Cal.drew ?_ | refine CalE.drew ?_ | refine Cal.drewN ?_ _ | refine CalE.drewN ?_ _ | refine CalE.go (by assumption) ?_ | refine CalE.via (by assumption) ?_ | refine cal_step (by assumption) ?_ | refine CalE.step (by assumption) ?_ | refine Cal.own ?_ ?_ ?_ _ | refine CalE.own ?_ ?_ ?_ _) | (simp only []; omega) | omega | go_size)))).out).mono ?_); rintro e w3 ⟨rfl, hb3⟩; clear tok3 _t; have hz3 := hb3.size; (try simp only [World.size_alloc, World.size_setCell, World.size_drew, World.size_drewN'] at hz3); (try (refine calCell' hb3 (w.heap.size) 0 ?_ ?_ ?_; (focus (go_size; done)); (focus (omega; done)); intro k3_w_0_0; simp [go_sem, *] at k3_w_0_0)); (try (refine calCell' hb3 (w.heap.size) 1 ?_ ?_ ?_; (focus (go_size; done)); (focus (omega; done)); intro k3_w_0_1; simp [go_sem, *] at k3_w_0_1)); (try (refine calFroz' hb3 (w.heap.size) ?_ ?_ ?_; (focus (go_size; done)); (focus (omega; done)); intro f3_w_0; simp [go_sem, *] at f3_w_0)); (try (refine (fun (l3_w_0 : w.heap.size < w3.heap.size) => ?_) ?_; rotate_left; (focus (omega; done)))); (try (refine calCell' hb3 (w.heap.size + 1) 0 ?_ ?_ ?_; (focus (go_size; done)); (focus (omega; done)); intro k3_w_1_0; simp [go_sem, *] at k3_w_1_0)); (try (refine calCell' hb3 (w.heap.size + 1) 1 ?_ ?_ ?_; (focus (go_size; done)); (focus (omega; done)); intro k3_w_1_1; simp [go_sem, *] at k3_w_1_1)); (try (refine calCell' hb3 (w.heap.size + 1) 2 ?_ ?_ ?_; (focus (go_size; done)); (focus (omega; done)); intro k3_w_1_2; simp [go_sem, *] at k3_w_1_2)); (try (refine calFroz' hb3 (w.heap.size + 1) ?_ ?_ ?_; (focus (go_size; done)); (focus (omega; done)); intro f3_w_1; simp [go_sem, *] at f3_w_1)); (try (refine (fun (l3_w_1 : w.heap.size + 1 < w3.heap.size) => ?_) ?_; rotate_left; (focus (omega; done)))); (try (refine calCell' hb3 (w.heap.size + 1 + 1) 0 ?_ ?_ ?_; (focus (go_size; done)); (focus (omega; done)); intro k3_w_2_0; simp [go_sem, *] at k3_w_2_0)); (try (refine calCell' hb3 (w.heap.size + 1 + 1) 1 ?_ ?_ ?_; (focus (go_size; done)); (focus (omega; done)); intro k3_w_2_1; simp [go_sem, *] at k3_w_2_1)); (try (refine calFroz' hb3 (w.heap.size + 1 + 1) ?_ ?_ ?_; (focus (go_size; done)); (focus (omega; done)); intro f3_w_2; simp [go_sem, *] at f3_w_2)); (try (refine (fun (l3_w_2 : w.heap.size + 1 + 1 < w3.heap.size) => ?_) ?_; rotate_left; (focus (omega; done)))); (try (refine calCell' hb3 (w1.heap.size) 0 ?_ ?_ ?_; (focus (go_size; done)); (focus (omega; done)); intro k3_w1_0_0; simp [go_sem, *] at k3_w1_0_0)); (try (refine calCell' hb3 (w1.heap.size) 1 ?_ ?_ ?_; (focus (go_size; done)); (focus (omega; done)); intro k3_w1_0_1; simp [go_sem, *] at k3_w1_0_1)); (try (refine calFroz' hb3 (w1.heap.size) ?_ ?_ ?_; (focus (go_size; done)); (focus (omega; done)); intro f3_w1_0; simp [go_sem, *] at f3_w1_0)); (try (refine (fun (l3_w1_0 : w1.heap.size < w3.heap.size) => ?_) ?_; rotate_left; (focus (omega; done)))); have kp3 := calAt hb3; have fp3 := calFree hb3; have lp3 := Cal.lt hb3; (try clear kp1); (try clear fp1); (try clear kp2); (try clear fp2); (try clear k1_w_0_0 k1_w_0_1 f1_w_0); (try clear l1_w_0); (try clear k1_w_1_0 k1_w_1_1 k1_w_1_2 f1_w_1); (try clear l1_w_1); (try clear k1_w_2_0 k1_w_2_1 f1_w_2); (try clear l1_w_2); (try clear k2_w_0_0 k2_w_0_1 f2_w_0); (try clear l2_w_0); (try clear k2_w_1_0 k2_w_1_1 k2_w_1_2 f2_w_1); (try clear l2_w_1); (try clear k2_w_2_0 k2_w_2_1 f2_w_2); (try clear l2_w_2); (try clear k2_w1_0_0 k2_w1_0_1 f2_w1_0); (try clear l2_w1_0)))
    refine bodyPost_ret (v := _) (by simp [results, Tryz.results36, go_sem, *]) rfl ⟨rfl, ?_⟩
    (repeat' first | (with_reducible first | assumption | exact Cal.start (Hid.out (by assumption)) | exact CalE.of (Cal.start (Hid.out (by assumption))) | refine CalE.set ?_ _ | refine CalE.of (CalE.set ?_ _) | refine Cal.alloc ?_ _ | refine CalE.alloc ?_ _ | refine Cal.drew ?_ | refine CalE.drew ?_ | refine Cal.drewN ?_ _ | refine CalE.drewN ?_ _ | refine CalE.go (by assumption) ?_ | refine CalE.via (by assumption) ?_ | refine cal_step (by assumption) ?_ | refine CalE.step (by assumption) ?_ | refine Cal.own ?_ ?_ ?_ _ | refine CalE.own ?_ ?_ ?_ _) | (simp only []; omega) | omega | go_size)
/-- the span that is twice the best one, and whether all steps were valid -/
noncomputable def s2A (A B x e : Int) : Int := kpV (BK A B x e) (BL A B x e)
noncomputable def s2B (A B x e : Int) : Int := kpV (BK A B x e) (BH A B x e)
noncomputable def s2V (A B x e : Int) : Bool := BK A B x e && validB (s2A A B x e + s2A A B x e) (s2B A B x e + s2B A B x e)
theorem s2_lit (A B x e : Int) : (s2V A B x e = true ∧ validB (kpV (s2V A B x e) (s2A A B x e + s2A A B x e)) (kpV (s2V A B x e) (s2B A B x e + s2B A B x e)) = true ∧ slV A B x e = mk5 (kpV (s2V A B x e) (s2A A B x e + s2A A B x e)) (kpV (s2V A B x e) (s2B A B x e + s2B A B x e))) ∨ (s2V A B x e = false ∧ slV A B x e = ivZ) := by
  unfold s2V s2A s2B slV
  cases hk : BK A B x e
  · right; exact ⟨by simp, by simp⟩
  · simp only [kpV, if_true, Bool.true_and]
    cases hv : validB (BL A B x e + BL A B x e) (BH A B x e + BH A B x e)
    · right; exact ⟨rfl, by simp⟩
    · left; exact ⟨rfl, by simpa using hv, by simp⟩
theorem selfPairing_any {A B x y e : Int} (w : World) (h : pqB A B x y e = true) :
    Calls Tryz.prog 22 #[.agg #[.int .i64 A, .int .i64 B], .agg #[.int .i64 x, .int .i64 y, .int .i64 e]] w fun r w' =>
      r = .returned (.tuple #[.agg #[.int .i64 (kpV (s2V A B x e) (s2A A B x e + s2A A B x e)), .int .i64 (kpV (s2V A B x e) (s2B A B x e + s2B A B x e))], .bool (s2V A B x e)]) ∧ Below w.heap.size w w' := by
  have hbd := B_bd h
  have T10 := fun (W : World) (gp : Nat) (hW : W.heap[gp]? = some (.cells #[.bool true] 61 (0, 0))) => spbest_any (y := y) true W gp hW h
  simp only [Bool.true_and] at T10
  rw [show kpV (BK A B x e) (BL A B x e) = s2A A B x e from rfl, show kpV (BK A B x e) (BH A B x e) = s2B A B x e from rfl] at T10
  have ha : 0 ≤ s2A A B x e ∧ s2A A B x e ≤ 14100000 := by unfold s2A kpV; split <;> omega
  have hb : 0 ≤ s2B A B x e ∧ s2B A B x e ≤ 14100000 := by unfold s2B kpV; split <;> omega
  have T20 := fun (W : World) (gp : Nat) (hW : W.heap[gp]? = some (.cells #[.bool (BK A B x e)] 61 (0, 0))) => spplus_any (s2A A B x e) (s2B A B x e) (s2A A B x e) (s2B A B x e) (BK A B x e) W gp hW (by omega) (by omega) (by omega) (by omega)
  rw [show (BK A B x e && validB (s2A A B x e + s2A A B x e) (s2B A B x e + s2B A B x e)) = s2V A B x e from rfl] at T20
  clear hbd h
  generalize s2V A B x e = v2 at *
  generalize s2A A B x e = a at *
  generalize s2B A B x e = b at *
  generalize BK A B x e = k at *
  generalize kpV v2 (a + a) = a2 at *
  generalize kpV v2 (b + b) = b2 at *
  have T1 := fun W hW => Lib.hid (T10 W (w.heap.size + 1 + 1 + 1) hW)
  have T2 := fun W hW => Lib.hid (T20 W (w.heap.size + 1 + 1 + 1) hW)
  clear T10 T20 ha hb
  have tok1 : True := trivial
  have tok2 : True := trivial
  have tok3 : True := trivial
  have tok4 : True := trivial
  go_enter Tryz.func22, Tryz.ntmps22
  go_upto_region 2 with fail
  refine chk (fun W => Below w.heap.size w W ∧ W.heap[w.heap.size]? = some (.cells #[.int .i64 A, .int .i64 B] 32 (0, 0)) ∧ W.heap[w.heap.size + 1]? = some (.cells #[.int .i64 x, .int .i64 y, .int .i64 e] 34 (0, 0)) ∧ W.heap[w.heap.size + 1 + 1]? = some (.cells #[.int .i64 0, .int .i64 0] 45 (0, 0)) ∧ W.heap[w.heap.size + 1 + 1 + 1]? = some (.cells #[.bool true] 61 (0, 0))) (by refine ⟨?_, ?_, ?_, ?_, ?_⟩ <;> (repeat' first | (with_reducible first | assumption | (apply Ne.symm; assumption) | apply Nat.le_refl | apply Nat.le_add_right | apply zL | apply zRf | apply Wx.box | apply Wx.box4 | apply zWa | apply Wx.drew | apply zWn | apply bx_drew | apply bx_drewN | apply bx_set3 | apply bx_set2 | apply bx_set4 | apply bx_set1) | ((with_reducible apply bx_new); (focus (go_size; done))) | (with_reducible first | apply zOl | apply zFa | apply zDn | apply zDr | apply zAl | apply zSt | refine zVi (by assumption) ?_ ?_) | go_size | omega)) ?_
  rintro w1 ⟨hB1, H_C_1, H_P_1, H_R_1, H_F_1⟩
  obtain ⟨k_C_1_0, k_C_1_1, f_C_1, l_C_1⟩ := bk2 H_C_1
  replace H_C_1 := Lib.hid H_C_1
  obtain ⟨k_P_1_0, k_P_1_1, k_P_1_2, f_P_1, l_P_1⟩ := bk3 H_P_1
  replace H_P_1 := Lib.hid H_P_1
  obtain ⟨k_R_1_0, k_R_1_1, f_R_1, l_R_1⟩ := bk2 H_R_1
  replace H_R_1 := Lib.hid H_R_1
  obtain ⟨k_F_1_0, f_F_1, l_F_1⟩ := bk1 H_F_1
  replace H_F_1 := Lib.hid H_F_1
  go_upto_region 3 with (first | (go_at_call 36; (with_reducible refine ((T1 _ H_F_1.out).out).mono ?_); rintro r0 w2 ⟨rfl, hk2⟩; have hc2 := (hk2.block _ l_C_1 (by omega)).trans H_C_1.out; have hp2 := (hk2.block _ l_P_1 (by omega)).trans H_P_1.out; have hr2 := (hk2.block _ l_R_1 (by omega)).trans H_R_1.out; have hf2 := hk2.at_; have hB2 := hB1.trans (hk2.below (B := w.heap.size) hB1.size (by omega)); have hs2 := hk2.size))
  replace H_C_1 := H_C_1.out
  replace H_P_1 := H_P_1.out
  replace H_R_1 := H_R_1.out
  replace H_F_1 := H_F_1.out
  refine chk (fun W => Below w.heap.size w W ∧ W.heap[w.heap.size + 1 + 1]? = some (.cells #[.int .i64 0, .int .i64 0] 45 (0, 0)) ∧ W.heap[w.heap.size + 1 + 1 + 1]? = some (.cells #[.bool k] 61 (0, 0)) ∧ W.heap[w2.heap.size]? = some (.cells #[.int .i64 a, .int .i64 b] 45 (0, 0))) (by refine ⟨?_, ?_, ?_, ?_⟩ <;> (repeat' first | (with_reducible first | assumption | (apply Ne.symm; assumption) | apply Nat.le_refl | apply Nat.le_add_right | apply zL | apply zRf | apply Wx.box | apply Wx.box4 | apply zWa | apply Wx.drew | apply zWn | apply bx_drew | apply bx_drewN | apply bx_set3 | apply bx_set2 | apply bx_set4 | apply bx_set1) | ((with_reducible apply bx_new); (focus (go_size; done))) | (with_reducible first | apply zOl | apply zFa | apply zDn | apply zDr | apply zAl | apply zSt | refine zVi (by assumption) ?_ ?_) | go_size | omega)) ?_
  clear k_C_1_0 k_C_1_1 f_C_1 H_C_1
  clear k_P_1_0 k_P_1_1 k_P_1_2 f_P_1 H_P_1
  clear k_R_1_0 k_R_1_1 f_R_1 H_R_1
  clear k_F_1_0 f_F_1 H_F_1
  clear hB1
  rintro w3 ⟨hB3, H_R_3, H_F_3, H_S_3⟩
  obtain ⟨k_R_3_0, k_R_3_1, f_R_3, l_R_3⟩ := bk2 H_R_3
  replace H_R_3 := Lib.hid H_R_3
  obtain ⟨k_F_3_0, f_F_3, l_F_3⟩ := bk1 H_F_3
  replace H_F_3 := Lib.hid H_F_3
  obtain ⟨k_S_3_0, k_S_3_1, f_S_3, l_S_3⟩ := bk2 H_S_3
  replace H_S_3 := Lib.hid H_S_3
  go_upto_region 4 with (first | (go_at_call 37; (with_reducible refine ((T2 _ H_F_3.out).out).mono ?_); rintro r0 w4 ⟨rfl, hk4⟩; have hr4 := (hk4.block _ l_R_3 (by omega)).trans H_R_3.out; have hs4 := (hk4.block _ l_S_3 (by omega)).trans H_S_3.out; have hf4 := hk4.at_; have hB4 := hB3.trans (hk4.below (B := w.heap.size) hB3.size (by omega)); obtain ⟨ks0, ks1, fs, ls⟩ := bk2 hs4))
  replace H_R_3 := H_R_3.out
  replace H_F_3 := H_F_3.out
  replace H_S_3 := H_S_3.out
  refine chk (fun W => Below w.heap.size w W ∧ W.heap[w.heap.size + 1 + 1]? = some (.cells #[.int .i64 0, .int .i64 0] 45 (0, 0)) ∧ W.heap[w.heap.size + 1 + 1 + 1]? = some (.cells #[.bool v2] 61 (0, 0)) ∧ W.heap[w2.heap.size]? = some (.cells #[.int .i64 a2, .int .i64 b2] 45 (0, 0))) (by refine ⟨?_, ?_, ?_, ?_⟩ <;> (repeat' first | (with_reducible first | assumption | (apply Ne.symm; assumption) | apply Nat.le_refl | apply Nat.le_add_right | apply zL | apply zRf | apply Wx.box | apply Wx.box4 | apply zWa | apply Wx.drew | apply zWn | apply bx_drew | apply bx_drewN | apply bx_set3 | apply bx_set2 | apply bx_set4 | apply bx_set1) | ((with_reducible apply bx_new); (focus (go_size; done))) | (with_reducible first | apply zOl | apply zFa | apply zDn | apply zDr | apply zAl | apply zSt | refine zVi (by assumption) ?_ ?_) | go_size | omega)) ?_
  clear k_R_3_0 k_R_3_1 f_R_3 H_R_3
  clear k_F_3_0 f_F_3 H_F_3
  clear k_S_3_0 k_S_3_1 f_S_3 H_S_3
  clear hB3
  rintro w5 ⟨hB5, H_R_5, H_F_5, H_S_5⟩
  obtain ⟨k_R_5_0, k_R_5_1, f_R_5, l_R_5⟩ := bk2 H_R_5
  replace H_R_5 := Lib.hid H_R_5
  obtain ⟨k_F_5_0, f_F_5, l_F_5⟩ := bk1 H_F_5
  replace H_F_5 := Lib.hid H_F_5
  obtain ⟨k_S_5_0, k_S_5_1, f_S_5, l_S_5⟩ := bk2 H_S_5
  replace H_S_5 := Lib.hid H_S_5
  go_region
  iterate 40 (first | (with_reducible show bodyPost _ _ _ _ _ _) | (with_reducible refine wp_ret ?_) | go_values | go_skip | go_guarded | go_step | go_upon | go_back | skip)
  refine bodyPost_ret (v := .tuple #[.agg #[.int .i64 a2, .int .i64 b2], .bool v2]) (by simp [results, Tryz.results22, go_sem, k_R_5_0, k_R_5_1]) rfl ⟨rfl, ?_⟩
  have HO := H_R_5.out
  (repeat' first | (with_reducible first | assumption | (apply Ne.symm; assumption) | apply Nat.le_refl | apply Nat.le_add_right | apply zL | apply zRf | apply Wx.box | apply Wx.box4 | apply zWa | apply Wx.drew | apply zWn | apply bx_drew | apply bx_drewN | apply bx_set3 | apply bx_set2 | apply bx_set4 | apply bx_set1) | ((with_reducible apply bx_new); (focus (go_size; done))) | (with_reducible first | apply zOl | apply zFa | apply zDn | apply zDr | apply zAl | apply zSt | refine zVi (by assumption) ?_ ?_) | go_size | omega)
end
end Go.Proofs.YtgjppinjapdbeaaGreat
