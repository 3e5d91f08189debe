/- RationalRoots and IsIrreducibleCubic: both sides. -/
import Derived.Test.YtldonmcbnhgbdaaCuK2
import Derived.Test.YtldonmcbnhgbdaaCuK3
import Derived.Test.YtldonmcbnhgbdaaMkX
namespace Go.Proofs.Ytldonmcbnhgbdaa
open Go.RowKit
set_option linter.unusedVariables false
set_option maxHeartbeats 4000000
set_option maxRecDepth 20000
set_option linter.unusedSimpArgs false
theorem spE_len (a b c d n : Int) (l : List Fr2) (e : Int) : (spE a b c d n l e).length ≤ l.length + 2 := by rw [← spX_end]; exact spX_len _ _ _ _ _ _ _ _
theorem spN_len (a b c d n : Int) : ∀ (es : List Int) (l : List Fr2), (spN a b c d es l n).length ≤ l.length + 2 * es.length
  | [], l => by simp [spN]
  | e :: es, l => by
    have h1 := spE_len a b c d n l e
    have h2 := spN_len a b c d n es (spE a b c d n l e)
    have h3 : spN a b c d (e :: es) l n = spN a b c d es (spE a b c d n l e) n := rfl
    rw [h3, List.length_cons]; omega
theorem spNs_len (a b c d : Int) (es : List Int) (he : es.length ≤ 1000) : ∀ (ns : List Int) (l : List Fr2), (ns.foldl (spN a b c d es) l).length ≤ l.length + 2000 * ns.length
  | [], l => by simp
  | n :: ns, l => by
    have h1 := spN_len a b c d n es l
    have h2 := spNs_len a b c d es he ns (spN a b c d es l n)
    rw [List.foldl_cons, List.length_cons]; omega
theorem spL_len {a b c d : Int} (h : cuB a b c d = true) : (spL a b c d).length ≤ 3000000 := by
  obtain ⟨h0, ha, hb, hc, hd⟩ := cuB_bd h
  have hB : (spB d).length ≤ 1 := by unfold spB; split <;> simp
  unfold spL
  split
  · omega
  · have h1 := cdV_len (a.natAbs : Int) a.natAbs
    have hl : -1000 ≤ laV b c d ∧ laV b c d ≤ 1000 := by unfold laV; (repeat' split) <;> assumption
    have h2 := cdV_len ((laV b c d).natAbs : Int) (laV b c d).natAbs
    have h3 := spNs_len a b c d (cdV a.natAbs a.natAbs) (by omega) (cdV (laV b c d).natAbs (laV b c d).natAbs) (spB d)
    omega
theorem SlR.len {W : World} {B : Nat} {v : Value} {l : List Fr2} (h : SlR W B v l) : ∃ a c, v = .slice a l.length c := by
  rcases h with ⟨rfl, rfl⟩ | ⟨g, c, rfl, _⟩
  · exact ⟨_, _, rfl⟩
  · exact ⟨_, _, rfl⟩
theorem SlR.toX {W : World} {B : Nat} {v : Value} {l : List Fr2} (h : SlR W B v l) : SlX W B 2 v l.length (flat l) := by
  refine ⟨flat_len l, ?_⟩
  rcases h with ⟨rfl, rfl⟩ | ⟨g, c, rfl, h1, h2, h3, h4⟩
  · exact .inl ⟨rfl, rfl⟩
  · refine .inr ⟨g, c, rfl, h1, h2, h3, h4.1, fun j hj => ⟨row_cells h4 j (by rw [flat_len] at hj; exact hj), ?_⟩⟩
    rw [flat_len] at hj
    obtain ⟨-, -, f1, f2⟩ := h4.2 (j / 2) (by omega)
    rcases Nat.mod_two_eq_zero_or_one j with q | q
    · have e : j / 2 * 2 = j := by omega
      rw [e] at f1; exact f1
    · have e : j / 2 * 2 + 1 = j := by omega
      rw [e] at f2; exact f2
def rrL (a b c d : Int) : List Fr2 := if cuB a b c d = true then spL a b c d else []
theorem rrL_len (a b c d : Int) : (rrL a b c d).length ≤ 3000000 := by
  unfold rrL
  split
  · rename_i h; exact spL_len h
  · simp
def irV (a b c d : Int) : Bool × Bool := if cuB a b c d = true then (decide ((spL a b c d).length = 0), true) else (false, false)
theorem eqZ (n : Nat) : ((n : Int) == 0) = decide (n = 0) := by
  rw [Bool.eq_iff_iff]; simp
def NewQ (w : World) (l : List Fr2) (ok : Bool) (r : Ending) (w' : World) : Prop := ∃ v B, r = .returned (.tuple #[v, .bool ok]) ∧ SlX w' B 2 v l.length (flat l) ∧ w.heap.size ≤ B ∧ Below w.heap.size w w'
theorem cuRoots_any (a b c d : Int) (w : World) (hcu : cuB a b c d = true) : Calls Try.prog 28 #[.agg #[.int .i64 a, .int .i64 b, .int .i64 c, .int .i64 d]] w fun r w' => ∃ v, r = .returned v ∧ SlR w' w.heap.size v (spL a b c d) ∧ Below w.heap.size w w' := by
  by_cases hd0 : d = 0
  · by_cases hc0 : c = 0
    · exact cuRoots_b a b c d w hcu hd0 hc0
    · exact cuRoots_c a b c d w hcu hd0 hc0
  · exact cuRoots_d a b c d w hcu hd0
theorem rationalRoots_any_len (a b c d : Int) (w : World) (h : cuB a b c d = true) : Calls Try.prog 26 #[.agg #[.int .i64 a, .int .i64 b, .int .i64 c, .int .i64 d]] w fun r w' => ∃ a1 c1, r = .returned (.slice a1 (spL a b c d).length c1) ∧ Below w.heap.size w w' :=
  (rationalRoots_any a b c d w h).mono fun r w' ⟨v, B, h1, h2, h3, h4⟩ => by
    obtain ⟨a1, c1, rfl⟩ := h2.len
    exact ⟨a1, c1, h1, h4⟩
theorem rationalRoots_any_x (a b c d : Int) (w : World) (h : cuB a b c d = true) : Calls Try.prog 26 #[.agg #[.int .i64 a, .int .i64 b, .int .i64 c, .int .i64 d]] w fun r w' => ∃ v B, r = .returned v ∧ SlX w' B 2 v (spL a b c d).length (flat (spL a b c d)) ∧ w.heap.size ≤ B ∧ Below w.heap.size w w' :=
  (rationalRoots_any a b c d w h).mono fun r w' ⟨v, B, h1, h2, h3, h4⟩ => ⟨v, B, h1, h2.toX, h3, h4⟩
theorem cuRoots_any_len (a b c d : Int) (w : World) (h : cuB a b c d = true) : Calls Try.prog 28 #[.agg #[.int .i64 a, .int .i64 b, .int .i64 c, .int .i64 d]] w fun r w' => ∃ a1 c1, r = .returned (.slice a1 (spL a b c d).length c1) ∧ Below w.heap.size w w' :=
  (cuRoots_any a b c d w h).mono fun r w' ⟨v, h1, h2, h4⟩ => by
    obtain ⟨a1, c1, rfl⟩ := h2.len
    exact ⟨a1, c1, h1, h4⟩
theorem cuRoots_any_x (a b c d : Int) (w : World) (h : cuB a b c d = true) : Calls Try.prog 28 #[.agg #[.int .i64 a, .int .i64 b, .int .i64 c, .int .i64 d]] w fun r w' => ∃ v B, r = .returned v ∧ SlX w' B 2 v (spL a b c d).length (flat (spL a b c d)) ∧ w.heap.size ≤ B ∧ Below w.heap.size w w' :=
  (cuRoots_any a b c d w h).mono fun r w' ⟨v, h1, h2, h4⟩ => ⟨v, _, h1, h2.toX, Nat.le_refl _, h4⟩
theorem IsIrreducibleCubic_any (a b c d : Int) (w : World) : Calls Try.prog 7 #[.agg #[.int .i64 a, .int .i64 b, .int .i64 c, .int .i64 d]] w fun r w' => r = .returned (.tuple #[.bool (irV a b c d).1, .bool (irV a b c d).2]) ∧ Below w.heap.size w w' := by
  have T1 := fun W : World => Lib.hid (isCubic_any a b c d W)
  unfold irV
  cases h : cuB a b c d
  · rw [h] at T1
    have T2 := T1
    rw [if_neg (by simp)]
    have tok1 : True := trivial
    have tok2 : True := trivial
    have tok3 : True := trivial
    go_enter Try.func7, Try.ntmps7
    go_wp2_with (first | (have _t := tok1; go_at_call 25; (with_reducible refine ((T1 _).out).mono ?_); rintro e w1 ⟨rfl, hb1⟩; clear tok1 _t; have hz1 := hb1.size; (try simp only [World.size_alloc, World.size_setCell, World.size_drew, World.size_drewN'] at hz1); (try (have kq := cellAt hb1 (w.heap.size) (by go_size); have k1_w_0_0 := kq 0; have k1_w_0_1 := kq 1; have k1_w_0_2 := kq 2; have k1_w_0_3 := kq 3; clear kq; have f1_w_0 := frozAt hb1 (w.heap.size) (by go_size); simp [go_sem, *] at k1_w_0_0 k1_w_0_1 k1_w_0_2 k1_w_0_3 f1_w_0)); (try have l1_w_0 : w.heap.size < w1.heap.size := by omega)) | (have _t := tok2; go_at_call 26; (with_reducible refine ((T2 _).out).mono ?_); rintro e w2 ⟨a1, c1, rfl, hb2⟩; clear tok2 _t; have hz2 := hb2.size; (try simp only [World.size_alloc, World.size_setCell, World.size_drew, World.size_drewN'] at hz2); (try (have kq := cellAt hb2 (w.heap.size) (by go_size); have k2_w_0_0 := kq 0; have k2_w_0_1 := kq 1; have k2_w_0_2 := kq 2; have k2_w_0_3 := kq 3; clear kq; have f2_w_0 := frozAt hb2 (w.heap.size) (by go_size); simp [go_sem, *] at k2_w_0_0 k2_w_0_1 k2_w_0_2 k2_w_0_3 f2_w_0)); (try have l2_w_0 : w.heap.size < w2.heap.size := by omega); (try clear k1_w_0_0 k1_w_0_1 k1_w_0_2 k1_w_0_3 f1_w_0); (try clear l1_w_0)))
    go_ret2
    refine ⟨rfl, ?_⟩
    repeat' first | (with_reducible first | apply zRf | assumption | apply zDn | apply zDr | apply zAl | apply zSt | refine zVi (by assumption) ?_ ?_) | go_size
  · rw [h] at T1
    have T2 := fun W : World => Lib.hid (rationalRoots_any_len a b c d W h)
    have hz := eqZ (spL a b c d).length
    generalize (spL a b c d).length = n at *
    rw [if_pos rfl]
    dsimp only
    rw [← hz]
    clear hz h
    have tok1 : True := trivial
    have tok2 : True := trivial
    have tok3 : True := trivial
    go_enter Try.func7, Try.ntmps7
    go_wp2_with (first | (have _t := tok1; go_at_call 25; (with_reducible refine ((T1 _).out).mono ?_); rintro e w1 ⟨rfl, hb1⟩; clear tok1 _t; have hz1 := hb1.size; (try simp only [World.size_alloc, World.size_setCell, World.size_drew, World.size_drewN'] at hz1); (try (have kq := cellAt hb1 (w.heap.size) (by go_size); have k1_w_0_0 := kq 0; have k1_w_0_1 := kq 1; have k1_w_0_2 := kq 2; have k1_w_0_3 := kq 3; clear kq; have f1_w_0 := frozAt hb1 (w.heap.size) (by go_size); simp [go_sem, *] at k1_w_0_0 k1_w_0_1 k1_w_0_2 k1_w_0_3 f1_w_0)); (try have l1_w_0 : w.heap.size < w1.heap.size := by omega)) | (have _t := tok2; go_at_call 26; (with_reducible refine ((T2 _).out).mono ?_); rintro e w2 ⟨a1, c1, rfl, hb2⟩; clear tok2 _t; have hz2 := hb2.size; (try simp only [World.size_alloc, World.size_setCell, World.size_drew, World.size_drewN'] at hz2); (try (have kq := cellAt hb2 (w.heap.size) (by go_size); have k2_w_0_0 := kq 0; have k2_w_0_1 := kq 1; have k2_w_0_2 := kq 2; have k2_w_0_3 := kq 3; clear kq; have f2_w_0 := frozAt hb2 (w.heap.size) (by go_size); simp [go_sem, *] at k2_w_0_0 k2_w_0_1 k2_w_0_2 k2_w_0_3 f2_w_0)); (try have l2_w_0 : w.heap.size < w2.heap.size := by omega); (try clear k1_w_0_0 k1_w_0_1 k1_w_0_2 k1_w_0_3 f1_w_0); (try clear l1_w_0)))
    go_ret2
    refine ⟨rfl, ?_⟩
    repeat' first | (with_reducible first | apply zRf | assumption | apply zDn | apply zDr | apply zAl | apply zSt | refine zVi (by assumption) ?_ ?_) | go_size
theorem sIsIrreducibleCubic_any (a b c d : Int) (w : World) : Calls Try.prog 8 #[.agg #[.int .i64 a, .int .i64 b, .int .i64 c, .int .i64 d]] w fun r w' => r = .returned (.tuple #[.bool (irV a b c d).1, .bool (irV a b c d).2]) ∧ Below w.heap.size w w' := by
  have T1 := fun W : World => Lib.hid (cuGood_any a b c d W)
  unfold irV
  cases h : cuB a b c d
  · rw [h] at T1
    have T2 := T1
    rw [if_neg (by simp)]
    have tok1 : True := trivial
    have tok2 : True := trivial
    have tok3 : True := trivial
    go_enter Try.func8, Try.ntmps8
    go_wp2_with (first | (have _t := tok1; go_at_call 27; (with_reducible refine ((T1 _).out).mono ?_); rintro e w1 ⟨rfl, hb1⟩; clear tok1 _t; have hz1 := hb1.size; (try simp only [World.size_alloc, World.size_setCell, World.size_drew, World.size_drewN'] at hz1); (try (have kq := cellAt hb1 (w.heap.size) (by go_size); have k1_w_0_0 := kq 0; have k1_w_0_1 := kq 1; have k1_w_0_2 := kq 2; have k1_w_0_3 := kq 3; clear kq; have f1_w_0 := frozAt hb1 (w.heap.size) (by go_size); simp [go_sem, *] at k1_w_0_0 k1_w_0_1 k1_w_0_2 k1_w_0_3 f1_w_0)); (try have l1_w_0 : w.heap.size < w1.heap.size := by omega)) | (have _t := tok2; go_at_call 28; (with_reducible refine ((T2 _).out).mono ?_); rintro e w2 ⟨a1, c1, rfl, hb2⟩; clear tok2 _t; have hz2 := hb2.size; (try simp only [World.size_alloc, World.size_setCell, World.size_drew, World.size_drewN'] at hz2); (try (have kq := cellAt hb2 (w.heap.size) (by go_size); have k2_w_0_0 := kq 0; have k2_w_0_1 := kq 1; have k2_w_0_2 := kq 2; have k2_w_0_3 := kq 3; clear kq; have f2_w_0 := frozAt hb2 (w.heap.size) (by go_size); simp [go_sem, *] at k2_w_0_0 k2_w_0_1 k2_w_0_2 k2_w_0_3 f2_w_0)); (try have l2_w_0 : w.heap.size < w2.heap.size := by omega); (try clear k1_w_0_0 k1_w_0_1 k1_w_0_2 k1_w_0_3 f1_w_0); (try clear l1_w_0)))
    go_ret2
    refine ⟨rfl, ?_⟩
    repeat' first | (with_reducible first | apply zRf | assumption | apply zDn | apply zDr | apply zAl | apply zSt | refine zVi (by assumption) ?_ ?_) | go_size
  · rw [h] at T1
    have T2 := fun W : World => Lib.hid (cuRoots_any_len a b c d W h)
    have hz := eqZ (spL a b c d).length
    generalize (spL a b c d).length = n at *
    rw [if_pos rfl]
    dsimp only
    rw [← hz]
    clear hz h
    have tok1 : True := trivial
    have tok2 : True := trivial
    have tok3 : True := trivial
    go_enter Try.func8, Try.ntmps8
    go_wp2_with (first | (have _t := tok1; go_at_call 27; (with_reducible refine ((T1 _).out).mono ?_); rintro e w1 ⟨rfl, hb1⟩; clear tok1 _t; have hz1 := hb1.size; (try simp only [World.size_alloc, World.size_setCell, World.size_drew, World.size_drewN'] at hz1); (try (have kq := cellAt hb1 (w.heap.size) (by go_size); have k1_w_0_0 := kq 0; have k1_w_0_1 := kq 1; have k1_w_0_2 := kq 2; have k1_w_0_3 := kq 3; clear kq; have f1_w_0 := frozAt hb1 (w.heap.size) (by go_size); simp [go_sem, *] at k1_w_0_0 k1_w_0_1 k1_w_0_2 k1_w_0_3 f1_w_0)); (try have l1_w_0 : w.heap.size < w1.heap.size := by omega)) | (have _t := tok2; go_at_call 28; (with_reducible refine ((T2 _).out).mono ?_); rintro e w2 ⟨a1, c1, rfl, hb2⟩; clear tok2 _t; have hz2 := hb2.size; (try simp only [World.size_alloc, World.size_setCell, World.size_drew, World.size_drewN'] at hz2); (try (have kq := cellAt hb2 (w.heap.size) (by go_size); have k2_w_0_0 := kq 0; have k2_w_0_1 := kq 1; have k2_w_0_2 := kq 2; have k2_w_0_3 := kq 3; clear kq; have f2_w_0 := frozAt hb2 (w.heap.size) (by go_size); simp [go_sem, *] at k2_w_0_0 k2_w_0_1 k2_w_0_2 k2_w_0_3 f2_w_0)); (try have l2_w_0 : w.heap.size < w2.heap.size := by omega); (try clear k1_w_0_0 k1_w_0_1 k1_w_0_2 k1_w_0_3 f1_w_0); (try clear l1_w_0)))
    go_ret2
    refine ⟨rfl, ?_⟩
    repeat' first | (with_reducible first | apply zRf | assumption | apply zDn | apply zDr | apply zAl | apply zSt | refine zVi (by assumption) ?_ ?_) | go_size
theorem RationalRoots_any (a b c d : Int) (w : World) : Calls Try.prog 5 #[.agg #[.int .i64 a, .int .i64 b, .int .i64 c, .int .i64 d]] w (NewQ w (rrL a b c d) (cuB a b c d)) := by
  have T1 := fun W : World => Lib.hid (isCubic_any a b c d W)
  unfold rrL NewQ
  cases h : cuB a b c d
  · rw [h] at T1
    have T2 := T1
    rw [if_neg (by simp)]
    have tok1 : True := trivial
    have tok2 : True := trivial
    have tok3 : True := trivial
    go_enter Try.func5, Try.ntmps5
    go_wp2_with (first | (have _t := tok1; go_at_call 25; (with_reducible refine ((T1 _).out).mono ?_); rintro e w1 ⟨rfl, hb1⟩; clear tok1 _t; have hz1 := hb1.size; (try simp only [World.size_alloc, World.size_setCell, World.size_drew, World.size_drewN'] at hz1); (try (have kq := cellAt hb1 (w.heap.size) (by go_size); have k1_w_0_0 := kq 0; have k1_w_0_1 := kq 1; have k1_w_0_2 := kq 2; have k1_w_0_3 := kq 3; clear kq; have f1_w_0 := frozAt hb1 (w.heap.size) (by go_size); simp [go_sem, *] at k1_w_0_0 k1_w_0_1 k1_w_0_2 k1_w_0_3 f1_w_0)); (try have l1_w_0 : w.heap.size < w1.heap.size := by omega)) | (have _t := tok2; go_at_call 26; (with_reducible refine ((T2 _).out).mono ?_); rintro e w2 ⟨v2, B2, rfl, hx2, hB2, hb2⟩; clear tok2 _t; have hz2 := hb2.size; (try simp only [World.size_alloc, World.size_setCell, World.size_drew, World.size_drewN'] at hz2); (try (have kq := cellAt hb2 (w.heap.size) (by go_size); have k2_w_0_0 := kq 0; have k2_w_0_1 := kq 1; have k2_w_0_2 := kq 2; have k2_w_0_3 := kq 3; clear kq; have f2_w_0 := frozAt hb2 (w.heap.size) (by go_size); simp [go_sem, *] at k2_w_0_0 k2_w_0_1 k2_w_0_2 k2_w_0_3 f2_w_0)); (try have l2_w_0 : w.heap.size < w2.heap.size := by omega); (try clear k1_w_0_0 k1_w_0_1 k1_w_0_2 k1_w_0_3 f1_w_0); (try clear l1_w_0)))
    go_ret2
    refine ⟨.slice none 0 0, w.heap.size, rfl, ⟨rfl, .inl ⟨rfl, rfl⟩⟩, Nat.le_refl _, ?_⟩
    repeat' first | (with_reducible first | apply zRf | assumption | apply zDn | apply zDr | apply zAl | apply zSt | refine zVi (by assumption) ?_ ?_) | go_size
  · rw [h] at T1
    have T2 := fun W : World => Lib.hid (rationalRoots_any_x a b c d W h)
    generalize spL a b c d = l at *
    rw [if_pos rfl]
    clear h
    have tok1 : True := trivial
    have tok2 : True := trivial
    have tok3 : True := trivial
    go_enter Try.func5, Try.ntmps5
    go_wp2_with (first | (have _t := tok1; go_at_call 25; (with_reducible refine ((T1 _).out).mono ?_); rintro e w1 ⟨rfl, hb1⟩; clear tok1 _t; have hz1 := hb1.size; (try simp only [World.size_alloc, World.size_setCell, World.size_drew, World.size_drewN'] at hz1); (try (have kq := cellAt hb1 (w.heap.size) (by go_size); have k1_w_0_0 := kq 0; have k1_w_0_1 := kq 1; have k1_w_0_2 := kq 2; have k1_w_0_3 := kq 3; clear kq; have f1_w_0 := frozAt hb1 (w.heap.size) (by go_size); simp [go_sem, *] at k1_w_0_0 k1_w_0_1 k1_w_0_2 k1_w_0_3 f1_w_0)); (try have l1_w_0 : w.heap.size < w1.heap.size := by omega)) | (have _t := tok2; go_at_call 26; (with_reducible refine ((T2 _).out).mono ?_); rintro e w2 ⟨v2, B2, rfl, hx2, hB2, hb2⟩; clear tok2 _t; have hz2 := hb2.size; (try simp only [World.size_alloc, World.size_setCell, World.size_drew, World.size_drewN'] at hz2); (try (have kq := cellAt hb2 (w.heap.size) (by go_size); have k2_w_0_0 := kq 0; have k2_w_0_1 := kq 1; have k2_w_0_2 := kq 2; have k2_w_0_3 := kq 3; clear kq; have f2_w_0 := frozAt hb2 (w.heap.size) (by go_size); simp [go_sem, *] at k2_w_0_0 k2_w_0_1 k2_w_0_2 k2_w_0_3 f2_w_0)); (try have l2_w_0 : w.heap.size < w2.heap.size := by omega); (try clear k1_w_0_0 k1_w_0_1 k1_w_0_2 k1_w_0_3 f1_w_0); (try clear l1_w_0)))
    go_ret2
    refine ⟨v2, B2, rfl, hx2, ?_, ?_⟩
    · go_size
    · repeat' first | (with_reducible first | apply zRf | assumption | apply zDn | apply zDr | apply zAl | apply zSt | refine zVi (by assumption) ?_ ?_) | go_size
theorem sRationalRoots_any (a b c d : Int) (w : World) : Calls Try.prog 6 #[.agg #[.int .i64 a, .int .i64 b, .int .i64 c, .int .i64 d]] w (NewQ w (rrL a b c d) (cuB a b c d)) := by
  have T1 := fun W : World => Lib.hid (cuGood_any a b c d W)
  unfold rrL NewQ
  cases h : cuB a b c d
  · rw [h] at T1
    have T2 := T1
    rw [if_neg (by simp)]
    have tok1 : True := trivial
    have tok2 : True := trivial
    have tok3 : True := trivial
    go_enter Try.func6, Try.ntmps6
    go_wp2_with (first | (have _t := tok1; go_at_call 27; (with_reducible refine ((T1 _).out).mono ?_); rintro e w1 ⟨rfl, hb1⟩; clear tok1 _t; have hz1 := hb1.size; (try simp only [World.size_alloc, World.size_setCell, World.size_drew, World.size_drewN'] at hz1); (try (have kq := cellAt hb1 (w.heap.size) (by go_size); have k1_w_0_0 := kq 0; have k1_w_0_1 := kq 1; have k1_w_0_2 := kq 2; have k1_w_0_3 := kq 3; clear kq; have f1_w_0 := frozAt hb1 (w.heap.size) (by go_size); simp [go_sem, *] at k1_w_0_0 k1_w_0_1 k1_w_0_2 k1_w_0_3 f1_w_0)); (try have l1_w_0 : w.heap.size < w1.heap.size := by omega)) | (have _t := tok2; go_at_call 28; (with_reducible refine ((T2 _).out).mono ?_); rintro e w2 ⟨v2, B2, rfl, hx2, hB2, hb2⟩; clear tok2 _t; have hz2 := hb2.size; (try simp only [World.size_alloc, World.size_setCell, World.size_drew, World.size_drewN'] at hz2); (try (have kq := cellAt hb2 (w.heap.size) (by go_size); have k2_w_0_0 := kq 0; have k2_w_0_1 := kq 1; have k2_w_0_2 := kq 2; have k2_w_0_3 := kq 3; clear kq; have f2_w_0 := frozAt hb2 (w.heap.size) (by go_size); simp [go_sem, *] at k2_w_0_0 k2_w_0_1 k2_w_0_2 k2_w_0_3 f2_w_0)); (try have l2_w_0 : w.heap.size < w2.heap.size := by omega); (try clear k1_w_0_0 k1_w_0_1 k1_w_0_2 k1_w_0_3 f1_w_0); (try clear l1_w_0)))
    go_ret2
    refine ⟨.slice none 0 0, w.heap.size, rfl, ⟨rfl, .inl ⟨rfl, rfl⟩⟩, Nat.le_refl _, ?_⟩
    repeat' first | (with_reducible first | apply zRf | assumption | apply zDn | apply zDr | apply zAl | apply zSt | refine zVi (by assumption) ?_ ?_) | go_size
  · rw [h] at T1
    have T2 := fun W : World => Lib.hid (cuRoots_any_x a b c d W h)
    generalize spL a b c d = l at *
    rw [if_pos rfl]
    clear h
    have tok1 : True := trivial
    have tok2 : True := trivial
    have tok3 : True := trivial
    go_enter Try.func6, Try.ntmps6
    go_wp2_with (first | (have _t := tok1; go_at_call 27; (with_reducible refine ((T1 _).out).mono ?_); rintro e w1 ⟨rfl, hb1⟩; clear tok1 _t; have hz1 := hb1.size; (try simp only [World.size_alloc, World.size_setCell, World.size_drew, World.size_drewN'] at hz1); (try (have kq := cellAt hb1 (w.heap.size) (by go_size); have k1_w_0_0 := kq 0; have k1_w_0_1 := kq 1; have k1_w_0_2 := kq 2; have k1_w_0_3 := kq 3; clear kq; have f1_w_0 := frozAt hb1 (w.heap.size) (by go_size); simp [go_sem, *] at k1_w_0_0 k1_w_0_1 k1_w_0_2 k1_w_0_3 f1_w_0)); (try have l1_w_0 : w.heap.size < w1.heap.size := by omega)) | (have _t := tok2; go_at_call 28; (with_reducible refine ((T2 _).out).mono ?_); rintro e w2 ⟨v2, B2, rfl, hx2, hB2, hb2⟩; clear tok2 _t; have hz2 := hb2.size; (try simp only [World.size_alloc, World.size_setCell, World.size_drew, World.size_drewN'] at hz2); (try (have kq := cellAt hb2 (w.heap.size) (by go_size); have k2_w_0_0 := kq 0; have k2_w_0_1 := kq 1; have k2_w_0_2 := kq 2; have k2_w_0_3 := kq 3; clear kq; have f2_w_0 := frozAt hb2 (w.heap.size) (by go_size); simp [go_sem, *] at k2_w_0_0 k2_w_0_1 k2_w_0_2 k2_w_0_3 f2_w_0)); (try have l2_w_0 : w.heap.size < w2.heap.size := by omega); (try clear k1_w_0_0 k1_w_0_1 k1_w_0_2 k1_w_0_3 f1_w_0); (try clear l1_w_0)))
    go_ret2
    refine ⟨v2, B2, rfl, hx2, ?_, ?_⟩
    · go_size
    · repeat' first | (with_reducible first | apply zRf | assumption | apply zDn | apply zDr | apply zAl | apply zSt | refine zVi (by assumption) ?_ ?_) | go_size
end Go.Proofs.Ytldonmcbnhgbdaa
