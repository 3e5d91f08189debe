/- Lemmas and contracts of functions. No condition. -/
import Derived.Test.YtfbegjiebahdcaaPk1
import Derived.Test.YtfbegjiebahdcaaPk3
import Derived.Test.YtfbegjiebahdcaaPk23
import Derived.Test.YtfbegjiebahdcaaPk33
import Derived.ChangeSame
import Derived.Deep.Fields
import Derived.Deep.Slices
namespace Go.Proofs.Ytfbegjiebahdcaa
section
open Go.RowKit
set_option linter.unusedVariables false
set_option maxHeartbeats 1000000
set_option maxRecDepth 20000
set_option linter.unusedSimpArgs false
attribute [local go_sem] openAt openUpon
theorem infoPoint : (Try.prog.info? 54).map (fun i => (i.zero, i.size, i.bytes)) = some (some (.agg #[.int .i64 0, .int .i64 0, .int .i64 0]), 3, 24) := by kernel_rfl
/-- the slice of address a, length n, capacity c holds the points whose numbers are zs, three a point -/
structure Px (W : World) (a : Option Addr) (n c : Nat) (zs : List Int) : Prop where
  len : zs.length = 3 * n
  cap : n ≤ c
  max : c ≤ maxLen
  row : SlA W a zs
theorem Px.below {W W2 : World} {a : Option Addr} {n c : Nat} {zs : List Int} (h : Px W a n c zs) (hb : Below W.heap.size W W2) : Px W2 a n c zs := ⟨h.len, h.cap, h.max, h.row.below hb⟩
theorem Px.at {W : World} {a : Option Addr} {n c : Nat} {zs : List Int} (h : Px W a n c zs) (h0 : 0 < n) : ∃ b off, a = some ⟨b, off, Option.none⟩ ∧ b < W.heap.size ∧ ∀ j, j < 3 * n → W.cell? ⟨b, off + j, Option.none⟩ = some (.int .i64 (zs[j]?.getD 0)) := by
  obtain ⟨b, off, h1, h2, h3⟩ := h.row (by rw [h.len]; omega)
  refine ⟨b, off, h1, h2, fun j hj => ?_⟩
  have := h3 j (by rw [h.len]; exact hj)
  rwa [List.getD_eq_getElem?_getD] at this
theorem Px.of_row {W : World} {g n : Nat} {zs : List Int} {T : TypeId} (hk : W.heap[g]? = some (.cells (ints zs).toArray T (0, 0))) (hn : zs.length = 3 * n) (hm : n ≤ maxLen) : Px W (some ⟨g, 0, Option.none⟩) n n zs :=
  ⟨hn, Nat.le_refl _, hm, fun _ => ⟨g, 0, rfl, blk_lt' hk, fun j hj => by rw [cell_of_row W g (0 + j) _ T (0, 0) hk, Nat.zero_add]; simpa using ints_at zs j hj⟩⟩
theorem pt_zeros (n : Nat) : (madeCells (Value.agg #[.int .i64 0, .int .i64 0, .int .i64 0]).cells (n * 3)).toList = ints (List.replicate (3 * n) 0) := by
  apply List.ext_getElem?
  intro i
  by_cases hi : i < n * 3
  · have hi2 : i < 3 * n := by omega
    have h3 : i % 3 = 0 ∨ i % 3 = 1 ∨ i % 3 = 2 := by omega
    rcases h3 with h | h | h <;> simp [madeCells, ints, Value.cells, List.getElem?_replicate, hi, hi2, h]
  · have hi2 : ¬ i < 3 * n := by omega
    simp [madeCells, ints, Value.cells, List.getElem?_replicate, hi, hi2]
theorem made_points {W W' : World} {base : Nat} {T : TypeId} {n : Nat} (h : W'.ownsRow base T 3 (.slice (some ⟨W.heap.size, 0, none⟩) n n) n (madeCells (Value.agg #[.int .i64 0, .int .i64 0, .int .i64 0]).cells (n * 3)).toList) :
    W'.heap[W.heap.size]? = some (.cells (ints (List.replicate (3 * n) 0)).toArray T (0, 0)) := by
  rw [pt_zeros] at h
  obtain ⟨hl, h⟩ := h
  rcases h with ⟨h, _⟩ | ⟨g, c, cur, hv, hB, hg, hnc, hcm, hcs, ht⟩
  · cases h
  · simp only [Value.slice.injEq, Option.some.injEq, Addr.mk.injEq, and_true, true_and] at hv
    obtain ⟨rfl, rfl⟩ := hv
    rw [hg]
    rw [List.take_of_length_le (by simp [hcs])] at ht
    rw [← ht]
theorem row_free {W : World} {g : Nat} {zs : List Int} {T : TypeId} (h : W.heap[g]? = some (.cells (ints zs).toArray T (0, 0))) (o : Nat) : W.frozen? ⟨g, o, none⟩ = false := by simp [World.frozen?, h]
theorem pts_next {zs qs : List Int} {k n : Nat} (hz : zs.length = 3 * n) (hq : qs.length = 3 * n) (hk : k < n) (h : ∀ j, j < 3 * k → qs[j]? = zs[j]?) :
    ∀ j, j < 3 * (k + 1) → (((qs.set (k * 3) (zs[k * 3]?.getD 0)).set (k * 3 + 1) (zs[k * 3 + 1]?.getD 0)).set (k * 3 + 2) (zs[k * 3 + 2]?.getD 0))[j]? = zs[j]? := by
  intro j hj
  simp only [List.getElem?_set]
  by_cases h2 : j = k * 3 + 2
  · subst h2; simp [hq, show k * 3 + 2 < 3 * n by omega, hz]
  · by_cases h1 : j = k * 3 + 1
    · subst h1; simp [hq, show k * 3 + 1 < 3 * n by omega, hz]
    · by_cases h0 : j = k * 3
      · subst h0; simp [hq, show k * 3 < 3 * n by omega, hz]
      · rw [if_neg (by omega), if_neg (by omega), if_neg (by omega)]
        exact h j (by omega)
theorem pts_all {zs qs : List Int} {n : Nat} (hz : zs.length = 3 * n) (hq : qs.length = 3 * n) (h : ∀ j, j < 3 * n → qs[j]? = zs[j]?) : qs = zs := by
  apply List.ext_getElem?
  intro j
  by_cases hj : j < 3 * n
  · exact h j hj
  · rw [List.getElem?_eq_none (by omega), List.getElem?_eq_none (by omega)]
def CpRel (w : World) (T : TypeId) (zs : List Int) (n : Nat) (iv : Value) (wr : World) : Prop := ∃ (k : Nat) (qs : List Int), iv = .int .i64 k ∧ k ≤ n ∧ qs.length = 3 * n ∧ (∀ j, j < 3 * k → qs[j]? = zs[j]?) ∧ wr.heap[w.heap.size]? = some (.cells (ints qs).toArray T (0, 0)) ∧ Below w.heap.size w wr
theorem toPointS_any (a : Option Addr) (n c : Nat) (zs : List Int) (w : World) (h : Px w a n c zs) (hn : n ≤ 1048576) : Calls Try.prog 50 #[.slice a n c] w fun e w' =>
    e = .returned (.slice (some ⟨w.heap.size, 0, none⟩) n n) ∧ Px w' (some ⟨w.heap.size, 0, none⟩) n n zs ∧ w.heap.size < w'.heap.size ∧ Below w.heap.size w w' := by
  obtain ⟨i0, hi, hz0, hz1, hz2⟩ := info_parts infoPoint
  have hln := Lib.hid h.len
  have hnm : n ≤ maxLen := by unfold maxLen; omega
  have tok1 : True := trivial
  go_enter Try.func50, Try.ntmps50
  go_wp2_with (first | (at_make; refine wpList_make_full _ rfl _ _ 77 rfl w.heap.size 54 i0 (.agg #[.int .i64 0, .int .i64 0, .int .i64 0]) 3 Try.underlying77 hi hz0 hz1 .i64 .i64 _ _ n rfl rfl rfl rfl (by rw [hz2]; omega) (by unfold maxLen; omega) (by simp) ?_; intro W0 hm0 hg0; have hr0 := made_points hm0; have hb0 := made_below (B := w.heap.size) (a := w) (by repeat' first | (with_reducible first | apply zRf | assumption | apply zDn | apply zDr | apply zAl | apply zSt | refine zVi (by assumption) ?_ ?_) | go_size) hg0 (by simp; try omega); clear hm0 hg0))
  go_loopw [4] (fun iv wr => CpRel w 54 zs n iv wr) (fun iv _ => (n - intOf iv).toNat)
  case atStart => exact ⟨0, List.replicate (3 * n) 0, rfl, by omega, by simp, fun j hj => by omega, hr0, hb0⟩
  case round =>
    obtain ⟨k, qs, rfl, hk, hq, hp, hrow, hbw⟩ := hrel
    have hsw := hbw.size
    have HP := Lib.hid hp
    have HQ := Lib.hid hq
    clear hp hq
    by_cases h0 : k < n
    · obtain ⟨b, off, rfl, hb, hcs⟩ := h.at (by omega)
      have c0 := (hbw.cell (p := ⟨b, off + k * 3, none⟩) hb).trans (hcs (k * 3) (by omega))
      have c1 := (hbw.cell (p := ⟨b, off + k * 3 + 1, none⟩) hb).trans (hcs (k * 3 + 1) (by omega))
      have c2 := (hbw.cell (p := ⟨b, off + k * 3 + 2, none⟩) hb).trans (hcs (k * 3 + 2) (by omega))
      have hk2 : (k : Int) < (n : Int) := by omega
      clear hcs
      go_wp2_with (first | (have _t := tok1; go_at_call 28; refine (toPoint_any _ _ _ _).mono ?_; rintro e w1 ⟨rfl, hb1⟩; clear tok1 _t; have hz1 := hb1.size; (try simp only [World.size_alloc, World.size_setCell, World.size_drew, World.size_drewN'] at hz1); have hr1 := (hb1.block _ (blk_lt' hrow)).trans hrow; have d0 := row_at hr1 (j := k * 3) (by have := HQ.out; omega); have d1 := row_at hr1 (j := k * 3 + 1) (by have := HQ.out; omega); have d2 := row_at hr1 (j := k * 3 + 2) (by have := HQ.out; omega); have d3 := fun o => row_free hr1 o))
      go_roundw
      case rel => exact ⟨k + 1, _, by go_num, by omega, by simp [HQ.out], pts_next hln.out HQ.out h0 HP.out, row_set (row_set (row_set hr1 _ _) _ _) _ _, by repeat' first | (with_reducible first | apply zRf | assumption | apply zDn | apply zDr | apply zAl | apply zSt | refine zVi (by assumption) ?_ ?_) | go_size⟩
      case measure => simp [intOf]; omega
    · obtain rfl : k = n := by omega
      go_wp2_with (first | (have _t := tok1; go_at_call 28; refine (toPoint_any _ _ _ _).mono ?_; rintro e w1 ⟨rfl, hb1⟩; clear tok1 _t; have hz1 := hb1.size; (try simp only [World.size_alloc, World.size_setCell, World.size_drew, World.size_drewN'] at hz1); have hr1 := (hb1.block _ (blk_lt' hrow)).trans hrow; have d0 := row_at hr1 (j := k * 3) (by have := HQ.out; omega); have d1 := row_at hr1 (j := k * 3 + 1) (by have := HQ.out; omega); have d2 := row_at hr1 (j := k * 3 + 2) (by have := HQ.out; omega); have d3 := fun o => row_free hr1 o))
      go_ret
      refine ⟨rfl, ?_⟩
      have e := pts_all hln.out HQ.out HP.out
      subst e
      exact ⟨Px.of_row hrow HQ.out hnm, blk_lt' hrow, hbw⟩
theorem eqPoint_same (x y z : Int) (w : World) : Calls Try.prog 87 #[.agg #[.int .i64 x, .int .i64 y, .int .i64 z], .agg #[.int .i64 x, .int .i64 y, .int .i64 z]] w fun e w' => e = .returned (.bool true) ∧ Below w.heap.size w w' := by
  have e1 : (x != x) = false := by simp
  have e2 : (y != y) = false := by simp
  have e3 : (z != z) = false := by simp
  go_enter Try.func87, Try.ntmps87
  go_wp2
  go_ret
  refine ⟨rfl, ?_⟩
  repeat' first | (with_reducible first | apply zRf | assumption | apply zDn | apply zDr | apply zAl | apply zSt | refine zVi (by assumption) ?_ ?_) | go_size
theorem eqPointS_same (a a2 : Option Addr) (n c n2 c2 : Nat) (zs : List Int) (w : World) (h : Px w a n c zs) (h2 : Px w a2 n2 c2 zs) : Calls Try.prog 52 #[.slice a n c, .slice a2 n2 c2] w fun e w' => e = .returned (.bool true) ∧ Below w.heap.size w w' := by
  have hln := Lib.hid h.len
  obtain rfl : n2 = n := by have := h2.len; have := hln.out; omega
  have hnm := h.cap
  have hnm2 := h.max
  unfold maxLen at hnm2
  have e1 : ((n2 : Int) != (n2 : Int)) = false := by simp
  go_enter Try.func52, Try.ntmps52
  go_wp2_with fail
  go_loopw [5] (fun iv wr => ∃ k : Nat, iv = .int .i64 k ∧ k ≤ n2 ∧ Below w.heap.size w wr) (fun iv _ => (n2 - intOf iv).toNat)
  case atStart => exact ⟨0, rfl, by omega, Below.refl _ _⟩
  case round =>
    obtain ⟨k, rfl, hk, hbw⟩ := hrel
    have hsw := hbw.size
    by_cases h0 : k < n2
    · obtain ⟨b, off, rfl, hb, hcs⟩ := h.at (by omega)
      obtain ⟨b2, off2, rfl, hb2, hcs2⟩ := h2.at (by omega)
      have c0 := (hbw.cell (p := ⟨b, off + k * 3, none⟩) hb).trans (hcs (k * 3) (by omega))
      have c1 := (hbw.cell (p := ⟨b, off + k * 3 + 1, none⟩) hb).trans (hcs (k * 3 + 1) (by omega))
      have c2 := (hbw.cell (p := ⟨b, off + k * 3 + 2, none⟩) hb).trans (hcs (k * 3 + 2) (by omega))
      have f0 := (hbw.cell (p := ⟨b2, off2 + k * 3, none⟩) hb2).trans (hcs2 (k * 3) (by omega))
      have f1 := (hbw.cell (p := ⟨b2, off2 + k * 3 + 1, none⟩) hb2).trans (hcs2 (k * 3 + 1) (by omega))
      have f2 := (hbw.cell (p := ⟨b2, off2 + k * 3 + 2, none⟩) hb2).trans (hcs2 (k * 3 + 2) (by omega))
      have hk2 : (k : Int) < (n2 : Int) := by omega
      clear hcs hcs2
      generalize zs[k * 3]?.getD 0 = x at *
      generalize zs[k * 3 + 1]?.getD 0 = y at *
      generalize zs[k * 3 + 2]?.getD 0 = z at *
      go_wp2_with fail
      refine wp_open (n := 9) (by kernel_rfl) (by kernel_rfl) (by kernel_rfl) (by kernel_rfl) ?_
      simp only [List.take_succ_cons, List.take_zero]
      apply wpS_quiet
      · intro γ W hW hp
        refine ⟨rfl, ?_⟩
        go_big_quiet_op
        first | exact rfl
      · exact locS_const _
      try simp only [Act.put, List.setIfInBounds_toArray, List.set_cons_succ, List.set_cons_zero, Nat.reduceAdd]
      apply wpS_quiet
      · intro γ W hW hp
        refine ⟨rfl, ?_⟩
        go_big_quiet_op
        first | exact rfl
      · exact locS_const _
      try simp only [Act.put, List.setIfInBounds_toArray, List.set_cons_succ, List.set_cons_zero, Nat.reduceAdd]
      apply wpS_quiet
      · intro γ W hW hp
        have hs := hW.size
        (try simp only [World.size_alloc, World.size_setCell, World.size_drew, World.size_drewN'] at hs)
        clear hW hp
        refine ⟨rfl, ?_⟩
        go_big_quiet_op
        first | exact rfl
      · exact locS_const _
      try simp only [Act.put, List.setIfInBounds_toArray, List.set_cons_succ, List.set_cons_zero, Nat.reduceAdd]
      apply wpS_quiet
      · intro γ W hW hp
        have hs0 := hW.size; have q0 := fun x : Over W => (cellAt x.lies b (by omega) (off + k * 3)).trans ((cellAt hW b (by omega) (off + k * 3)).trans c0); have q1 := fun x : Over W => (cellAt x.lies b (by omega) (off + k * 3 + 1)).trans ((cellAt hW b (by omega) (off + k * 3 + 1)).trans c1); have q2 := fun x : Over W => (cellAt x.lies b (by omega) (off + k * 3 + 2)).trans ((cellAt hW b (by omega) (off + k * 3 + 2)).trans c2)
        have hs := hW.size
        (try simp only [World.size_alloc, World.size_setCell, World.size_drew, World.size_drewN'] at hs)
        clear hW hp
        refine ⟨rfl, ?_⟩
        go_big_quiet_op
        first | exact rfl
      · exact locS_const _
      try simp only [Act.put, List.setIfInBounds_toArray, List.set_cons_succ, List.set_cons_zero, Nat.reduceAdd]
      apply wpS_quiet
      · intro γ W hW hp
        refine ⟨rfl, ?_⟩
        go_big_quiet_op
        first | exact rfl
      · exact locS_const _
      try simp only [Act.put, List.setIfInBounds_toArray, List.set_cons_succ, List.set_cons_zero, Nat.reduceAdd]
      apply wpS_quiet
      · intro γ W hW hp
        refine ⟨rfl, ?_⟩
        go_big_quiet_op
        first | exact rfl
      · exact locS_const _
      try simp only [Act.put, List.setIfInBounds_toArray, List.set_cons_succ, List.set_cons_zero, Nat.reduceAdd]
      apply wpS_quiet
      · intro γ W hW hp
        have hs := hW.size
        (try simp only [World.size_alloc, World.size_setCell, World.size_drew, World.size_drewN'] at hs)
        clear hW hp
        refine ⟨rfl, ?_⟩
        go_big_quiet_op
        first | exact rfl
      · exact locS_const _
      try simp only [Act.put, List.setIfInBounds_toArray, List.set_cons_succ, List.set_cons_zero, Nat.reduceAdd]
      apply wpS_quiet
      · intro γ W hW hp
        have hs0 := hW.size; have q0 := fun x : Over W => (cellAt x.lies b2 (by omega) (off2 + k * 3)).trans ((cellAt hW b2 (by omega) (off2 + k * 3)).trans f0); have q1 := fun x : Over W => (cellAt x.lies b2 (by omega) (off2 + k * 3 + 1)).trans ((cellAt hW b2 (by omega) (off2 + k * 3 + 1)).trans f1); have q2 := fun x : Over W => (cellAt x.lies b2 (by omega) (off2 + k * 3 + 2)).trans ((cellAt hW b2 (by omega) (off2 + k * 3 + 2)).trans f2)
        have hs := hW.size
        (try simp only [World.size_alloc, World.size_setCell, World.size_drew, World.size_drewN'] at hs)
        clear hW hp
        refine ⟨rfl, ?_⟩
        go_big_quiet_op
        first | exact rfl
      · exact locS_const _
      try simp only [Act.put, List.setIfInBounds_toArray, List.set_cons_succ, List.set_cons_zero, Nat.reduceAdd]
      apply wpS_quiet
      · intro γ W hW hp
        refine ⟨rfl, ?_⟩
        go_big_quiet_op
        apply Exists.intro
        refine ⟨fun x => ?_, ?_⟩
        · (first | (go_at_call 87; exact draw_of _ (eqPoint_same _ _ _ _)))
        exact rfl
      · exact locS_const _
      try simp only [Act.put, List.setIfInBounds_toArray, List.set_cons_succ, List.set_cons_zero, Nat.reduceAdd]
      apply wpS_end
      intro γ w1 hb1 hG1 hA1
      clear hG1 hA1
      simp only [List.drop_succ_cons, List.drop_zero]
      have hz1 := hb1.size
      (try simp only [World.size_alloc, World.size_setCell, World.size_drew, World.size_drewN'] at hz1)
      go_wp2_with fail
      go_roundw
      case rel => exact ⟨k + 1, by go_num, by omega, by repeat' first | (with_reducible first | apply zRf | assumption | apply zDn | apply zDr | apply zAl | apply zSt | refine zVi (by assumption) ?_ ?_) | go_size⟩
      case measure => simp [intOf]; omega
    · obtain rfl : k = n2 := by omega
      go_wp2_with fail
      go_ret
      exact ⟨rfl, hbw⟩
theorem szPointS_any (a : Option Addr) (n c : Nat) (left : Int) (w : World) (hn : n ≤ maxLen) (h1 : 0 ≤ left) (h2 : left ≤ 1048576) : Calls Try.prog 48 #[.slice a n c, .int .i64 left] w fun e w' => e = .returned (.int .i64 (if left - n < 0 then -1 else left - n)) ∧ w = w' := by
  unfold maxLen at hn
  by_cases h : left - n < 0
  · rw [if_pos h]
    go_enter Try.func48, Try.ntmps48
    go_wp2_with fail
    go_ret
    exact ⟨rfl, rfl⟩
  · rw [if_neg h]
    go_enter Try.func48, Try.ntmps48
    go_wp2_with fail
    go_ret
    exact ⟨rfl, rfl⟩
end
section
open Go.ChangeShapes Go.WideShapes Go.ChangeAt Go.RowKit Go.Deep
set_option linter.unusedVariables false
set_option linter.unusedSimpArgs false

section
variable {H : Type} {enc : TypeId × Value → H} {P : Program} {w : World} {base : Nat} {spare : Nat → Bool} {held : Bool}
theorem open_slice_fields {t e : TypeId} {fs : Array Field} {fuel : Nat} {cs : List Value} {x : DataW H × List MemPlace} (ht : P.underlying t = some (.slice e)) (he : P.underlying e = some (.struct fs))
    (hone : oneCellFields P fs = true) (hC : P.cellsOf e = fs.size) (h : DataW.trod enc P w base spare held fuel t cs = some x) :
    (cs = [.slice none 0 0] ∧ x = (.nil, [])) ∨
    ∃ (a : Addr) (len cap m : Nat) (D : Nat → DataW H) (Pl : Nat → List MemPlace), cs = [.slice (some a) len cap] ∧ base ≤ a.block ∧ len ≤ cap ∧ cap ≤ maxLen ∧ m = (if spare a.block then cap else len) ∧
      x = (.slice ((List.range len).map D) ((List.range (m - len)).map fun j => D (len + j)), MemPlace.row a (m * fs.size) ++ (List.range m).flatMap Pl) ∧
      ∀ i, i < m → ∃ (ys : List (DataW H × List MemPlace)) (n : Nat), D i = .agg (ys.map (·.1)) ∧ Pl i = ys.flatMap (·.2) ∧ ys.length = fs.size ∧
        ∀ (j : Nat) (f : Field), fs[j]? = some f → ∃ (v : Value) (y : DataW H × List MemPlace), w.cell? (a.add (i * fs.size + j)) = some v ∧ ys[j]? = some y ∧ DataW.trod enc P w base spare held n f.type [v] = some y := by
  rcases open_slice ht h with h0 | ⟨a, len, cap, m, n, D, Pl, hcs, hb, hl, hm, hmm, hx, hi⟩
  · exact .inl h0
  · refine .inr ⟨a, len, cap, m, D, Pl, hcs, hb, hl, hm, hmm, by rw [hC] at hx; exact hx, fun i him => ?_⟩
    obtain ⟨cs', hc, ht'⟩ := hi i him
    rw [hC] at hc
    obtain ⟨ys, n', hn', hy, hlen, hyl, hf⟩ := DataW.trod_struct he ht'
    obtain ⟨_, hcl, hat⟩ := World.cells?_some hc
    simp only [Prod.mk.injEq] at hy
    refine ⟨ys, n', hy.1, hy.2, hyl, fun j f hj => ?_⟩
    obtain ⟨ho, hk⟩ := hone_of hone j f hj
    have hjl : j < fs.size := (Array.getElem?_eq_some_iff.1 hj).1
    have hcell := hat j hjl
    have hv : cs'[j]? = some (cs'[j]'(by omega)) := List.getElem?_eq_getElem (by omega)
    have h1 := hf j f hj
    rw [ho, hk] at h1
    have hone' : (cs'.drop j).take 1 = [cs'[j]'(by omega)] := by
      rw [List.drop_eq_getElem_cons (by omega)]
      rfl
    rw [hone'] at h1
    have hys : ys[j]? = some (ys[j]'(by omega)) := List.getElem?_eq_getElem (by omega)
    refine ⟨_, _, ?_, hys, h1.trans hys⟩
    rw [← Go.Deep.add_add, hcell, hv]
def numAt (W : World) (a : Addr) (j : Nat) : Int := match W.cell? (a.add j) with | some (.int _ z) => z | _ => 0
theorem open_pts {t e : TypeId} {f0 f1 f2 : Field} {fuel : Nat} {cs : List Value} {x : DataW H × List MemPlace} (ht : P.underlying t = some (.slice e)) (he : P.underlying e = some (.struct #[f0, f1, f2]))
    (h0 : P.underlying f0.type = some (.int .i64)) (h1 : P.underlying f1.type = some (.int .i64)) (h2 : P.underlying f2.type = some (.int .i64))
    (h : DataW.trod enc P w base spare held fuel t cs = some x) (hone : oneCellFields P #[f0, f1, f2] = true) (hC : P.cellsOf e = 3) :
    ∃ a n c zs, cs = [.slice a n c] ∧ Px w a n c zs := by
  rcases open_slice_fields ht he hone hC h with ⟨rfl, _⟩ | ⟨a, len, cap, m, D, Pl, rfl, hb, hl, hm, hmm, _, hi⟩
  · exact ⟨none, 0, 0, [], rfl, ⟨rfl, Nat.le_refl _, Nat.zero_le _, fun h => absurd h (by simp)⟩⟩
  · have hc : ∀ j, j < 3 * len → ∃ z, w.cell? (a.add j) = some (.int .i64 z) := by
      intro j hj
      have him : j / 3 < m := by rw [hmm]; split <;> omega
      obtain ⟨ys, n, _, _, _, hf⟩ := hi (j / 3) him
      have e : j = j / 3 * 3 + j % 3 := by omega
      have h3 : j % 3 = 0 ∨ j % 3 = 1 ∨ j % 3 = 2 := by omega
      rcases h3 with h3 | h3 | h3
      · obtain ⟨v, y, c1, _, c2⟩ := hf 0 f0 rfl
        obtain ⟨z, hz, _⟩ := DataW.trod_int h0 c2
        simp at hz; subst hz
        exact ⟨z, by rw [e, h3]; exact c1⟩
      · obtain ⟨v, y, c1, _, c2⟩ := hf 1 f1 rfl
        obtain ⟨z, hz, _⟩ := DataW.trod_int h1 c2
        simp at hz; subst hz
        exact ⟨z, by rw [e, h3]; exact c1⟩
      · obtain ⟨v, y, c1, _, c2⟩ := hf 2 f2 rfl
        obtain ⟨z, hz, _⟩ := DataW.trod_int h2 c2
        simp at hz; subst hz
        exact ⟨z, by rw [e, h3]; exact c1⟩
    refine ⟨some a, len, cap, (List.range (3 * len)).map (numAt w a), rfl, ⟨by simp, hl, hm, fun hp => ?_⟩⟩
    have hp' : 0 < 3 * len := by simpa using hp
    obtain ⟨b, off, spot⟩ := a
    obtain ⟨z0, hz0⟩ := hc 0 hp'
    have hspot : spot = none := by simpa [Addr.add] using World.cell?_spot hz0
    subst hspot
    have hadd : ∀ j, (Addr.mk b off none).add j = ⟨b, off + j, none⟩ := fun j => by
      by_cases hj : j = 0
      · subst hj; rfl
      · simp [Addr.add, hj]
    refine ⟨b, off, rfl, ?_, fun j hj => ?_⟩
    · rcases Nat.lt_or_ge b w.heap.size with h' | h'
      · exact h'
      · rw [hadd] at hz0
        simp [World.cell?, Array.getElem?_eq_none (by simpa using h')] at hz0
    · have hj' : j < 3 * len := by simpa using hj
      obtain ⟨z, hz⟩ := hc j hj'
      have : numAt w ⟨b, off, none⟩ j = z := by unfold numAt; rw [hz]
      rw [List.getD_eq_getElem?_getD, List.getElem?_map, List.getElem?_range hj', Option.map_some, Option.getD_some, this, ← hz, hadd]
end
end
section
open Go.RowKit
set_option linter.unusedVariables false
set_option maxHeartbeats 1000000
set_option maxRecDepth 20000
set_option linter.unusedSimpArgs false
attribute [local go_sem] openAt openUpon
/-- f points from the k-th on, b the best so far, h its high end -/
def lpF (A B : Int) (zs : List Int) : Nat → Nat → Int → Int → Int × Bool
  | 0, _, b, _ => (b, true)
  | f + 1, k, b, h =>
    if ptB A B (zs[k * 3]?.getD 0) (zs[k * 3 + 1]?.getD 0) (zs[k * 3 + 2]?.getD 0) = true then
      if beOk (dcV A B) (ptSt A B (zs[k * 3]?.getD 0) (zs[k * 3 + 2]?.getD 0)) = true then
        if k = 0 ∨ bHi (dcV A B) (ptSt A B (zs[k * 3]?.getD 0) (zs[k * 3 + 2]?.getD 0)) (bestN (ptSt A B (zs[k * 3]?.getD 0) (zs[k * 3 + 2]?.getD 0))) < h then lpF A B zs f (k + 1) k (bHi (dcV A B) (ptSt A B (zs[k * 3]?.getD 0) (zs[k * 3 + 2]?.getD 0)) (bestN (ptSt A B (zs[k * 3]?.getD 0) (zs[k * 3 + 2]?.getD 0))))
        else lpF A B zs f (k + 1) b h
      else (0, false)
    else (0, false)
theorem lpF_step {A B : Int} {zs : List Int} {n k : Nat} {b h X Y E : Int} (hk : k < n) (hX : zs[k * 3]?.getD 0 = X) (hY : zs[k * 3 + 1]?.getD 0 = Y) (hE : zs[k * 3 + 2]?.getD 0 = E) :
    (ptB A B X Y E = false ∧ lpF A B zs (n - k) k b h = (0, false)) ∨ (ptB A B X Y E = true ∧ (beOk (dcV A B) (ptSt A B X E) = false ∧ lpF A B zs (n - k) k b h = (0, false) ∨ beOk (dcV A B) (ptSt A B X E) = true ∧
      (k = 0 ∧ lpF A B zs (n - k) k b h = lpF A B zs (n - (k + 1)) (k + 1) k (bHi (dcV A B) (ptSt A B X E) (bestN (ptSt A B X E))) ∨ k ≠ 0 ∧ (bHi (dcV A B) (ptSt A B X E) (bestN (ptSt A B X E)) < h ∧ lpF A B zs (n - k) k b h = lpF A B zs (n - (k + 1)) (k + 1) k (bHi (dcV A B) (ptSt A B X E) (bestN (ptSt A B X E))) ∨
        ¬ bHi (dcV A B) (ptSt A B X E) (bestN (ptSt A B X E)) < h ∧ lpF A B zs (n - k) k b h = lpF A B zs (n - (k + 1)) (k + 1) b h)))) := by
  obtain ⟨f, hf⟩ : ∃ f, n - k = f + 1 := ⟨n - k - 1, by omega⟩
  rw [hf, show n - (k + 1) = f by omega]
  simp only [lpF, hX, hY, hE]
  cases h1 : ptB A B X Y E
  · left; exact ⟨rfl, by simp⟩
  · right; refine ⟨rfl, ?_⟩
    cases h2 : beOk (dcV A B) (ptSt A B X E)
    · left; exact ⟨rfl, by simp⟩
    · right; refine ⟨rfl, ?_⟩
      by_cases h3 : k = 0
      · left; exact ⟨h3, by simp [h3]⟩
      · right; refine ⟨h3, ?_⟩
        by_cases h4 : bHi (dcV A B) (ptSt A B X E) (bestN (ptSt A B X E)) < h
        · left; exact ⟨h4, by simp [h4]⟩
        · right; exact ⟨h4, by simp [h3, h4]⟩
def lpV (A B : Int) (zs : List Int) (n : Nat) : Int × Bool := if (cvB A B && inB n 1 20) = true then lpF A B zs n 0 0 0 else (0, false)
theorem lpV_cases (A B : Int) (zs : List Int) (n : Nat) : (cvB A B = false ∧ lpV A B zs n = (0, false)) ∨ (cvB A B = true ∧ (inB n 1 20 = false ∧ lpV A B zs n = (0, false) ∨ inB n 1 20 = true ∧ lpV A B zs n = lpF A B zs n 0 0 0)) := by
  unfold lpV
  cases h1 : cvB A B
  · left; exact ⟨rfl, by simp⟩
  · right; refine ⟨rfl, ?_⟩
    cases h2 : inB n 1 20
    · left; exact ⟨rfl, by simp⟩
    · right; exact ⟨rfl, by simp⟩
def LsRel (w : World) (A B : Int) (zs : List Int) (gL n : Nat) (r1 : Int) (r2 : Bool) (iv bv : Value) (wr : World) : Prop := ∃ (k : Nat) (b h ln ld : Int), iv = .int .i64 k ∧ bv = .int .i64 b ∧ k ≤ n ∧ lpF A B zs (n - k) k b h = (r1, r2) ∧ (0 < k → ln = mkN h 4096 ∧ ld = mkD h 4096 ∧ 0 ≤ h ∧ h ≤ 14100000) ∧
  wr.heap[w.heap.size]? = some (.cells #[.int .i64 A, .int .i64 B] 28 (0, 0)) ∧ wr.heap[gL]? = some (.cells #[.int .i64 ln, .int .i64 ld] 25 (0, 0)) ∧ Below w.heap.size w wr
theorem sLowestPoint_any (A B : Int) (a : Option Addr) (n c : Nat) (zs : List Int) (w : World) (hp : Px w a n c zs) : Calls Try.prog 49 #[.agg #[.int .i64 A, .int .i64 B], .slice a n c] w fun r w' => r = .returned (.tuple #[.int .i64 (lpV A B zs n).1, .bool (lpV A B zs n).2]) ∧ Below w.heap.size w w' := by
  have T1 := fun W : World => Lib.hid (ecGood_any A B W)
  have T2 := fun W : World => Lib.hid (l1In_any n 1 20 W)
  have hnm := hp.cap
  have hnm2 := hp.max
  unfold maxLen at hnm2
  rcases lpV_cases A B zs n with ⟨h1, e1⟩ | ⟨h1, ⟨h2, e1⟩ | ⟨h2, e1⟩⟩
  · rw [e1]
    rw [h1] at T1
    clear h1 e1
    have tok1 : True := trivial
    go_enter Try.func49, Try.ntmps49
    go_wp2_with (first | (have _t := tok1; go_at_call 53; (with_reducible refine ((T1 _).out).mono ?_); rintro e w1 ⟨rfl, hb1⟩; clear tok1 _t; have hz1 := hb1.size; (try simp only [World.size_alloc, World.size_setCell, World.size_drew, World.size_drewN'] at hz1); (try (have kq := cellAt hb1 (w.heap.size) (by go_size); have k1_w_0_0 := kq 0; have k1_w_0_1 := kq 1; clear kq; have f1_w_0 := frozAt hb1 (w.heap.size) (by go_size); simp [go_sem, *] at k1_w_0_0 k1_w_0_1 f1_w_0)); (try have l1_w_0 : w.heap.size < w1.heap.size := by omega)) | (go_at_call 54; (with_reducible refine ((T2 _).out).mono ?_); rintro e w' ⟨rfl, rfl⟩))
    go_ret2
    refine ⟨rfl, ?_⟩
    repeat' first | (with_reducible first | apply zRf | assumption | apply zDn | apply zDr | apply zAl | apply zSt | refine zVi (by assumption) ?_ ?_) | go_size
  · rw [e1]
    rw [h1] at T1
    rw [h2] at T2
    clear h1 h2 e1
    have tok1 : True := trivial
    go_enter Try.func49, Try.ntmps49
    go_wp2_with (first | (have _t := tok1; go_at_call 53; (with_reducible refine ((T1 _).out).mono ?_); rintro e w1 ⟨rfl, hb1⟩; clear tok1 _t; have hz1 := hb1.size; (try simp only [World.size_alloc, World.size_setCell, World.size_drew, World.size_drewN'] at hz1); (try (have kq := cellAt hb1 (w.heap.size) (by go_size); have k1_w_0_0 := kq 0; have k1_w_0_1 := kq 1; clear kq; have f1_w_0 := frozAt hb1 (w.heap.size) (by go_size); simp [go_sem, *] at k1_w_0_0 k1_w_0_1 f1_w_0)); (try have l1_w_0 : w.heap.size < w1.heap.size := by omega)) | (go_at_call 54; (with_reducible refine ((T2 _).out).mono ?_); rintro e w' ⟨rfl, rfl⟩))
    go_ret2
    refine ⟨rfl, ?_⟩
    repeat' first | (with_reducible first | apply zRf | assumption | apply zDn | apply zDr | apply zAl | apply zSt | refine zVi (by assumption) ?_ ?_) | go_size
  · rw [e1]
    have hb := cvB_bd h1
    have hk := inB_iff.1 h2
    have HCV := Lib.hid h1
    rw [h1] at T1
    rw [h2] at T2
    obtain ⟨r1, r2, hr⟩ : ∃ r1 r2, lpF A B zs n 0 0 0 = (r1, r2) := ⟨_, _, rfl⟩
    rw [hr]
    dsimp only
    have HR := Lib.hid hr
    clear hr h1 h2 e1
    have tok1 : True := trivial
    have tok2 : True := trivial
    have tok3 : True := trivial
    have tok4 : True := trivial
    have tok5 : True := trivial
    have tok6 : True := trivial
    have tok7 : True := trivial
    have tok8 : True := trivial
    go_enter Try.func49, Try.ntmps49
    go_wp2_with (first | (have _t := tok1; go_at_call 53; (with_reducible refine ((T1 _).out).mono ?_); rintro e w1 ⟨rfl, hb1⟩; clear tok1 _t; have hz1 := hb1.size; (try simp only [World.size_alloc, World.size_setCell, World.size_drew, World.size_drewN'] at hz1); (try (have kq := cellAt hb1 (w.heap.size) (by go_size); have k1_w_0_0 := kq 0; have k1_w_0_1 := kq 1; clear kq; have f1_w_0 := frozAt hb1 (w.heap.size) (by go_size); simp [go_sem, *] at k1_w_0_0 k1_w_0_1 f1_w_0)); (try have l1_w_0 : w.heap.size < w1.heap.size := by omega)) | (go_at_call 54; (with_reducible refine ((T2 _).out).mono ?_); rintro e w' ⟨rfl, rfl⟩))
    have hz1' := hb1.size
    simp only [World.size_alloc] at hz1'
    have HC1 : w1.heap[w.heap.size]? = some (.cells #[.int .i64 A, .int .i64 B] 28 (0, 0)) := (hb1.block _ (by go_size)).trans (by (repeat' first | (with_reducible first | assumption | (apply Ne.symm; assumption) | apply Nat.le_refl | apply Nat.le_add_right | apply zL | apply zRf | apply Wx.box | apply Wx.box4 | apply zWa | apply Wx.drew | apply zWn | apply bx_drew | apply bx_drewN | apply bx_set2 | apply bx_set4 | apply bx_set1) | ((with_reducible apply bx_new); (focus (go_size; done))) | (with_reducible first | apply zOl | apply zFa | apply zDn | apply zDr | apply zAl | apply zSt | refine zVi (by assumption) ?_ ?_) | go_size | omega))
    have HB1 : Below w.heap.size w w1 := by
      repeat' first | (with_reducible first | apply zRf | assumption | apply zDn | apply zDr | apply zAl | apply zSt | refine zVi (by assumption) ?_ ?_) | go_size
    generalize hgL : w1.heap.size = gL at *
    have HGL := Lib.hid hgL
    go_loopw [25, 6] (fun iv bv wr => LsRel w A B zs gL n r1 r2 iv bv wr) (fun iv _ _ => (n - intOf iv).toNat)
    case atStart => exact ⟨0, 0, 0, 0, 0, rfl, rfl, by omega, HR.out, fun h => absurd h (by omega), by (repeat' first | (with_reducible first | assumption | (apply Ne.symm; assumption) | apply Nat.le_refl | apply Nat.le_add_right | apply zL | apply zRf | apply Wx.box | apply Wx.box4 | apply zWa | apply Wx.drew | apply zWn | apply bx_drew | apply bx_drewN | apply bx_set2 | apply bx_set4 | apply bx_set1) | ((with_reducible apply bx_new); (focus (go_size; done))) | (with_reducible first | apply zOl | apply zFa | apply zDn | apply zDr | apply zAl | apply zSt | refine zVi (by assumption) ?_ ?_) | go_size | omega), bx_new HGL.out, HB1.alloc (by rw [HGL.out]; omega) _⟩
    case round =>
      clear HC1 HB1 hb1
      obtain ⟨k, b, h, ln, ld, rfl, rfl, hkn, hlp, hln, hC, hL, hbw⟩ := hrel
      by_cases hlt : k < n
      · have hltc : (k : Int) < n := by omega
        obtain ⟨b0, off, rfl, hb0, hcs⟩ := hp.at (by omega)
        have c0 := (hbw.cell (p := ⟨b0, off + k * 3, none⟩) hb0).trans (hcs (k * 3) (by omega))
        have c1 := (hbw.cell (p := ⟨b0, off + k * 3 + 1, none⟩) hb0).trans (hcs (k * 3 + 1) (by omega))
        have c2 := (hbw.cell (p := ⟨b0, off + k * 3 + 2, none⟩) hb0).trans (hcs (k * 3 + 2) (by omega))
        obtain ⟨X, hX⟩ : ∃ v, zs[k * 3]?.getD 0 = v := ⟨_, rfl⟩
        obtain ⟨Y, hY⟩ : ∃ v, zs[k * 3 + 1]?.getD 0 = v := ⟨_, rfl⟩
        obtain ⟨E, hE⟩ : ∃ v, zs[k * 3 + 2]?.getD 0 = v := ⟨_, rfl⟩
        have hstep := lpF_step (A := A) (B := B) (b := b) (h := h) hlt hX hY hE
        rw [hlp] at hstep
        rw [hX] at c0
        rw [hY] at c1
        rw [hE] at c2
        have HS := Lib.hid hstep
        have HLN := Lib.hid hln
        clear hcs hX hY hE hstep hlp hln
        have hsw := hbw.size
        go_upto_region 7 with (fail)
        refine chk (fun W => Below w.heap.size w W ∧ W.heap[w.heap.size]? = some (.cells #[.int .i64 A, .int .i64 B] 28 (0, 0)) ∧ W.heap[gL]? = some (.cells #[.int .i64 ln, .int .i64 ld] 25 (0, 0)) ∧ W.heap[wr.heap.size]? = some (.cells #[.int .i64 X, .int .i64 Y, .int .i64 E] 54 (0, 0))) (by refine ⟨?_, ?_, ?_, ?_⟩ <;> (repeat' first | (with_reducible first | assumption | (apply Ne.symm; assumption) | apply Nat.le_refl | apply Nat.le_add_right | apply zL | apply zRf | apply Wx.box | apply Wx.box4 | apply zWa | apply Wx.drew | apply zWn | apply bx_drew | apply bx_drewN | apply bx_set2 | apply bx_set4 | apply bx_set1) | ((with_reducible apply bx_new); (focus (go_size; done))) | (with_reducible first | apply zOl | apply zFa | apply zDn | apply zDr | apply zAl | apply zSt | refine zVi (by assumption) ?_ ?_) | go_size | omega)) ?_
        rintro w2 ⟨hB2, H_C_2, H_L_2, H_Q_2⟩
        obtain ⟨k_C_2_0, k_C_2_1, f_C_2, l_C_2⟩ := bk2 H_C_2
        replace H_C_2 := Lib.hid H_C_2
        obtain ⟨k_L_2_0, k_L_2_1, f_L_2, l_L_2⟩ := bk2 H_L_2
        replace H_L_2 := Lib.hid H_L_2
        obtain ⟨k_Q_2_0, k_Q_2_1, k_Q_2_2, f_Q_2, l_Q_2⟩ := bk3 H_Q_2
        replace H_Q_2 := Lib.hid H_Q_2
        clear hC hL c0 c1 c2
        have TP0 := fun W => ptOn_any A B X Y E W hb.1 hb.2.1
        rcases HS.out with ⟨g1, g2⟩ | ⟨g1, g3⟩
        · have TP := TP0
          rw [g1] at TP
          have HG := Lib.hid g2
          clear g1 g2 TP0
          go_upto_region 8 with (first | (have _t := tok3; go_at_call 86; (with_reducible refine ((TP _)).mono ?_); rintro e w3 ⟨rfl, hb3⟩; clear tok3 _t; have hz3 := hb3.size; (try simp only [World.size_alloc, World.size_setCell, World.size_drew, World.size_drewN'] at hz3); (try (have kq := cellAt hb3 (w.heap.size) (by go_size); have k3_w_0_0 := kq 0; have k3_w_0_1 := kq 1; clear kq; have f3_w_0 := frozAt hb3 (w.heap.size) (by go_size); simp [go_sem, *] at k3_w_0_0 k3_w_0_1 f3_w_0)); (try have l3_w_0 : w.heap.size < w3.heap.size := by omega); (try (have kq := cellAt hb3 (gL) (by go_size); have k3_gL_0 := kq 0; have k3_gL_1 := kq 1; clear kq; have f3_gL := frozAt hb3 (gL) (by go_size); simp [go_sem, *] at k3_gL_0 k3_gL_1 f3_gL)); (try have l3_gL : gL < w3.heap.size := by omega); (try (have kq := cellAt hb3 (wr.heap.size) (by go_size); have k3_wr_0_0 := kq 0; have k3_wr_0_1 := kq 1; have k3_wr_0_2 := kq 2; clear kq; have f3_wr_0 := frozAt hb3 (wr.heap.size) (by go_size); simp [go_sem, *] at k3_wr_0_0 k3_wr_0_1 k3_wr_0_2 f3_wr_0)); (try have l3_wr_0 : wr.heap.size < w3.heap.size := by omega); (try clear k1_w_0_0 k1_w_0_1 f1_w_0); (try clear l1_w_0); (try clear k1_gL_0 k1_gL_1 f1_gL); (try clear l1_gL); (try clear k1_wr_0_0 k1_wr_0_1 k1_wr_0_2 f1_wr_0); (try clear l1_wr_0); (try clear k2_w_0_0 k2_w_0_1 f2_w_0); (try clear l2_w_0); (try clear k2_gL_0 k2_gL_1 f2_gL); (try clear l2_gL); (try clear k2_wr_0_0 k2_wr_0_1 k2_wr_0_2 f2_wr_0); (try clear l2_wr_0)))
          go_wp2_with fail
          go_ret2
          refine ⟨by have := HG.out; simp only [Prod.mk.injEq] at this; rw [this.1, this.2]; rfl, ?_⟩
          repeat' first | (with_reducible first | apply zRf | assumption | apply zDn | apply zDr | apply zAl | apply zSt | refine zVi (by assumption) ?_ ?_) | go_size
        · have TP := TP0
          rw [g1] at TP
          have hpq : pqB A B X Y E = true := by unfold pqB; rw [HCV.out, g1]; rfl
          have hpb := pq_bd hpq
          have hbb := best_bd hpq
          have TB := fun W => chBest_any A B X Y E W hpb.1 hpb.2.1 hpb.2.2.1 hpb.2.2.2.1 hpb.2.2.2.2
          have hl := be_lit (dcV A B) (ptSt A B X E)
          have HG3 := Lib.hid g3
          clear hpq hpb g1 g3 TP0
          go_upto_region 9 with (first | (have _t := tok3; go_at_call 86; (with_reducible refine ((TP _)).mono ?_); rintro e w3 ⟨rfl, hb3⟩; clear tok3 _t; have hz3 := hb3.size; (try simp only [World.size_alloc, World.size_setCell, World.size_drew, World.size_drewN'] at hz3); (try (have kq := cellAt hb3 (w.heap.size) (by go_size); have k3_w_0_0 := kq 0; have k3_w_0_1 := kq 1; clear kq; have f3_w_0 := frozAt hb3 (w.heap.size) (by go_size); simp [go_sem, *] at k3_w_0_0 k3_w_0_1 f3_w_0)); (try have l3_w_0 : w.heap.size < w3.heap.size := by omega); (try (have kq := cellAt hb3 (gL) (by go_size); have k3_gL_0 := kq 0; have k3_gL_1 := kq 1; clear kq; have f3_gL := frozAt hb3 (gL) (by go_size); simp [go_sem, *] at k3_gL_0 k3_gL_1 f3_gL)); (try have l3_gL : gL < w3.heap.size := by omega); (try (have kq := cellAt hb3 (wr.heap.size) (by go_size); have k3_wr_0_0 := kq 0; have k3_wr_0_1 := kq 1; have k3_wr_0_2 := kq 2; clear kq; have f3_wr_0 := frozAt hb3 (wr.heap.size) (by go_size); simp [go_sem, *] at k3_wr_0_0 k3_wr_0_1 k3_wr_0_2 f3_wr_0)); (try have l3_wr_0 : wr.heap.size < w3.heap.size := by omega); (try clear k1_w_0_0 k1_w_0_1 f1_w_0); (try clear l1_w_0); (try clear k1_gL_0 k1_gL_1 f1_gL); (try clear l1_gL); (try clear k1_wr_0_0 k1_wr_0_1 k1_wr_0_2 f1_wr_0); (try clear l1_wr_0); (try clear k2_w_0_0 k2_w_0_1 f2_w_0); (try clear l2_w_0); (try clear k2_gL_0 k2_gL_1 f2_gL); (try clear l2_gL); (try clear k2_wr_0_0 k2_wr_0_1 k2_wr_0_2 f2_wr_0); (try clear l2_wr_0)))
          have H_C_3 := (hb3.block (w.heap.size) (blk_lt' H_C_2.out)).trans H_C_2.out
          clear k_C_2_0 k_C_2_1 f_C_2 H_C_2
          obtain ⟨k_C_3_0, k_C_3_1, f_C_3, l_C_3⟩ := bk2 H_C_3
          replace H_C_3 := Lib.hid H_C_3
          have H_L_3 := (hb3.block (gL) (blk_lt' H_L_2.out)).trans H_L_2.out
          clear k_L_2_0 k_L_2_1 f_L_2 H_L_2
          obtain ⟨k_L_3_0, k_L_3_1, f_L_3, l_L_3⟩ := bk2 H_L_3
          replace H_L_3 := Lib.hid H_L_3
          have H_Q_3 := (hb3.block (wr.heap.size) (blk_lt' H_Q_2.out)).trans H_Q_2.out
          clear k_Q_2_0 k_Q_2_1 k_Q_2_2 f_Q_2 H_Q_2
          obtain ⟨k_Q_3_0, k_Q_3_1, k_Q_3_2, f_Q_3, l_Q_3⟩ := bk3 H_Q_3
          replace H_Q_3 := Lib.hid H_Q_3
          have hB3 : Below w.heap.size w w3 := below_via hb3 (by assumption) (by go_size)
          clear TP
          generalize bLo (dcV A B) (ptSt A B X E) (bestN (ptSt A B X E)) = lo at *
          generalize bHi (dcV A B) (ptSt A B X E) (bestN (ptSt A B X E)) = hi at *
          generalize bestN (ptSt A B X E) = N at *
          rcases HG3.out with ⟨g1, g2⟩ | ⟨g1, g3⟩
          · rw [g1] at TB
            generalize beN1 (dcV A B) (ptSt A B X E) = p1 at *
            generalize beD1 (dcV A B) (ptSt A B X E) = p2 at *
            generalize beN2 (dcV A B) (ptSt A B X E) = p3 at *
            generalize beD2 (dcV A B) (ptSt A B X E) = p4 at *
            generalize beK (dcV A B) (ptSt A B X E) = p5 at *
            have HG := Lib.hid g2
            clear g1 g2 hl
            go_upto_region 11 with (first | (have _t := tok5; go_at_call 80; (with_reducible refine ((TB _)).mono ?_); rintro e w5 ⟨rfl, hb5⟩; clear tok5 _t; have hz5 := hb5.size; (try simp only [World.size_alloc, World.size_setCell, World.size_drew, World.size_drewN'] at hz5); (try (have kq := cellAt hb5 (w.heap.size) (by go_size); have k5_w_0_0 := kq 0; have k5_w_0_1 := kq 1; clear kq; have f5_w_0 := frozAt hb5 (w.heap.size) (by go_size); simp [go_sem, *] at k5_w_0_0 k5_w_0_1 f5_w_0)); (try have l5_w_0 : w.heap.size < w5.heap.size := by omega); (try (have kq := cellAt hb5 (gL) (by go_size); have k5_gL_0 := kq 0; have k5_gL_1 := kq 1; clear kq; have f5_gL := frozAt hb5 (gL) (by go_size); simp [go_sem, *] at k5_gL_0 k5_gL_1 f5_gL)); (try have l5_gL : gL < w5.heap.size := by omega); (try (have kq := cellAt hb5 (wr.heap.size) (by go_size); have k5_wr_0_0 := kq 0; have k5_wr_0_1 := kq 1; have k5_wr_0_2 := kq 2; clear kq; have f5_wr_0 := frozAt hb5 (wr.heap.size) (by go_size); simp [go_sem, *] at k5_wr_0_0 k5_wr_0_1 k5_wr_0_2 f5_wr_0)); (try have l5_wr_0 : wr.heap.size < w5.heap.size := by omega); (try clear k1_w_0_0 k1_w_0_1 f1_w_0); (try clear l1_w_0); (try clear k1_gL_0 k1_gL_1 f1_gL); (try clear l1_gL); (try clear k1_wr_0_0 k1_wr_0_1 k1_wr_0_2 f1_wr_0); (try clear l1_wr_0); (try clear k2_w_0_0 k2_w_0_1 f2_w_0); (try clear l2_w_0); (try clear k2_gL_0 k2_gL_1 f2_gL); (try clear l2_gL); (try clear k2_wr_0_0 k2_wr_0_1 k2_wr_0_2 f2_wr_0); (try clear l2_wr_0); (try clear k3_w_0_0 k3_w_0_1 f3_w_0); (try clear l3_w_0); (try clear k3_gL_0 k3_gL_1 f3_gL); (try clear l3_gL); (try clear k3_wr_0_0 k3_wr_0_1 k3_wr_0_2 f3_wr_0); (try clear l3_wr_0); (try clear k4_w_0_0 k4_w_0_1 f4_w_0); (try clear l4_w_0); (try clear k4_gL_0 k4_gL_1 f4_gL); (try clear l4_gL); (try clear k4_wr_0_0 k4_wr_0_1 k4_wr_0_2 f4_wr_0); (try clear l4_wr_0)))
            go_wp2_with fail
            go_ret2
            refine ⟨by have := HG.out; simp only [Prod.mk.injEq] at this; rw [this.1, this.2]; rfl, ?_⟩
            repeat' first | (with_reducible first | apply zRf | assumption | apply zDn | apply zDr | apply zAl | apply zSt | refine zVi (by assumption) ?_ ?_) | go_size
          · rw [g1] at TB hl
            simp only [Bool.true_eq_false, false_and, or_false, true_and] at hl
            obtain ⟨hv, e1, e2, e3, e4, e5⟩ := hl
            rw [e1, e2, e3, e4, e5] at TB
            clear hv e1 e2 e3 e4 e5 g1
            generalize mkN lo 4096 = p1 at *
            generalize mkD lo 4096 = p2 at *
            go_upto_region 12 with (first | (have _t := tok5; go_at_call 80; (with_reducible refine ((TB _)).mono ?_); rintro e w5 ⟨rfl, hb5⟩; clear tok5 _t; have hz5 := hb5.size; (try simp only [World.size_alloc, World.size_setCell, World.size_drew, World.size_drewN'] at hz5); (try (have kq := cellAt hb5 (w.heap.size) (by go_size); have k5_w_0_0 := kq 0; have k5_w_0_1 := kq 1; clear kq; have f5_w_0 := frozAt hb5 (w.heap.size) (by go_size); simp [go_sem, *] at k5_w_0_0 k5_w_0_1 f5_w_0)); (try have l5_w_0 : w.heap.size < w5.heap.size := by omega); (try (have kq := cellAt hb5 (gL) (by go_size); have k5_gL_0 := kq 0; have k5_gL_1 := kq 1; clear kq; have f5_gL := frozAt hb5 (gL) (by go_size); simp [go_sem, *] at k5_gL_0 k5_gL_1 f5_gL)); (try have l5_gL : gL < w5.heap.size := by omega); (try (have kq := cellAt hb5 (wr.heap.size) (by go_size); have k5_wr_0_0 := kq 0; have k5_wr_0_1 := kq 1; have k5_wr_0_2 := kq 2; clear kq; have f5_wr_0 := frozAt hb5 (wr.heap.size) (by go_size); simp [go_sem, *] at k5_wr_0_0 k5_wr_0_1 k5_wr_0_2 f5_wr_0)); (try have l5_wr_0 : wr.heap.size < w5.heap.size := by omega); (try clear k1_w_0_0 k1_w_0_1 f1_w_0); (try clear l1_w_0); (try clear k1_gL_0 k1_gL_1 f1_gL); (try clear l1_gL); (try clear k1_wr_0_0 k1_wr_0_1 k1_wr_0_2 f1_wr_0); (try clear l1_wr_0); (try clear k2_w_0_0 k2_w_0_1 f2_w_0); (try clear l2_w_0); (try clear k2_gL_0 k2_gL_1 f2_gL); (try clear l2_gL); (try clear k2_wr_0_0 k2_wr_0_1 k2_wr_0_2 f2_wr_0); (try clear l2_wr_0); (try clear k3_w_0_0 k3_w_0_1 f3_w_0); (try clear l3_w_0); (try clear k3_gL_0 k3_gL_1 f3_gL); (try clear l3_gL); (try clear k3_wr_0_0 k3_wr_0_1 k3_wr_0_2 f3_wr_0); (try clear l3_wr_0); (try clear k4_w_0_0 k4_w_0_1 f4_w_0); (try clear l4_w_0); (try clear k4_gL_0 k4_gL_1 f4_gL); (try clear l4_gL); (try clear k4_wr_0_0 k4_wr_0_1 k4_wr_0_2 f4_wr_0); (try clear l4_wr_0)))
            have H_C_5 := (hb5.block (w.heap.size) (blk_lt' H_C_3.out)).trans H_C_3.out
            clear k_C_3_0 k_C_3_1 f_C_3 H_C_3
            obtain ⟨k_C_5_0, k_C_5_1, f_C_5, l_C_5⟩ := bk2 H_C_5
            replace H_C_5 := Lib.hid H_C_5
            have H_L_5 := (hb5.block (gL) (blk_lt' H_L_3.out)).trans H_L_3.out
            clear k_L_3_0 k_L_3_1 f_L_3 H_L_3
            obtain ⟨k_L_5_0, k_L_5_1, f_L_5, l_L_5⟩ := bk2 H_L_5
            replace H_L_5 := Lib.hid H_L_5
            have H_Q_5 := (hb5.block (wr.heap.size) (blk_lt' H_Q_3.out)).trans H_Q_3.out
            clear k_Q_3_0 k_Q_3_1 k_Q_3_2 f_Q_3 H_Q_3
            obtain ⟨k_Q_5_0, k_Q_5_1, k_Q_5_2, f_Q_5, l_Q_5⟩ := bk3 H_Q_5
            replace H_Q_5 := Lib.hid H_Q_5
            have hB5 : Below w.heap.size w w5 := below_via hb5 (by assumption) (by go_size)
            clear TB
            replace H_C_5 := H_C_5.out
            replace H_L_5 := H_L_5.out
            replace H_Q_5 := H_Q_5.out
            refine chk (fun W => Below w.heap.size w W ∧ W.heap[w.heap.size]? = some (.cells #[.int .i64 A, .int .i64 B] 28 (0, 0)) ∧ W.heap[gL]? = some (.cells #[.int .i64 ln, .int .i64 ld] 25 (0, 0)) ∧ W.heap[w5.heap.size]? = some (.cells #[.int .i64 p1, .int .i64 p2, .int .i64 (mkN hi 4096), .int .i64 (mkD hi 4096)] 65 (0, 0))) (by refine ⟨?_, ?_, ?_, ?_⟩ <;> (repeat' first | (with_reducible first | assumption | (apply Ne.symm; assumption) | apply Nat.le_refl | apply Nat.le_add_right | apply zL | apply zRf | apply Wx.box | apply Wx.box4 | apply zWa | apply Wx.drew | apply zWn | apply bx_drew | apply bx_drewN | apply bx_set2 | apply bx_set4 | apply bx_set1) | ((with_reducible apply bx_new); (focus (go_size; done))) | (with_reducible first | apply zOl | apply zFa | apply zDn | apply zDr | apply zAl | apply zSt | refine zVi (by assumption) ?_ ?_) | go_size | omega)) ?_
            clear k_C_5_0 k_C_5_1 f_C_5 H_C_5
            clear k_L_5_0 k_L_5_1 f_L_5 H_L_5
            clear k_Q_5_0 k_Q_5_1 k_Q_5_2 f_Q_5 H_Q_5
            clear hB5
            rintro w6 ⟨hB6, H_C_6, H_L_6, H_Z_6⟩
            obtain ⟨k_C_6_0, k_C_6_1, f_C_6, l_C_6⟩ := bk2 H_C_6
            replace H_C_6 := Lib.hid H_C_6
            obtain ⟨k_L_6_0, k_L_6_1, f_L_6, l_L_6⟩ := bk2 H_L_6
            replace H_L_6 := Lib.hid H_L_6
            obtain ⟨k_Z_6_0, k_Z_6_1, k_Z_6_2, k_Z_6_3, f_Z_6, l_Z_6⟩ := bk4 H_Z_6
            replace H_Z_6 := Lib.hid H_Z_6
            have hgo : gL ≠ w.heap.size ∧ gL ≠ w5.heap.size := by omega
            have hg1 := hgo.1
            rcases g3 with ⟨rfl, g4⟩ | ⟨g3, ⟨g4, g5⟩ | ⟨g4, g5⟩⟩
            · have HG := Lib.hid g4
              clear g4
              go_wp2_with fail
              go_roundw
              case rel =>
                have q1 := H_C_6.out
                have q2 := H_L_6.out
                exact ⟨0 + 1, 0, hi, _, _, rfl, rfl, by omega, HG.out.symm, fun _ => ⟨rfl, rfl, hbb.2.1, hbb.2.2⟩, by (repeat' first | (with_reducible first | assumption | (apply Ne.symm; assumption) | apply Nat.le_refl | apply Nat.le_add_right | apply zL | apply zRf | apply Wx.box | apply Wx.box4 | apply zWa | apply Wx.drew | apply zWn | apply bx_drew | apply bx_drewN | apply bx_set2 | apply bx_set4 | apply bx_set1) | ((with_reducible apply bx_new); (focus (go_size; done))) | (with_reducible first | apply zOl | apply zFa | apply zDn | apply zDr | apply zAl | apply zSt | refine zVi (by assumption) ?_ ?_) | go_size | omega), by (repeat' first | (with_reducible first | assumption | (apply Ne.symm; assumption) | apply Nat.le_refl | apply Nat.le_add_right | apply zL | apply zRf | apply Wx.box | apply Wx.box4 | apply zWa | apply Wx.drew | apply zWn | apply bx_drew | apply bx_drewN | apply bx_set2 | apply bx_set4 | apply bx_set1) | ((with_reducible apply bx_new); (focus (go_size; done))) | (with_reducible first | apply zOl | apply zFa | apply zDn | apply zDr | apply zAl | apply zSt | refine zVi (by assumption) ?_ ?_) | go_size | omega), by (repeat' first | (with_reducible first | assumption | (apply Ne.symm; assumption) | apply Nat.le_refl | apply Nat.le_add_right | apply zL | apply zRf | apply Wx.box | apply Wx.box4 | apply zWa | apply Wx.drew | apply zWn | apply bx_drew | apply bx_drewN | apply bx_set2 | apply bx_set4 | apply bx_set1) | ((with_reducible apply bx_new); (focus (go_size; done))) | (with_reducible first | apply zOl | apply zFa | apply zDn | apply zDr | apply zAl | apply zSt | refine zVi (by assumption) ?_ ?_) | go_size | omega)⟩
              case measure => simp [intOf]; omega
            · have HG := Lib.hid g5
              have hk0 : ((k : Int) == 0) = false := by simp; omega
              obtain ⟨rfl, rfl, h0, h9⟩ := HLN.out (by omega)
              have TL : ∀ W, Calls Try.prog 81 #[.agg #[.int .i64 (mkN hi 4096), .int .i64 (mkD hi 4096)], .agg #[.int .i64 (mkN h 4096), .int .i64 (mkD h 4096)]] W fun e w' => e = .returned (.bool true) ∧ Below W.heap.size W w' := fun W => by
                have := frLess_mk hi h W (by omega) (by omega)
                rwa [show decide (hi < h) = true by simp [g4]] at this
              clear g4 g5 g3 HLN
              go_upto_region 13 with (first | (have _t := tok7; go_at_call 81; (with_reducible refine ((TL _)).mono ?_); rintro e w7 ⟨rfl, hb7⟩; clear tok7 _t; have hz7 := hb7.size; (try simp only [World.size_alloc, World.size_setCell, World.size_drew, World.size_drewN'] at hz7); (try (have kq := cellAt hb7 (w.heap.size) (by go_size); have k7_w_0_0 := kq 0; have k7_w_0_1 := kq 1; clear kq; have f7_w_0 := frozAt hb7 (w.heap.size) (by go_size); simp [go_sem, *] at k7_w_0_0 k7_w_0_1 f7_w_0)); (try have l7_w_0 : w.heap.size < w7.heap.size := by omega); (try (have kq := cellAt hb7 (gL) (by go_size); have k7_gL_0 := kq 0; have k7_gL_1 := kq 1; clear kq; have f7_gL := frozAt hb7 (gL) (by go_size); simp [go_sem, *] at k7_gL_0 k7_gL_1 f7_gL)); (try have l7_gL : gL < w7.heap.size := by omega); (try (have kq := cellAt hb7 (w5.heap.size) (by go_size); have k7_w5_0_0 := kq 0; have k7_w5_0_1 := kq 1; have k7_w5_0_2 := kq 2; have k7_w5_0_3 := kq 3; clear kq; have f7_w5_0 := frozAt hb7 (w5.heap.size) (by go_size); simp [go_sem, *] at k7_w5_0_0 k7_w5_0_1 k7_w5_0_2 k7_w5_0_3 f7_w5_0)); (try have l7_w5_0 : w5.heap.size < w7.heap.size := by omega); (try clear k3_w_0_0 k3_w_0_1 f3_w_0); (try clear l3_w_0); (try clear k3_gL_0 k3_gL_1 f3_gL); (try clear l3_gL); (try clear k4_w_0_0 k4_w_0_1 f4_w_0); (try clear l4_w_0); (try clear k4_gL_0 k4_gL_1 f4_gL); (try clear l4_gL); (try clear k5_w_0_0 k5_w_0_1 f5_w_0); (try clear l5_w_0); (try clear k5_gL_0 k5_gL_1 f5_gL); (try clear l5_gL); (try clear k6_w_0_0 k6_w_0_1 f6_w_0); (try clear l6_w_0); (try clear k6_gL_0 k6_gL_1 f6_gL); (try clear l6_gL); (try clear k6_w5_0_0 k6_w5_0_1 k6_w5_0_2 k6_w5_0_3 f6_w5_0); (try clear l6_w5_0)))
              have H_C_7 := (hb7.block (w.heap.size) (blk_lt' H_C_6.out)).trans H_C_6.out
              clear k_C_6_0 k_C_6_1 f_C_6 H_C_6
              obtain ⟨k_C_7_0, k_C_7_1, f_C_7, l_C_7⟩ := bk2 H_C_7
              replace H_C_7 := Lib.hid H_C_7
              have H_L_7 := (hb7.block (gL) (blk_lt' H_L_6.out)).trans H_L_6.out
              clear k_L_6_0 k_L_6_1 f_L_6 H_L_6
              obtain ⟨k_L_7_0, k_L_7_1, f_L_7, l_L_7⟩ := bk2 H_L_7
              replace H_L_7 := Lib.hid H_L_7
              have H_Z_7 := (hb7.block (w5.heap.size) (blk_lt' H_Z_6.out)).trans H_Z_6.out
              clear k_Z_6_0 k_Z_6_1 k_Z_6_2 k_Z_6_3 f_Z_6 H_Z_6
              obtain ⟨k_Z_7_0, k_Z_7_1, k_Z_7_2, k_Z_7_3, f_Z_7, l_Z_7⟩ := bk4 H_Z_7
              replace H_Z_7 := Lib.hid H_Z_7
              have hB7 : Below w.heap.size w w7 := below_via hb7 (by assumption) (by go_size)
              have q1 := H_C_7.out
              have q2 := H_L_7.out
              clear TL
              go_wp2_with fail
              go_roundw
              case rel => exact ⟨k + 1, k, hi, _, _, by go_num, rfl, by omega, HG.out.symm, fun _ => ⟨rfl, rfl, hbb.2.1, hbb.2.2⟩, by (repeat' first | (with_reducible first | assumption | (apply Ne.symm; assumption) | apply Nat.le_refl | apply Nat.le_add_right | apply zL | apply zRf | apply Wx.box | apply Wx.box4 | apply zWa | apply Wx.drew | apply zWn | apply bx_drew | apply bx_drewN | apply bx_set2 | apply bx_set4 | apply bx_set1) | ((with_reducible apply bx_new); (focus (go_size; done))) | (with_reducible first | apply zOl | apply zFa | apply zDn | apply zDr | apply zAl | apply zSt | refine zVi (by assumption) ?_ ?_) | go_size | omega), by (repeat' first | (with_reducible first | assumption | (apply Ne.symm; assumption) | apply Nat.le_refl | apply Nat.le_add_right | apply zL | apply zRf | apply Wx.box | apply Wx.box4 | apply zWa | apply Wx.drew | apply zWn | apply bx_drew | apply bx_drewN | apply bx_set2 | apply bx_set4 | apply bx_set1) | ((with_reducible apply bx_new); (focus (go_size; done))) | (with_reducible first | apply zOl | apply zFa | apply zDn | apply zDr | apply zAl | apply zSt | refine zVi (by assumption) ?_ ?_) | go_size | omega), by (repeat' first | (with_reducible first | assumption | (apply Ne.symm; assumption) | apply Nat.le_refl | apply Nat.le_add_right | apply zL | apply zRf | apply Wx.box | apply Wx.box4 | apply zWa | apply Wx.drew | apply zWn | apply bx_drew | apply bx_drewN | apply bx_set2 | apply bx_set4 | apply bx_set1) | ((with_reducible apply bx_new); (focus (go_size; done))) | (with_reducible first | apply zOl | apply zFa | apply zDn | apply zDr | apply zAl | apply zSt | refine zVi (by assumption) ?_ ?_) | go_size | omega)⟩
              case measure => simp [intOf]; omega
            · have HG := Lib.hid g5
              have hk0 : ((k : Int) == 0) = false := by simp; omega
              obtain ⟨rfl, rfl, h0, h9⟩ := HLN.out (by omega)
              have TL : ∀ W, Calls Try.prog 81 #[.agg #[.int .i64 (mkN hi 4096), .int .i64 (mkD hi 4096)], .agg #[.int .i64 (mkN h 4096), .int .i64 (mkD h 4096)]] W fun e w' => e = .returned (.bool false) ∧ Below W.heap.size W w' := fun W => by
                have := frLess_mk hi h W (by omega) (by omega)
                rwa [show decide (hi < h) = false by simp; omega] at this
              clear g4 g5 g3 HLN
              go_upto_region 15 with (first | (have _t := tok7; go_at_call 81; (with_reducible refine ((TL _)).mono ?_); rintro e w7 ⟨rfl, hb7⟩; clear tok7 _t; have hz7 := hb7.size; (try simp only [World.size_alloc, World.size_setCell, World.size_drew, World.size_drewN'] at hz7); (try (have kq := cellAt hb7 (w.heap.size) (by go_size); have k7_w_0_0 := kq 0; have k7_w_0_1 := kq 1; clear kq; have f7_w_0 := frozAt hb7 (w.heap.size) (by go_size); simp [go_sem, *] at k7_w_0_0 k7_w_0_1 f7_w_0)); (try have l7_w_0 : w.heap.size < w7.heap.size := by omega); (try (have kq := cellAt hb7 (gL) (by go_size); have k7_gL_0 := kq 0; have k7_gL_1 := kq 1; clear kq; have f7_gL := frozAt hb7 (gL) (by go_size); simp [go_sem, *] at k7_gL_0 k7_gL_1 f7_gL)); (try have l7_gL : gL < w7.heap.size := by omega); (try (have kq := cellAt hb7 (w5.heap.size) (by go_size); have k7_w5_0_0 := kq 0; have k7_w5_0_1 := kq 1; have k7_w5_0_2 := kq 2; have k7_w5_0_3 := kq 3; clear kq; have f7_w5_0 := frozAt hb7 (w5.heap.size) (by go_size); simp [go_sem, *] at k7_w5_0_0 k7_w5_0_1 k7_w5_0_2 k7_w5_0_3 f7_w5_0)); (try have l7_w5_0 : w5.heap.size < w7.heap.size := by omega); (try clear k3_w_0_0 k3_w_0_1 f3_w_0); (try clear l3_w_0); (try clear k3_gL_0 k3_gL_1 f3_gL); (try clear l3_gL); (try clear k4_w_0_0 k4_w_0_1 f4_w_0); (try clear l4_w_0); (try clear k4_gL_0 k4_gL_1 f4_gL); (try clear l4_gL); (try clear k5_w_0_0 k5_w_0_1 f5_w_0); (try clear l5_w_0); (try clear k5_gL_0 k5_gL_1 f5_gL); (try clear l5_gL); (try clear k6_w_0_0 k6_w_0_1 f6_w_0); (try clear l6_w_0); (try clear k6_gL_0 k6_gL_1 f6_gL); (try clear l6_gL); (try clear k6_w5_0_0 k6_w5_0_1 k6_w5_0_2 k6_w5_0_3 f6_w5_0); (try clear l6_w5_0)))
              have H_C_7 := (hb7.block (w.heap.size) (blk_lt' H_C_6.out)).trans H_C_6.out
              clear k_C_6_0 k_C_6_1 f_C_6 H_C_6
              obtain ⟨k_C_7_0, k_C_7_1, f_C_7, l_C_7⟩ := bk2 H_C_7
              replace H_C_7 := Lib.hid H_C_7
              have H_L_7 := (hb7.block (gL) (blk_lt' H_L_6.out)).trans H_L_6.out
              clear k_L_6_0 k_L_6_1 f_L_6 H_L_6
              obtain ⟨k_L_7_0, k_L_7_1, f_L_7, l_L_7⟩ := bk2 H_L_7
              replace H_L_7 := Lib.hid H_L_7
              have H_Z_7 := (hb7.block (w5.heap.size) (blk_lt' H_Z_6.out)).trans H_Z_6.out
              clear k_Z_6_0 k_Z_6_1 k_Z_6_2 k_Z_6_3 f_Z_6 H_Z_6
              obtain ⟨k_Z_7_0, k_Z_7_1, k_Z_7_2, k_Z_7_3, f_Z_7, l_Z_7⟩ := bk4 H_Z_7
              replace H_Z_7 := Lib.hid H_Z_7
              have hB7 : Below w.heap.size w w7 := below_via hb7 (by assumption) (by go_size)
              have q1 := H_C_7.out
              have q2 := H_L_7.out
              clear TL
              go_wp2_with fail
              go_roundw
              case rel => exact ⟨k + 1, b, h, _, _, by go_num, rfl, by omega, HG.out.symm, fun _ => ⟨rfl, rfl, h0, h9⟩, by (repeat' first | (with_reducible first | assumption | (apply Ne.symm; assumption) | apply Nat.le_refl | apply Nat.le_add_right | apply zL | apply zRf | apply Wx.box | apply Wx.box4 | apply zWa | apply Wx.drew | apply zWn | apply bx_drew | apply bx_drewN | apply bx_set2 | apply bx_set4 | apply bx_set1) | ((with_reducible apply bx_new); (focus (go_size; done))) | (with_reducible first | apply zOl | apply zFa | apply zDn | apply zDr | apply zAl | apply zSt | refine zVi (by assumption) ?_ ?_) | go_size | omega), by (repeat' first | (with_reducible first | assumption | (apply Ne.symm; assumption) | apply Nat.le_refl | apply Nat.le_add_right | apply zL | apply zRf | apply Wx.box | apply Wx.box4 | apply zWa | apply Wx.drew | apply zWn | apply bx_drew | apply bx_drewN | apply bx_set2 | apply bx_set4 | apply bx_set1) | ((with_reducible apply bx_new); (focus (go_size; done))) | (with_reducible first | apply zOl | apply zFa | apply zDn | apply zDr | apply zAl | apply zSt | refine zVi (by assumption) ?_ ?_) | go_size | omega), by (repeat' first | (with_reducible first | assumption | (apply Ne.symm; assumption) | apply Nat.le_refl | apply Nat.le_add_right | apply zL | apply zRf | apply Wx.box | apply Wx.box4 | apply zWa | apply Wx.drew | apply zWn | apply bx_drew | apply bx_drewN | apply bx_set2 | apply bx_set4 | apply bx_set1) | ((with_reducible apply bx_new); (focus (go_size; done))) | (with_reducible first | apply zOl | apply zFa | apply zDn | apply zDr | apply zAl | apply zSt | refine zVi (by assumption) ?_ ?_) | go_size | omega)⟩
              case measure => simp [intOf]; omega
      · obtain rfl : k = n := by omega
        have HG := Lib.hid (show (b, true) = (r1, r2) by rw [← hlp, Nat.sub_self]; rfl)
        clear hlp hC hL
        go_wp2_with fail
        go_ret2
        refine ⟨by have := HG.out; simp only [Prod.mk.injEq] at this; rw [this.1, this.2]; rfl, ?_⟩
        repeat' first | (with_reducible first | apply zRf | assumption | apply zDn | apply zDr | apply zAl | apply zSt | refine zVi (by assumption) ?_ ?_) | go_size
end
end Go.Proofs.Ytfbegjiebahdcaa
