/- Lists of points in memory: the laws' copies and comparisons. -/
import Derived.Test.YtdcbpgpjiacomaaDoorSl
import Derived.Test.YtdcbpgpjiacomaaDoorToL
namespace Go.Proofs.YtdcbpgpjiacomaaDoor
open Go.RowKit
set_option linter.unusedVariables false
set_option maxHeartbeats 1000000
set_option maxRecDepth 20000
set_option linter.unusedSimpArgs false
attribute [local go_sem] openAt openUpon
theorem infoPoint : (Tryd.prog.info? 93).map (fun i => (i.zero, i.size, i.bytes)) = some (some (.agg #[.int .i64 0, .int .i64 0, .int .i64 0]), 3, 24) := by kernel_rfl
/-- the slice of address a, length n, capacity c holds the points whose numbers are zs, three a point -/
structure Px (W : World) (a : Option Addr) (n c : Nat) (zs : List Int) : Prop where
  len : zs.length = 3 * n
  cap : n ≤ c
  max : c ≤ maxLen
  row : SlA W a zs
theorem Px.below {W W2 : World} {a : Option Addr} {n c : Nat} {zs : List Int} (h : Px W a n c zs) (hb : Below W.heap.size W W2) : Px W2 a n c zs := ⟨h.len, h.cap, h.max, h.row.below hb⟩
theorem Px.at {W : World} {a : Option Addr} {n c : Nat} {zs : List Int} (h : Px W a n c zs) (h0 : 0 < n) : ∃ b off, a = some ⟨b, off, Option.none⟩ ∧ b < W.heap.size ∧ ∀ j, j < 3 * n → W.cell? ⟨b, off + j, Option.none⟩ = some (.int .i64 (zs[j]?.getD 0)) := by
  obtain ⟨b, off, h1, h2, h3⟩ := h.row (by rw [h.len]; omega)
  refine ⟨b, off, h1, h2, fun j hj => ?_⟩
  have := h3 j (by rw [h.len]; exact hj)
  rwa [List.getD_eq_getElem?_getD] at this
theorem Px.of_row {W : World} {g n : Nat} {zs : List Int} {T : TypeId} (hk : W.heap[g]? = some (.cells (ints zs).toArray T (0, 0))) (hn : zs.length = 3 * n) (hm : n ≤ maxLen) : Px W (some ⟨g, 0, Option.none⟩) n n zs :=
  ⟨hn, Nat.le_refl _, hm, fun _ => ⟨g, 0, rfl, blk_lt' hk, fun j hj => by rw [cell_of_row W g (0 + j) _ T (0, 0) hk, Nat.zero_add]; simpa using ints_at zs j hj⟩⟩
theorem pt_zeros (n : Nat) : (madeCells (Value.agg #[.int .i64 0, .int .i64 0, .int .i64 0]).cells (n * 3)).toList = ints (List.replicate (3 * n) 0) := by
  apply List.ext_getElem?
  intro i
  by_cases hi : i < n * 3
  · have hi2 : i < 3 * n := by omega
    have h3 : i % 3 = 0 ∨ i % 3 = 1 ∨ i % 3 = 2 := by omega
    rcases h3 with h | h | h <;> simp [madeCells, ints, Value.cells, List.getElem?_replicate, hi, hi2, h]
  · have hi2 : ¬ i < 3 * n := by omega
    simp [madeCells, ints, Value.cells, List.getElem?_replicate, hi, hi2]
theorem made_points {W W' : World} {base : Nat} {T : TypeId} {n : Nat} (h : W'.ownsRow base T 3 (.slice (some ⟨W.heap.size, 0, none⟩) n n) n (madeCells (Value.agg #[.int .i64 0, .int .i64 0, .int .i64 0]).cells (n * 3)).toList) :
    W'.heap[W.heap.size]? = some (.cells (ints (List.replicate (3 * n) 0)).toArray T (0, 0)) := by
  rw [pt_zeros] at h
  obtain ⟨hl, h⟩ := h
  rcases h with ⟨h, _⟩ | ⟨g, c, cur, hv, hB, hg, hnc, hcm, hcs, ht⟩
  · cases h
  · simp only [Value.slice.injEq, Option.some.injEq, Addr.mk.injEq, and_true, true_and] at hv
    obtain ⟨rfl, rfl⟩ := hv
    rw [hg]
    rw [List.take_of_length_le (by simp [hcs])] at ht
    rw [← ht]
theorem row_free {W : World} {g : Nat} {zs : List Int} {T : TypeId} (h : W.heap[g]? = some (.cells (ints zs).toArray T (0, 0))) (o : Nat) : W.frozen? ⟨g, o, none⟩ = false := by simp [World.frozen?, h]
theorem pts_next {zs qs : List Int} {k n : Nat} (hz : zs.length = 3 * n) (hq : qs.length = 3 * n) (hk : k < n) (h : ∀ j, j < 3 * k → qs[j]? = zs[j]?) :
    ∀ j, j < 3 * (k + 1) → (((qs.set (k * 3) (zs[k * 3]?.getD 0)).set (k * 3 + 1) (zs[k * 3 + 1]?.getD 0)).set (k * 3 + 2) (zs[k * 3 + 2]?.getD 0))[j]? = zs[j]? := by
  intro j hj
  simp only [List.getElem?_set]
  by_cases h2 : j = k * 3 + 2
  · subst h2; simp [hq, show k * 3 + 2 < 3 * n by omega, hz]
  · by_cases h1 : j = k * 3 + 1
    · subst h1; simp [hq, show k * 3 + 1 < 3 * n by omega, hz]
    · by_cases h0 : j = k * 3
      · subst h0; simp [hq, show k * 3 < 3 * n by omega, hz]
      · rw [if_neg (by omega), if_neg (by omega), if_neg (by omega)]
        exact h j (by omega)
theorem pts_all {zs qs : List Int} {n : Nat} (hz : zs.length = 3 * n) (hq : qs.length = 3 * n) (h : ∀ j, j < 3 * n → qs[j]? = zs[j]?) : qs = zs := by
  apply List.ext_getElem?
  intro j
  by_cases hj : j < 3 * n
  · exact h j hj
  · rw [List.getElem?_eq_none (by omega), List.getElem?_eq_none (by omega)]
def CpRel (w : World) (T : TypeId) (zs : List Int) (n : Nat) (iv : Value) (wr : World) : Prop := ∃ (k : Nat) (qs : List Int), iv = .int .i64 k ∧ k ≤ n ∧ qs.length = 3 * n ∧ (∀ j, j < 3 * k → qs[j]? = zs[j]?) ∧ wr.heap[w.heap.size]? = some (.cells (ints qs).toArray T (0, 0)) ∧ Below w.heap.size w wr
theorem toPointS_any (a : Option Addr) (n c : Nat) (zs : List Int) (w : World) (h : Px w a n c zs) (hn : n ≤ 1048576) : Calls Tryd.prog 31 #[.slice a n c] w fun e w' =>
    e = .returned (.slice (some ⟨w.heap.size, 0, none⟩) n n) ∧ Px w' (some ⟨w.heap.size, 0, none⟩) n n zs ∧ w.heap.size < w'.heap.size ∧ Below w.heap.size w w' := by
  obtain ⟨i0, hi, hz0, hz1, hz2⟩ := info_parts infoPoint
  have hln := Lib.hid h.len
  have hnm : n ≤ maxLen := by unfold maxLen; omega
  have tok1 : True := trivial
  go_enter Tryd.func31, Tryd.ntmps31
  go_wp2_with (first | (at_make; refine wpList_make_full _ rfl _ _ 33 rfl w.heap.size 93 i0 (.agg #[.int .i64 0, .int .i64 0, .int .i64 0]) 3 Tryd.underlying33 hi hz0 hz1 .i64 .i64 _ _ n rfl rfl rfl rfl (by rw [hz2]; omega) (by unfold maxLen; omega) (by simp) ?_; intro W0 hm0 hg0; have hr0 := made_points hm0; have hb0 := made_below (B := w.heap.size) (a := w) (by repeat' first | (with_reducible first | apply zRf | assumption | apply zDn | apply zDr | apply zAl | apply zSt | refine zVi (by assumption) ?_ ?_) | go_size) hg0 (by simp; try omega); clear hm0 hg0))
  go_loopw [4] (fun iv wr => CpRel w 93 zs n iv wr) (fun iv _ => (n - intOf iv).toNat)
  case atStart => exact ⟨0, List.replicate (3 * n) 0, rfl, by omega, by simp, fun j hj => by omega, hr0, hb0⟩
  case round =>
    obtain ⟨k, qs, rfl, hk, hq, hp, hrow, hbw⟩ := hrel
    have hsw := hbw.size
    have HP := Lib.hid hp
    have HQ := Lib.hid hq
    clear hp hq
    by_cases h0 : k < n
    · obtain ⟨b, off, rfl, hb, hcs⟩ := h.at (by omega)
      have c0 := (hbw.cell (p := ⟨b, off + k * 3, none⟩) hb).trans (hcs (k * 3) (by omega))
      have c1 := (hbw.cell (p := ⟨b, off + k * 3 + 1, none⟩) hb).trans (hcs (k * 3 + 1) (by omega))
      have c2 := (hbw.cell (p := ⟨b, off + k * 3 + 2, none⟩) hb).trans (hcs (k * 3 + 2) (by omega))
      have hk2 : (k : Int) < (n : Int) := by omega
      clear hcs
      go_wp2_with (first | (have _t := tok1; go_at_call 65; refine (toPoint_any _ _ _ _).mono ?_; rintro e w1 ⟨rfl, hb1⟩; clear tok1 _t; have hz1 := hb1.size; (try simp only [World.size_alloc, World.size_setCell, World.size_drew, World.size_drewN'] at hz1); have hr1 := (hb1.block _ (blk_lt' hrow)).trans hrow; have d0 := row_at hr1 (j := k * 3) (by have := HQ.out; omega); have d1 := row_at hr1 (j := k * 3 + 1) (by have := HQ.out; omega); have d2 := row_at hr1 (j := k * 3 + 2) (by have := HQ.out; omega); have d3 := fun o => row_free hr1 o))
      go_roundw
      case rel => exact ⟨k + 1, _, by go_num, by omega, by simp [HQ.out], pts_next hln.out HQ.out h0 HP.out, row_set (row_set (row_set hr1 _ _) _ _) _ _, by repeat' first | (with_reducible first | apply zRf | assumption | apply zDn | apply zDr | apply zAl | apply zSt | refine zVi (by assumption) ?_ ?_) | go_size⟩
      case measure => simp [intOf]; omega
    · obtain rfl : k = n := by omega
      go_wp2_with (first | (have _t := tok1; go_at_call 65; refine (toPoint_any _ _ _ _).mono ?_; rintro e w1 ⟨rfl, hb1⟩; clear tok1 _t; have hz1 := hb1.size; (try simp only [World.size_alloc, World.size_setCell, World.size_drew, World.size_drewN'] at hz1); have hr1 := (hb1.block _ (blk_lt' hrow)).trans hrow; have d0 := row_at hr1 (j := k * 3) (by have := HQ.out; omega); have d1 := row_at hr1 (j := k * 3 + 1) (by have := HQ.out; omega); have d2 := row_at hr1 (j := k * 3 + 2) (by have := HQ.out; omega); have d3 := fun o => row_free hr1 o))
      go_ret
      refine ⟨rfl, ?_⟩
      have e := pts_all hln.out HQ.out HP.out
      subst e
      exact ⟨Px.of_row hrow HQ.out hnm, blk_lt' hrow, hbw⟩
theorem eqPoint_same (x y z : Int) (w : World) : Calls Tryd.prog 70 #[.agg #[.int .i64 x, .int .i64 y, .int .i64 z], .agg #[.int .i64 x, .int .i64 y, .int .i64 z]] w fun e w' => e = .returned (.bool true) ∧ Below w.heap.size w w' := by
  have e1 : (x != x) = false := by simp
  have e2 : (y != y) = false := by simp
  have e3 : (z != z) = false := by simp
  go_enter Tryd.func70, Tryd.ntmps70
  go_wp2
  go_ret
  refine ⟨rfl, ?_⟩
  repeat' first | (with_reducible first | apply zRf | assumption | apply zDn | apply zDr | apply zAl | apply zSt | refine zVi (by assumption) ?_ ?_) | go_size
theorem eqPointS_same (a a2 : Option Addr) (n c n2 c2 : Nat) (zs : List Int) (w : World) (h : Px w a n c zs) (h2 : Px w a2 n2 c2 zs) : Calls Tryd.prog 36 #[.slice a n c, .slice a2 n2 c2] w fun e w' => e = .returned (.bool true) ∧ Below w.heap.size w w' := by
  have hln := Lib.hid h.len
  obtain rfl : n2 = n := by have := h2.len; have := hln.out; omega
  have hnm := h.cap
  have hnm2 := h.max
  unfold maxLen at hnm2
  have e1 : ((n2 : Int) != (n2 : Int)) = false := by simp
  go_enter Tryd.func36, Tryd.ntmps36
  go_wp2_with fail
  go_loopw [5] (fun iv wr => ∃ k : Nat, iv = .int .i64 k ∧ k ≤ n2 ∧ Below w.heap.size w wr) (fun iv _ => (n2 - intOf iv).toNat)
  case atStart => exact ⟨0, rfl, by omega, Below.refl _ _⟩
  case round =>
    obtain ⟨k, rfl, hk, hbw⟩ := hrel
    have hsw := hbw.size
    by_cases h0 : k < n2
    · obtain ⟨b, off, rfl, hb, hcs⟩ := h.at (by omega)
      obtain ⟨b2, off2, rfl, hb2, hcs2⟩ := h2.at (by omega)
      have c0 := (hbw.cell (p := ⟨b, off + k * 3, none⟩) hb).trans (hcs (k * 3) (by omega))
      have c1 := (hbw.cell (p := ⟨b, off + k * 3 + 1, none⟩) hb).trans (hcs (k * 3 + 1) (by omega))
      have c2 := (hbw.cell (p := ⟨b, off + k * 3 + 2, none⟩) hb).trans (hcs (k * 3 + 2) (by omega))
      have f0 := (hbw.cell (p := ⟨b2, off2 + k * 3, none⟩) hb2).trans (hcs2 (k * 3) (by omega))
      have f1 := (hbw.cell (p := ⟨b2, off2 + k * 3 + 1, none⟩) hb2).trans (hcs2 (k * 3 + 1) (by omega))
      have f2 := (hbw.cell (p := ⟨b2, off2 + k * 3 + 2, none⟩) hb2).trans (hcs2 (k * 3 + 2) (by omega))
      have hk2 : (k : Int) < (n2 : Int) := by omega
      clear hcs hcs2
      generalize zs[k * 3]?.getD 0 = x at *
      generalize zs[k * 3 + 1]?.getD 0 = y at *
      generalize zs[k * 3 + 2]?.getD 0 = z at *
      go_wp2_with fail
      refine wp_open (n := 9) (by kernel_rfl) (by kernel_rfl) (by kernel_rfl) (by kernel_rfl) ?_
      simp only [List.take_succ_cons, List.take_zero]
      apply wpS_quiet
      · intro γ W hW hp
        refine ⟨rfl, ?_⟩
        go_big_quiet_op
        first | exact rfl
      · exact locS_const _
      try simp only [Act.put, List.setIfInBounds_toArray, List.set_cons_succ, List.set_cons_zero, Nat.reduceAdd]
      apply wpS_quiet
      · intro γ W hW hp
        refine ⟨rfl, ?_⟩
        go_big_quiet_op
        first | exact rfl
      · exact locS_const _
      try simp only [Act.put, List.setIfInBounds_toArray, List.set_cons_succ, List.set_cons_zero, Nat.reduceAdd]
      apply wpS_quiet
      · intro γ W hW hp
        have hs := hW.size
        (try simp only [World.size_alloc, World.size_setCell, World.size_drew, World.size_drewN'] at hs)
        clear hW hp
        refine ⟨rfl, ?_⟩
        go_big_quiet_op
        first | exact rfl
      · exact locS_const _
      try simp only [Act.put, List.setIfInBounds_toArray, List.set_cons_succ, List.set_cons_zero, Nat.reduceAdd]
      apply wpS_quiet
      · intro γ W hW hp
        have hs0 := hW.size; have q0 := fun x : Over W => (cellAt x.lies b (by omega) (off + k * 3)).trans ((cellAt hW b (by omega) (off + k * 3)).trans c0); have q1 := fun x : Over W => (cellAt x.lies b (by omega) (off + k * 3 + 1)).trans ((cellAt hW b (by omega) (off + k * 3 + 1)).trans c1); have q2 := fun x : Over W => (cellAt x.lies b (by omega) (off + k * 3 + 2)).trans ((cellAt hW b (by omega) (off + k * 3 + 2)).trans c2)
        have hs := hW.size
        (try simp only [World.size_alloc, World.size_setCell, World.size_drew, World.size_drewN'] at hs)
        clear hW hp
        refine ⟨rfl, ?_⟩
        go_big_quiet_op
        first | exact rfl
      · exact locS_const _
      try simp only [Act.put, List.setIfInBounds_toArray, List.set_cons_succ, List.set_cons_zero, Nat.reduceAdd]
      apply wpS_quiet
      · intro γ W hW hp
        refine ⟨rfl, ?_⟩
        go_big_quiet_op
        first | exact rfl
      · exact locS_const _
      try simp only [Act.put, List.setIfInBounds_toArray, List.set_cons_succ, List.set_cons_zero, Nat.reduceAdd]
      apply wpS_quiet
      · intro γ W hW hp
        refine ⟨rfl, ?_⟩
        go_big_quiet_op
        first | exact rfl
      · exact locS_const _
      try simp only [Act.put, List.setIfInBounds_toArray, List.set_cons_succ, List.set_cons_zero, Nat.reduceAdd]
      apply wpS_quiet
      · intro γ W hW hp
        have hs := hW.size
        (try simp only [World.size_alloc, World.size_setCell, World.size_drew, World.size_drewN'] at hs)
        clear hW hp
        refine ⟨rfl, ?_⟩
        go_big_quiet_op
        first | exact rfl
      · exact locS_const _
      try simp only [Act.put, List.setIfInBounds_toArray, List.set_cons_succ, List.set_cons_zero, Nat.reduceAdd]
      apply wpS_quiet
      · intro γ W hW hp
        have hs0 := hW.size; have q0 := fun x : Over W => (cellAt x.lies b2 (by omega) (off2 + k * 3)).trans ((cellAt hW b2 (by omega) (off2 + k * 3)).trans f0); have q1 := fun x : Over W => (cellAt x.lies b2 (by omega) (off2 + k * 3 + 1)).trans ((cellAt hW b2 (by omega) (off2 + k * 3 + 1)).trans f1); have q2 := fun x : Over W => (cellAt x.lies b2 (by omega) (off2 + k * 3 + 2)).trans ((cellAt hW b2 (by omega) (off2 + k * 3 + 2)).trans f2)
        have hs := hW.size
        (try simp only [World.size_alloc, World.size_setCell, World.size_drew, World.size_drewN'] at hs)
        clear hW hp
        refine ⟨rfl, ?_⟩
        go_big_quiet_op
        first | exact rfl
      · exact locS_const _
      try simp only [Act.put, List.setIfInBounds_toArray, List.set_cons_succ, List.set_cons_zero, Nat.reduceAdd]
      apply wpS_quiet
      · intro γ W hW hp
        refine ⟨rfl, ?_⟩
        go_big_quiet_op
        apply Exists.intro
        refine ⟨fun x => ?_, ?_⟩
        · (first | (go_at_call 70; exact draw_of _ (eqPoint_same _ _ _ _)))
        exact rfl
      · exact locS_const _
      try simp only [Act.put, List.setIfInBounds_toArray, List.set_cons_succ, List.set_cons_zero, Nat.reduceAdd]
      apply wpS_end
      intro γ w1 hb1 hG1 hA1
      clear hG1 hA1
      simp only [List.drop_succ_cons, List.drop_zero]
      have hz1 := hb1.size
      (try simp only [World.size_alloc, World.size_setCell, World.size_drew, World.size_drewN'] at hz1)
      go_wp2_with fail
      go_roundw
      case rel => exact ⟨k + 1, by go_num, by omega, by repeat' first | (with_reducible first | apply zRf | assumption | apply zDn | apply zDr | apply zAl | apply zSt | refine zVi (by assumption) ?_ ?_) | go_size⟩
      case measure => simp [intOf]; omega
    · obtain rfl : k = n2 := by omega
      go_wp2_with fail
      go_ret
      exact ⟨rfl, hbw⟩
theorem szPointS_any (a : Option Addr) (n c : Nat) (left : Int) (w : World) (hn : n ≤ maxLen) (h1 : 0 ≤ left) (h2 : left ≤ 1048576) : Calls Tryd.prog 27 #[.slice a n c, .int .i64 left] w fun e w' => e = .returned (.int .i64 (if left - n < 0 then -1 else left - n)) ∧ w = w' := by
  unfold maxLen at hn
  by_cases h : left - n < 0
  · rw [if_pos h]
    go_enter Tryd.func27, Tryd.ntmps27
    go_wp2_with fail
    go_ret
    exact ⟨rfl, rfl⟩
  · rw [if_neg h]
    go_enter Tryd.func27, Tryd.ntmps27
    go_wp2_with fail
    go_ret
    exact ⟨rfl, rfl⟩
end Go.Proofs.YtdcbpgpjiacomaaDoor
