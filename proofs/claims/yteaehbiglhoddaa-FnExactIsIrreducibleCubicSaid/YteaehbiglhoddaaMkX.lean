/- Rows of structs of integers: comparing, marking and finding the marks again (the copies in the laws). -/
import Derived.Test.YteaehbiglhoddaaMk
import Derived.Test.YteaehbiglhoddaaDrawn
import Derived.Deep.RegionHeld3
import Derived.BigQuiet
namespace Go.Proofs.Yteaehbiglhoddaa
open Go.RowKit
set_option linter.unusedVariables false
set_option maxHeartbeats 4000000
set_option maxRecDepth 20000
set_option linter.unusedSimpArgs false
/-- the cells of block g from 0 on hold the integers zs, none of them frozen -/
def RowX (W : World) (g : Nat) (zs : List Int) : Prop := g < W.heap.size ∧ ∀ j, j < zs.length → W.cell? ⟨g, j, none⟩ = some (.int .i64 (zs[j]?.getD 0)) ∧ W.frozen? ⟨g, j, none⟩ = false
theorem frozen_set (W : World) (p q : Addr) (x : Value) : (W.setCell p x).frozen? q = W.frozen? q := by
  by_cases h : p.block = q.block
  · unfold World.frozen? World.setCell
    simp only [Array.getElem?_modify, if_pos h]
    cases W.heap[q.block]? with
    | none => rfl
    | some o => cases o <;> rfl
  · exact World.frozen?_of_block (Below.heap_setCell W p x q.block (fun e => h e.symm))
theorem RowX.set {W : World} {g : Nat} {zs : List Int} (h : RowX W g zs) {i : Nat} (hi : i < zs.length) (x : Int) : RowX (W.setCell ⟨g, i, none⟩ (.int .i64 x)) g (zs.set i x) := by
  refine ⟨by simpa [World.setCell] using h.1, fun j hj => ?_⟩
  rw [List.length_set] at hj
  refine ⟨?_, (frozen_set _ _ _ _).trans (h.2 j hj).2⟩
  rw [List.getElem?_set]
  by_cases e : i = j
  · subst e
    rw [if_pos rfl, if_pos hi]
    exact World.cell?_setCell_same W ⟨g, i, none⟩ _ (h.2 i hi).1
  · rw [if_neg e]
    refine (World.cell?_setCell_other W ⟨g, i, none⟩ ⟨g, j, none⟩ _ (fun q => e (by injection q))).trans (h.2 j hj).1
theorem RowX.keep {W V : World} {g : Nat} {zs : List Int} (h : RowX W g zs) (hs : W.heap.size ≤ V.heap.size) (hk : V.heap[g]? = W.heap[g]?) : RowX V g zs :=
  ⟨Nat.lt_of_lt_of_le h.1 hs, fun j hj => ⟨(World.cell?_of_block (a := ⟨g, j, none⟩) hk).trans (h.2 j hj).1, (World.frozen?_of_block (a := ⟨g, j, none⟩) hk).trans (h.2 j hj).2⟩⟩
theorem RowX.via {W V : World} {g : Nat} {zs : List Int} (h : RowX W g zs) (hb : Below W.heap.size W V) : RowX V g zs := h.keep hb.size (hb.block g h.1)
/-- a slice of n structs of s integers each, above block B -/
def SlX (W : World) (B s : Nat) (v : Value) (n : Nat) (zs : List Int) : Prop := zs.length = s * n ∧ ((v = .slice none 0 0 ∧ n = 0) ∨ ∃ g cap, v = .slice (some ⟨g, 0, none⟩) n cap ∧ n ≤ cap ∧ cap ≤ maxLen ∧ B ≤ g ∧ RowX W g zs)
theorem SlX.via {W V : World} {B s : Nat} {v : Value} {n : Nat} {zs : List Int} (h : SlX W B s v n zs) (hb : Below W.heap.size W V) : SlX V B s v n zs := ⟨h.1, h.2.imp id fun ⟨g, cap, h1, h2, h3, h4, h5⟩ => ⟨g, cap, h1, h2, h3, h4, h5.via hb⟩⟩
theorem SlX.low {W : World} {B B' s : Nat} {v : Value} {n : Nat} {zs : List Int} (h : SlX W B s v n zs) (hB : B' ≤ B) : SlX W B' s v n zs := ⟨h.1, h.2.imp id fun ⟨g, cap, h1, h2, h3, h4, h5⟩ => ⟨g, cap, h1, h2, h3, Nat.le_trans hB h4, h5⟩⟩
theorem SlX.shape {W : World} {B s : Nat} {v : Value} {n : Nat} {zs : List Int} (h : SlX W B s v n zs) : ∃ a c, v = .slice a n c := by
  rcases h.2 with ⟨rfl, rfl⟩ | ⟨g, cap, rfl, _⟩
  · exact ⟨_, _, rfl⟩
  · exact ⟨_, _, rfl⟩
theorem SlX.keep {W V : World} {B s : Nat} {v : Value} {n : Nat} {zs : List Int} (h : SlX W B s v n zs) (hs : W.heap.size ≤ V.heap.size) (hk : ∀ i, i < W.heap.size → some i = v.ownBlock → V.heap[i]? = W.heap[i]?) : SlX V B s v n zs := by
  refine ⟨h.1, h.2.imp id ?_⟩
  rintro ⟨g, cap, rfl, h2, h3, h4, h5⟩
  exact ⟨g, cap, rfl, h2, h3, h4, h5.keep hs (hk g h5.1 rfl)⟩
theorem SlX.apart {W : World} {B s : Nat} {v : Value} {n : Nat} {zs : List Int} (h : SlX W B s v n zs) : ∀ i, some i = v.ownBlock → B ≤ i := by
  intro i e
  rcases h.2 with ⟨rfl, -⟩ | ⟨g, cap, rfl, -, -, hB, -⟩
  · simp [Value.ownBlock] at e
  · simp [Value.ownBlock] at e; omega
theorem SlX.lt {W : World} {B s : Nat} {v : Value} {n : Nat} {zs : List Int} (h : SlX W B s v n zs) : ∀ i, some i = v.ownBlock → i < W.heap.size := by
  intro i e
  rcases h.2 with ⟨rfl, -⟩ | ⟨g, cap, rfl, -, -, -, h5⟩
  · simp [Value.ownBlock] at e
  · simp [Value.ownBlock] at e; have := h5.1; omega
theorem marks_set2 {k : Int} {qs : List Int} {n j : Nat} (hl : qs.length = n) (hj : j + 1 < n) (h : qs.take j = marks k j) : ((qs.set j (k + j)).set (j + 1) (k + (j + 1))).take (j + 1 + 1) = marks k (j + 1 + 1) := by
  have h1 := marks_set hl (by omega) h
  have := marks_set (k := k) (qs := qs.set j (k + j)) (n := n) (j := j + 1) (by simpa using hl) hj h1
  simpa using this
theorem marks_set3 {k : Int} {qs : List Int} {n j : Nat} (hl : qs.length = n) (hj : j + 2 < n) (h : qs.take j = marks k j) : (((qs.set j (k + j)).set (j + 1) (k + (j + 1))).set (j + 2) (k + (j + 2))).take (j + 2 + 1) = marks k (j + 2 + 1) := by
  have h1 := marks_set2 hl (by omega) h
  have := marks_set (k := k) (qs := (qs.set j (k + j)).set (j + 1) (k + (j + 1))) (n := n) (j := j + 2) (by simpa using hl) hj h1
  simpa using this
theorem grown_set {W V : World} {g o : Nat} {x : Value} {v : Value} (h : W.grownBy V v.ownBlock) (hv : v.ownBlock = some g) : W.grownBy (V.setCell ⟨g, o, none⟩ x) v.ownBlock :=
  ⟨h.os, h.tape, h.output, by simpa [World.setCell] using h.size, fun i hi hne => by
    rw [← h.block i hi hne]
    exact Below.heap_setCell V ⟨g, o, none⟩ _ i (fun e2 => hne (by rw [hv, show i = g from e2]))⟩
theorem eqFr_same (x y : Int) (w : World) : Calls Try.prog 26 #[.agg #[.int .i64 x, .int .i64 y], .agg #[.int .i64 x, .int .i64 y]] w fun e w' => e = .returned (.bool true) ∧ Below w.heap.size w w' := by
  have e1 : ∀ x : Int, (x != x) = false := fun x => by simp
  go_enter Try.func26, Try.ntmps26
  go_wp2_with fail
  go_ret
  refine ⟨rfl, ?_⟩
  repeat' first | (with_reducible first | apply zRf | assumption | apply zDn | apply zDr | apply zAl | apply zSt | refine zVi (by assumption) ?_ ?_) | go_size
theorem eqFractionS_same {B B2 n : Nat} {v v2 : Value} {zs : List Int} {w : World} (h : SlX w B 2 v n zs) (h2 : SlX w B2 2 v2 n zs) (hn : n ≤ 1000000000) : Calls Try.prog 14 #[v, v2] w fun e w' => e = .returned (.bool true) ∧ Below w.heap.size w w' := by
  have e1 : ((n : Int) != (n : Int)) = false := by simp
  obtain ⟨hl, h⟩ := h
  obtain ⟨-, h2⟩ := h2
  rcases h with ⟨rfl, rfl⟩ | ⟨g, c, rfl, hnc, hcm, -, hr⟩
  · rcases h2 with ⟨rfl, -⟩ | ⟨g2, c2, rfl, -, -, -, -⟩
    all_goals
      go_enter Try.func14, Try.ntmps14
      go_wp2_with fail
      go_loopw [5] (fun iv wr => iv = .int .i64 0 ∧ wr = w) (fun iv _ => 0)
      case atStart => exact ⟨rfl, rfl⟩
      case round =>
        obtain ⟨rfl, rfl⟩ := hrel
        go_wp2_with fail
        go_ret
        exact ⟨rfl, Below.refl _ _⟩
  · unfold maxLen at hcm
    rcases h2 with ⟨rfl, rfl⟩ | ⟨g2, c2, rfl, hnc2, hcm2, -, hr2⟩
    · go_enter Try.func14, Try.ntmps14
      go_wp2_with fail
      go_loopw [5] (fun iv wr => iv = .int .i64 0 ∧ wr = w) (fun iv _ => 0)
      case atStart => exact ⟨rfl, rfl⟩
      case round =>
        obtain ⟨rfl, rfl⟩ := hrel
        go_wp2_with fail
        go_ret
        exact ⟨rfl, Below.refl _ _⟩
    · unfold maxLen at hcm2
      have HR := Lib.hid hr
      have HR2 := Lib.hid hr2
      clear hr hr2
      have tok1 : True := trivial
      have tok2 : True := trivial
      have tok3 : True := trivial
      have tok4 : True := trivial
      have tok5 : True := trivial
      go_enter Try.func14, Try.ntmps14
      go_wp2_with fail
      go_loopw [5] (fun iv wr => ∃ k : Nat, iv = .int .i64 k ∧ k ≤ n ∧ Below w.heap.size w wr) (fun iv _ => (n - intOf iv).toNat)
      case atStart => exact ⟨0, rfl, by omega, Below.refl _ _⟩
      case round =>
        obtain ⟨k, rfl, hk, hb⟩ := hrel
        by_cases h0 : k < n
        · have hk2 : (k : Int) < (n : Int) := by omega
          have r1 := HR.out.via hb
          have r2 := HR2.out.via hb
          obtain ⟨x, hx⟩ : ∃ x, zs[k * 2]?.getD 0 = x := ⟨_, rfl⟩
          obtain ⟨y, hy⟩ : ∃ y, zs[k * 2 + 1]?.getD 0 = y := ⟨_, rfl⟩
          have c0 := (r1.2 (k * 2) (by omega)).1
          have c1 := (r1.2 (k * 2 + 1) (by omega)).1
          have d0 := (r2.2 (k * 2) (by omega)).1
          have d1 := (r2.2 (k * 2 + 1) (by omega)).1
          rw [hx] at c0 d0
          rw [hy] at c1 d1
          have g1 := r1.1
          have g2' := r2.1
          have TE := fun W : World => Lib.hid (eqFr_same x y W)
          have HC := Lib.hid (fun (W : World) (hW : Below wr.heap.size wr W) => (⟨(hW.cell (p := ⟨g, k * 2, none⟩) g1).trans c0, (hW.cell (p := ⟨g, k * 2 + 1, none⟩) g1).trans c1, (hW.cell (p := ⟨g2, k * 2, none⟩) g2').trans d0, (hW.cell (p := ⟨g2, k * 2 + 1, none⟩) g2').trans d1⟩ : W.cell? ⟨g, k * 2, none⟩ = some (.int .i64 x) ∧ W.cell? ⟨g, k * 2 + 1, none⟩ = some (.int .i64 y) ∧ W.cell? ⟨g2, k * 2, none⟩ = some (.int .i64 x) ∧ W.cell? ⟨g2, k * 2 + 1, none⟩ = some (.int .i64 y)))
          clear r1 r2 hx hy
          go_wp2_with fail
          go_region_held3 (fun W => W.cell? ⟨g, k * 2, none⟩ = some (.int .i64 x) ∧ W.cell? ⟨g, k * 2 + 1, none⟩ = some (.int .i64 y) ∧ W.cell? ⟨g2, k * 2, none⟩ = some (.int .i64 x) ∧ W.cell? ⟨g2, k * 2 + 1, none⟩ = some (.int .i64 y)) (exact HC.out _ (by repeat' first | (with_reducible first | apply zRf | assumption | apply zDn | apply zDr | apply zAl | apply zSt | refine zVi (by assumption) ?_ ?_) | go_size)) (first | (have _t := tok4; go_at_call 26; refine ((TE _).out).mono ?_; rintro e w4 ⟨rfl, hb4⟩; clear tok4 _t; have hz4 := hb4.size; (try simp only [World.size_alloc, World.size_setCell, World.size_drew, World.size_drewN'] at hz4)))
          go_wp2_with fail
          go_roundw
          case rel => exact ⟨k + 1, by go_num, by omega, below_via hb4 (below_via (by repeat' first | (with_reducible first | apply zRf | assumption | apply zDn | apply zDr | apply zAl | apply zSt | refine zVi (by assumption) ?_ ?_) | go_size) hb (by have := hb.size; omega)) (by have := hb.size; go_size)⟩
          case measure => simp [intOf]; omega
        · obtain rfl : k = n := by omega
          go_wp2_with fail
          go_ret
          exact ⟨rfl, hb⟩
def MfRel (w : World) (B : Nat) (v : Value) (k : Int) (n : Nat) (iv kv : Value) (wr : World) : Prop := ∃ (j : Nat) (qs : List Int), iv = .int .i64 j ∧ kv = .int .i64 (k + 2 * j) ∧ j ≤ n ∧ qs.take (j * 2) = marks k (j * 2) ∧ SlX wr B 2 v n qs ∧ w.grownBy wr v.ownBlock
theorem markFractionS_any {v : Value} {B n : Nat} {zs : List Int} {k : Int} {w : World} (h : SlX w B 2 v n zs) (h0 : 0 ≤ k) (h1 : k ≤ 1000000) (hn : n ≤ 1000000000) : Calls Try.prog 15 #[v, .int .i64 k] w fun e w' => e = .returned (.int .i64 (k + 2 * n)) ∧ SlX w' B 2 v n (marks k (n * 2)) ∧ w.grownBy w' v.ownBlock := by
  obtain ⟨a, c, rfl⟩ := h.shape
  go_enter Try.func15, Try.ntmps15
  go_wp2_with fail
  go_loopw [5, 1] (fun iv kv wr => MfRel w B (.slice a n c) k n iv kv wr) (fun iv _ _ => (n - intOf iv).toNat)
  case atStart => exact ⟨0, zs, rfl, by simp, by omega, by simp [marks], h, ⟨rfl, rfl, rfl, Nat.le_refl _, fun _ _ _ => rfl⟩⟩
  case round =>
    obtain ⟨j, qs, rfl, rfl, hj, ht, ⟨hl, ho⟩, hg⟩ := hrel
    have HT := Lib.hid ht
    clear ht
    by_cases hlt : j < n
    · rcases ho with ⟨_, h3⟩ | ⟨g, cap, h3, hnc, hcm, hB, hr⟩
      · exfalso; omega
      · simp only [Value.slice.injEq] at h3
        obtain ⟨rfl, h4, rfl⟩ := h3
        clear h4
        have HCM := Lib.hid hcm
        unfold maxLen at hcm
        have HR := Lib.hid hr
        have hk2 : (j : Int) < (n : Int) := by omega
        obtain ⟨c0, f0⟩ := hr.2 (j * 2) (by omega)
        obtain ⟨c1, f1⟩ := hr.2 (j * 2 + 1) (by omega)
        clear hr
        go_wp2_with fail
        go_roundw
        case rel =>
          have r2 := (HR.out.set (i := j * 2) (by omega) (k + ((j * 2 : Nat) : Int))).set (i := j * 2 + 1) (by simp; omega) (k + (((j * 2 : Nat) : Int) + 1))
          refine ⟨j + 1, (qs.set (j * 2) (k + ((j * 2 : Nat) : Int))).set (j * 2 + 1) (k + (((j * 2 : Nat) : Int) + 1)), by go_num, by congr 1; omega, by omega, ?_, ⟨by simp [hl], .inr ⟨g, _, rfl, hnc, HCM.out, hB, ?_⟩⟩, ?_⟩
          · have := marks_set2 (k := k) (n := qs.length) (j := j * 2) rfl (by omega) HT.out
            rw [show (j + 1) * 2 = j * 2 + 1 + 1 by omega]; exact this
          · have e1 : k + ((j * 2 : Nat) : Int) = k + 2 * (j : Int) := by omega
            have e2 : k + (((j * 2 : Nat) : Int) + 1) = k + 2 * (j : Int) + 1 := by omega
            rw [e1, e2] at r2 ⊢
            exact r2
          · exact grown_set (grown_set hg rfl) rfl
        case measure => simp [intOf]; omega
    · obtain rfl : j = n := by omega
      have e : qs = marks k (j * 2) := by rw [← HT.out, List.take_of_length_le (by omega)]
      subst e
      go_wp2_with fail
      go_ret
      exact ⟨rfl, ⟨hl, ho⟩, hg⟩
theorem heldFractionS_any {v : Value} {B n : Nat} {k : Int} {w : World} (h : SlX w B 2 v n (marks k (n * 2))) (h0 : 0 ≤ k) (h1 : k ≤ 1000000) (hn : n ≤ 1000000000) : Calls Try.prog 16 #[v, .int .i64 k] w fun e w' => e = .returned (.int .i64 (k + 2 * n)) ∧ Below w.heap.size w w' := by
  obtain ⟨a, c, rfl⟩ := h.shape
  go_enter Try.func16, Try.ntmps16
  go_wp2_with fail
  go_loopw [5, 1] (fun iv kv wr => ∃ j : Nat, iv = .int .i64 j ∧ kv = .int .i64 (k + 2 * j) ∧ j ≤ n ∧ wr = w) (fun iv _ _ => (n - intOf iv).toNat)
  case atStart => exact ⟨0, rfl, by simp, by omega, rfl⟩
  case round =>
    obtain ⟨j, rfl, rfl, hj, rfl⟩ := hrel
    by_cases hlt : j < n
    · rcases h.2 with ⟨_, h3⟩ | ⟨g, cap, h3, hnc, hcm, hB, hr⟩
      · exfalso; omega
      · simp only [Value.slice.injEq] at h3
        obtain ⟨rfl, h4, rfl⟩ := h3
        clear h4
        unfold maxLen at hcm
        have hk2 : (j : Int) < (n : Int) := by omega
        have hml := marks_len k (n * 2)
        have c0 := (hr.2 (j * 2) (by omega)).1
        have c1 := (hr.2 (j * 2 + 1) (by omega)).1
        rw [marks_at k (n * 2) (j * 2) (by omega), show k + ((j * 2 : Nat) : Int) = k + 2 * (j : Int) by omega] at c0
        rw [marks_at k (n * 2) (j * 2 + 1) (by omega), show k + ((j * 2 + 1 : Nat) : Int) = k + 2 * (j : Int) + 1 by omega] at c1
        have hx : ∀ x : Int, (x != x) = false := fun x => by simp
        clear hr hml
        go_wp2_with fail
        go_roundw
        case rel => exact ⟨j + 1, by go_num, by congr 1; omega, by omega, (by first | rfl | trivial)⟩
        case measure => simp [intOf]; omega
    · obtain rfl : j = n := by omega
      go_wp2_with fail
      go_ret
      exact ⟨rfl, Below.refl _ _⟩
end Go.Proofs.Yteaehbiglhoddaa
