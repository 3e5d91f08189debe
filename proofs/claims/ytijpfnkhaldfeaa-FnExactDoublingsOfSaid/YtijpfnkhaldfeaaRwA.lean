/- Parts: Rows of ratios that a call has made: the header's row and the digits' rows, all apart. No program in sight but types' numbers, Rows of ratios: one more, reading them, the marks in them. No program in sight but types' numbers. -/
import Derived.Test.YtijpfnkhaldfeaaProg
import Derived.Test.YtijpfnkhaldfeaaMk
import Derived.Test.YtijpfnkhaldfeaaWoP
import Derived.Test.YtijpfnkhaldfeaaRt
namespace Go.Proofs.Ytijpfnkhaldfeaa
section
open Go.RowKit
set_option linter.unusedVariables false
set_option maxHeartbeats 4000000
set_option maxRecDepth 20000
set_option linter.unusedSimpArgs false
/-- a whole number of a row: its flag, its slice, its digits -/
structure WV where
  neg : Bool
  ad : Option Addr
  len : Nat
  cap : Nat
  zs : List Int
def wv0 : WV := ⟨false, none, 0, 0, []⟩
def wcells : List WV → List Value
  | [] => []
  | p :: M => .bool p.neg :: .slice p.ad p.len p.cap :: wcells M
theorem wcells_len : ∀ M, (wcells M).length = M.length * 2
  | [] => rfl
  | p :: M => by simp only [wcells, List.length_cons, wcells_len M]; omega
theorem wcells_append : ∀ M N, wcells (M ++ N) = wcells M ++ wcells N
  | [], N => rfl
  | p :: M, N => by simp only [wcells, List.cons_append, wcells_append M N]
theorem wcells_at : ∀ (M : List WV) (j : Nat), j < M.length → (wcells M)[j * 2]? = some (.bool (M[j]?.getD wv0).neg) ∧ (wcells M)[j * 2 + 1]? = some (.slice (M[j]?.getD wv0).ad (M[j]?.getD wv0).len (M[j]?.getD wv0).cap)
  | p :: M, 0, h => ⟨rfl, rfl⟩
  | p :: M, j + 1, h => by
    have := wcells_at M j (by simpa using h)
    rw [show (j + 1) * 2 = j * 2 + 1 + 1 by omega]
    simpa only [wcells, List.getElem?_cons_succ] using this
theorem wcells_flag : ∀ (M : List WV) (j : Nat) (b : Bool), wcells (M.modify j fun p => { p with neg := b }) = (wcells M).set (j * 2) (.bool b) ∨ M.length ≤ j
  | [], j, b => .inr (by simp)
  | p :: M, 0, b => .inl rfl
  | p :: M, j + 1, b => by
    rcases wcells_flag M j b with h | h
    · left
      rw [show (j + 1) * 2 = j * 2 + 1 + 1 by omega]
      simp only [List.modify_succ_cons, wcells, List.set_cons_succ, h]
    · right; simpa using h
theorem wcells_zs : ∀ (M : List WV) (j : Nat) (z : List Int), wcells (M.modify j fun p => { p with zs := z }) = wcells M
  | [], j, z => by simp
  | p :: M, 0, z => rfl
  | p :: M, j + 1, z => by simp only [List.modify_succ_cons, wcells, wcells_zs M j z]
/-- the header's row v of n ratios, whose 2 n whole numbers are M, each in a row of its own, all apart -/
structure OwnW (W : World) (B : Nat) (v : Value) (n : Nat) (M : List WV) : Prop where
  cnt : M.length = 2 * n
  head : W.ownsRow B 37 4 v n (wcells M)
  own : ∀ j, j < M.length → OwS W B (M[j]?.getD wv0).ad (M[j]?.getD wv0).len (M[j]?.getD wv0).cap (M[j]?.getD wv0).zs
  far : ∀ i j, i < M.length → j < M.length → i ≠ j → farA (M[i]?.getD wv0).ad (M[j]?.getD wv0).ad
theorem ownsRow_below2 {W W2 : World} {B n : Nat} {T : TypeId} {s : Nat} {v : Value} {xs : List Value} (h : W.ownsRow B T s v n xs) (hb : Below W.heap.size W W2) : W2.ownsRow B T s v n xs :=
  ⟨h.1, h.2.imp id fun ⟨g, cap, cur, hv, hB, hg, rest⟩ => ⟨g, cap, cur, hv, hB, (hb.block g (blk_lt' hg)).trans hg, rest⟩⟩
theorem OwnW.below {W W2 : World} {B : Nat} {v : Value} {n : Nat} {M : List WV} (h : OwnW W B v n M) (hb : Below W.heap.size W W2) : OwnW W2 B v n M :=
  ⟨h.cnt, ownsRow_below2 h.head hb, fun j hj => (h.own j hj).below hb, h.far⟩
theorem OwnW.nil (W : World) (B : Nat) : OwnW W B (.slice none 0 0) 0 [] := ⟨rfl, World.ownsRow_nil _ _ _ _, fun j hj => absurd hj (by simp), fun i j hi => absurd hi (by simp)⟩
theorem OwnW.shape {W : World} {B : Nat} {v : Value} {n : Nat} {M : List WV} (h : OwnW W B v n M) : (v = .slice none 0 0 ∧ n = 0) ∨ ∃ g cap, v = .slice (some ⟨g, 0, none⟩) n cap ∧ n ≤ cap ∧ cap ≤ maxLen ∧ B ≤ g ∧ g < W.heap.size ∧
    (∀ j, j < M.length → W.cell? ⟨g, j * 2, none⟩ = some (.bool (M[j]?.getD wv0).neg) ∧ W.cell? ⟨g, j * 2 + 1, none⟩ = some (.slice (M[j]?.getD wv0).ad (M[j]?.getD wv0).len (M[j]?.getD wv0).cap)) ∧ (∀ o, W.frozen? ⟨g, o, none⟩ = false) ∧
    ∃ cur, W.heap[g]? = some (.cells cur 37 (0, 0)) := by
  obtain ⟨hl, hh⟩ := h.head
  rcases hh with ⟨h1, h2⟩ | ⟨g, cap, cur, hv, hB, hg, hnc, hcm, hcs, ht⟩
  · exact .inl ⟨h1, h2⟩
  · refine .inr ⟨g, cap, hv, hnc, hcm, hB, blk_lt' hg, fun j hj => ?_, fun o => blk_frozen hg o, cur, hg⟩
    have hc := h.cnt
    have hk : ∀ i u, i < n * 4 → (wcells M)[i]? = some u → W.cell? ⟨g, i, none⟩ = some u := fun i u hi hu => by
      rw [cell_of_row W g i cur 37 (0, 0) hg]
      rw [← ht, List.getElem?_take, if_pos hi] at hu
      simpa using hu
    obtain ⟨k1, k2⟩ := wcells_at M j hj
    exact ⟨hk _ _ (by omega) k1, hk _ _ (by omega) k2⟩
theorem modify_getD {M : List WV} {f : WV → WV} {i j : Nat} (hj : j < M.length) : (M.modify i f)[j]?.getD wv0 = if i = j then f (M[j]?.getD wv0) else M[j]?.getD wv0 := by
  rw [List.getElem?_modify, List.getElem?_eq_getElem hj]
  by_cases h : i = j
  · simp [h]
  · simp [h]
/-- the header's block is none of the digits' -/
theorem OwnW.hd {W : World} {B : Nat} {v : Value} {n : Nat} {M : List WV} (h : OwnW W B v n M) {g : Nat} {cur : Array Value} (hg : W.heap[g]? = some (.cells cur 37 (0, 0))) {j : Nat} (hj : j < M.length) : ∀ A, (M[j]?.getD wv0).ad = some A → A.block ≠ g := fun A e he => by
  obtain ⟨-, h2⟩ := h.own j hj
  rcases h2 with ⟨h1, -⟩ | ⟨g2, cap, c2, hv, -, hg2, -⟩
  · simp only [Value.slice.injEq] at h1
    rw [h1.1] at e; cases e
  · simp only [Value.slice.injEq] at hv
    rw [hv.1] at e; cases e
    simp only at he
    subst he
    rw [hg] at hg2
    simp only [Option.some.injEq, Obj.cells.injEq] at hg2
    exact absurd hg2.2.1 (by decide)
/-- a flag of the header is written -/
theorem OwnW.flag {W : World} {B g cap : Nat} {n : Nat} {M : List WV} (h : OwnW W B (.slice (some ⟨g, 0, none⟩) n cap) n M) {j : Nat} (hj : j < M.length) (b : Bool) :
    OwnW (W.setCell ⟨g, j * 2, none⟩ (.bool b)) B (.slice (some ⟨g, 0, none⟩) n cap) n (M.modify j fun p => { p with neg := b }) := by
  have hsh := h.shape
  obtain ⟨cur0, hg0⟩ : ∃ cur, W.heap[g]? = some (.cells cur 37 (0, 0)) := by
    rcases hsh with ⟨h1, -⟩ | ⟨g', cap', h1, -, -, -, -, -, -, cur, h2⟩
    · simp at h1
    · simp only [Value.slice.injEq, Option.some.injEq, Addr.mk.injEq, and_true, true_and] at h1
      rw [h1.1]; exact ⟨cur, h2⟩
  refine ⟨by simpa using h.cnt, ?_, fun i hi => ?_, fun i k hi hk hne => ?_⟩
  · obtain ⟨hl, h2⟩ := h.head
    rcases h2 with ⟨h1, -⟩ | ⟨g', cap', cur, hv, hB, hg, hnc, hcm, hcs, ht⟩
    · simp at h1
    · simp only [Value.slice.injEq, Option.some.injEq, Addr.mk.injEq, and_true, true_and] at hv
      obtain ⟨rfl, rfl⟩ := hv
      have e : wcells (M.modify j fun p => { p with neg := b }) = (wcells M).set (j * 2) (.bool b) := (wcells_flag M j b).resolve_right (by omega)
      rw [e]
      refine ⟨by simpa using hl, .inr ⟨g, cap, cur.setIfInBounds (j * 2) (.bool b), rfl, hB, ?_, hnc, hcm, by simpa using hcs, ?_⟩⟩
      · simpa using blk_set (o := j * 2) (v := .bool b) hg
      · rw [Array.toList_setIfInBounds, List.take_set, ht]
  · have hi' : i < M.length := by simpa using hi
    have := (h.own i hi').setFar (h.hd hg0 hi') (j * 2) (.bool b)
    rw [modify_getD hi']
    split
    · exact this
    · exact this
  · have hi' : i < M.length := by simpa using hi
    have hk' : k < M.length := by simpa using hk
    have := h.far i k hi' hk' hne
    rw [modify_getD hi', modify_getD hk']
    split <;> split <;> exact this
/-- one of the digits' rows is written -/
theorem OwnW.digits {W W2 : World} {B : Nat} {v : Value} {n : Nat} {M : List WV} (h : OwnW W B v n M) {j : Nat} (hj : j < M.length) {z : List Int}
    (ho : OwS W2 B (M[j]?.getD wv0).ad (M[j]?.getD wv0).len (M[j]?.getD wv0).cap z) (hg : W.grownBy W2 (Value.slice (M[j]?.getD wv0).ad (M[j]?.getD wv0).len (M[j]?.getD wv0).cap).ownBlock) :
    OwnW W2 B v n (M.modify j fun p => { p with zs := z }) := by
  have keep : ∀ i x, W.heap[i]? = some x → (∀ A, (M[j]?.getD wv0).ad = some A → A.block ≠ i) → W2.heap[i]? = some x := fun i x hi hA => by
    rw [hg.block i (blk_lt' hi) (fun e => by
      cases ha : (M[j]?.getD wv0).ad with
      | none => rw [ha] at e; cases e
      | some A => rw [ha] at e; exact hA A ha (Option.some.inj e).symm)]
    exact hi
  refine ⟨by simpa using h.cnt, ?_, fun i hi => ?_, fun i k hi hk hne => ?_⟩
  · rw [wcells_zs]
    obtain ⟨hl, h2⟩ := h.head
    refine ⟨hl, ?_⟩
    rcases h2 with h1 | ⟨g, cap, cur, hv, hB, hg2, rest⟩
    · exact .inl h1
    · exact .inr ⟨g, cap, cur, hv, hB, keep g _ hg2 (h.hd hg2 hj), rest⟩
  · have hi' : i < M.length := by simpa using hi
    rw [modify_getD hi']
    by_cases e : j = i
    · subst e; rw [if_pos rfl]; exact ho
    · rw [if_neg e]
      obtain ⟨hl, h2⟩ := h.own i hi'
      refine ⟨hl, ?_⟩
      rcases h2 with h1 | ⟨g2, cap, c2, hv, hB, hg2, rest⟩
      · exact .inl h1
      · refine .inr ⟨g2, cap, c2, hv, hB, keep g2 _ hg2 (fun A eA => ?_), rest⟩
        simp only [Value.slice.injEq] at hv
        exact h.far j i hj hi' e A _ eA hv.1
  · have hi' : i < M.length := by simpa using hi
    have hk' : k < M.length := by simpa using hk
    have := h.far i k hi' hk' hne
    rw [modify_getD hi', modify_getD hk']
    split <;> split <;> exact this
end
section
open Go.RowKit
set_option linter.unusedVariables false
set_option maxHeartbeats 4000000
set_option maxRecDepth 20000
set_option linter.unusedSimpArgs false
theorem OwS.hdT {W : World} {B : Nat} {a : Option Addr} {n c : Nat} {zs : List Int} (h : OwS W B a n c zs) {g : Nat} {cur : Array Value} {T : TypeId} (hT : T ≠ 3) (hg : W.heap[g]? = some (.cells cur T (0, 0))) : ∀ A, a = some A → A.block ≠ g := fun A e he => by
  rcases h.2 with ⟨h1, -⟩ | ⟨g2, cap, c2, hv, -, hg2, -⟩
  · simp only [Value.slice.injEq] at h1
    rw [h1.1] at e; cases e
  · simp only [Value.slice.injEq] at hv
    rw [hv.1] at e; cases e
    simp only at he
    subst he
    rw [hg] at hg2
    simp only [Option.some.injEq, Obj.cells.injEq] at hg2
    exact absurd hg2.2.1 hT
theorem OwS.keepG {W W2 : World} {B : Nat} {a : Option Addr} {n c : Nat} {zs : List Int} (h : OwS W B a n c zs) (hk : ∀ A, a = some A → W2.heap[A.block]? = W.heap[A.block]?) : OwS W2 B a n c zs := by
  obtain ⟨hl, h2⟩ := h
  refine ⟨hl, ?_⟩
  rcases h2 with h1 | ⟨g2, cap, c2, hv, hB, hg2, rest⟩
  · exact .inl h1
  · refine .inr ⟨g2, cap, c2, hv, hB, ?_, rest⟩
    simp only [Value.slice.injEq] at hv
    exact (hk _ hv.1).trans hg2
theorem OwS.keepBl {W W2 : World} {B : Nat} {a : Option Addr} {n c : Nat} {zs : List Int} (h : OwS W B a n c zs) (hk : ∀ i, i < W.heap.size → (∀ A, a = some A → A.block = i → W2.heap[i]? = W.heap[i]?)) : OwS W2 B a n c zs :=
  h.keepG fun A e => hk A.block (h.lies A e).2 A e rfl
/-- a write into a block of another type -/
theorem OwS.box {W : World} {B : Nat} {a : Option Addr} {n c : Nat} {zs : List Int} (h : OwS W B a n c zs) {g : Nat} {cur : Array Value} {T : TypeId} (hT : T ≠ 3) (hg : W.heap[g]? = some (.cells cur T (0, 0))) (o : Nat) (u : Value) : OwS (W.setCell ⟨g, o, none⟩ u) B a n c zs :=
  h.setFar (h.hdT hT hg) o u
theorem OwS.len {W : World} {B : Nat} {a : Option Addr} {n c : Nat} {zs : List Int} (h : OwS W B a n c zs) : zs.length = n := by
  rcases OwnI.shape h with ⟨h1, rfl⟩ | ⟨g, cap, h1, -⟩
  · simp only [Value.slice.injEq] at h1; simp [h1.2.1]
  · simp only [Value.slice.injEq] at h1; exact h1.2.1.symm
theorem OwS.sx {W : World} {B : Nat} {a : Option Addr} {n c : Nat} {zs : List Int} (h : OwS W B a n c zs) : Sx W a n c zs := by
  have e := h.len
  obtain ⟨a', c', e2, h2, -⟩ := Sx.of_owns h
  simp only [Value.slice.injEq] at e2
  obtain ⟨rfl, h3, rfl⟩ := e2
  rw [h3]; exact h2
theorem getD_app {M N : List WV} {j : Nat} : (M ++ N)[j]?.getD wv0 = if j < M.length then M[j]?.getD wv0 else N[j - M.length]?.getD wv0 := by
  by_cases h : j < M.length
  · rw [if_pos h, List.getElem?_append_left h]
  · rw [if_neg h, List.getElem?_append_right (by omega)]
/-- one more ratio -/
theorem OwnW.push {W W' : World} {X : Obj} {B n : Nat} {v v' : Value} {M : List WV} {p q : WV} (h : OwnW W B v n M) (hp : OwS W B p.ad p.len p.cap p.zs) (hq : OwS W B q.ad q.len q.cap q.zs) (fpq : farA p.ad q.ad)
    (fp : ∀ j, j < M.length → farA (M[j]?.getD wv0).ad p.ad) (fq : ∀ j, j < M.length → farA (M[j]?.getD wv0).ad q.ad) (hg : (W.alloc X).grownBy W' v.ownBlock)
    (hrow : W'.ownsRow B 37 4 v' (n + 1) (wcells M ++ [.bool p.neg, .slice p.ad p.len p.cap, .bool q.neg, .slice q.ad q.len q.cap])) : OwnW W' B v' (n + 1) (M ++ [p, q]) := by
  have hc := h.cnt
  have hv : v.ownBlock = none ∨ ∃ g cur, v.ownBlock = some g ∧ W.heap[g]? = some (.cells cur 37 (0, 0)) := by
    rcases h.shape with ⟨rfl, -⟩ | ⟨g, cap, rfl, -, -, -, -, -, -, cur, hg⟩
    · exact .inl rfl
    · exact .inr ⟨g, cur, rfl, hg⟩
  have kp : ∀ {a n c zs}, OwS W B a n c zs → OwS W' B a n c zs := fun {a n c zs} h1 => by
    refine (h1.alloc X).keepG fun A e => hg.block A.block ?_ ?_
    · have := (h1.lies A e).2; simp; omega
    · rcases hv with h2 | ⟨g, cur, h2, h3⟩
      · rw [h2]; simp
      · rw [h2]
        have := h1.hdT (by decide) h3 A e
        intro e2; exact this (Option.some.inj e2)
  refine ⟨by simp; omega, by rw [wcells_append]; exact hrow, fun j hj => ?_, fun i j hi hj hne => ?_⟩
  · simp only [List.length_append, List.length_cons, List.length_nil] at hj
    rw [getD_app]
    split
    · next h1 => exact kp (h.own j h1)
    · next h1 =>
      rcases (show j - M.length = 0 ∨ j - M.length = 1 by omega) with e | e <;> rw [e]
      · exact kp hp
      · exact kp hq
  · simp only [List.length_append, List.length_cons, List.length_nil] at hi hj
    rw [getD_app, getD_app]
    split <;> split
    · next h1 h2 => exact h.far i j h1 h2 hne
    · next h1 h2 =>
      rcases (show j - M.length = 0 ∨ j - M.length = 1 by omega) with e | e <;> rw [e]
      · exact fp i h1
      · exact fq i h1
    · next h1 h2 =>
      rcases (show i - M.length = 0 ∨ i - M.length = 1 by omega) with e | e <;> rw [e]
      · exact (fp j h2).symm
      · exact (fq j h2).symm
    · next h1 h2 =>
      rcases (show i - M.length = 0 ∨ i - M.length = 1 by omega) with e | e <;> rcases (show j - M.length = 0 ∨ j - M.length = 1 by omega) with e2 | e2 <;> rw [e, e2]
      · omega
      · exact fpq
      · exact fpq.symm
      · omega
theorem OwnW.keepB {W W2 : World} {B n : Nat} {v : Value} {M : List WV} (h : OwnW W B v n M) (hk : ∀ i, B ≤ i → i < W.heap.size → W2.heap[i]? = W.heap[i]?) : OwnW W2 B v n M := by
  refine ⟨h.cnt, ⟨h.head.1, ?_⟩, fun j hj => (h.own j hj).keepG fun A e => ?_, h.far⟩
  · rcases h.head.2 with h1 | ⟨g, cap, cur, hv, hB, hg, rest⟩
    · exact .inl h1
    · exact .inr ⟨g, cap, cur, hv, hB, (hk g hB (blk_lt' hg)).trans hg, rest⟩
  · have := (h.own j hj).lies A e
    exact hk A.block this.1 this.2
theorem OwnW.setLow {W : World} {B n : Nat} {v : Value} {M : List WV} (h : OwnW W B v n M) {g : Nat} (hg : g < B) (o : Nat) (u : Value) : OwnW (W.setCell ⟨g, o, none⟩ u) B v n M :=
  h.keepB fun i hi _ => Below.heap_setCell W ⟨g, o, none⟩ u i (show i ≠ g by omega)
theorem OwnW.low {W : World} {B B' n : Nat} {v : Value} {M : List WV} (h : OwnW W B v n M) (hB : B' ≤ B) : OwnW W B' v n M :=
  ⟨h.cnt, ⟨h.head.1, h.head.2.imp id fun ⟨g, cap, cur, hv, hb, rest⟩ => ⟨g, cap, cur, hv, Nat.le_trans hB hb, rest⟩⟩, fun j hj => (h.own j hj).low hB, h.far⟩
/-! ### reading -/
/-- v is a row of n ratios in memory; the flags and digits of the 2 n whole numbers are L's -/
def RdR (W : World) (v : Value) (n : Nat) (L : Nat → Bool × List Int) : Prop := (v = .slice none 0 0 ∧ n = 0) ∨ ∃ g cap, v = .slice (some ⟨g, 0, none⟩) n cap ∧ n ≤ cap ∧ cap ≤ maxLen ∧ g < W.heap.size ∧
  ∀ i, i < n → ∃ a1 n1 c1 a2 n2 c2, W.cell? ⟨g, i * 4, none⟩ = some (.bool (L (2 * i)).1) ∧ W.cell? ⟨g, i * 4 + 1, none⟩ = some (.slice a1 n1 c1) ∧ W.cell? ⟨g, i * 4 + 2, none⟩ = some (.bool (L (2 * i + 1)).1) ∧ W.cell? ⟨g, i * 4 + 3, none⟩ = some (.slice a2 n2 c2) ∧
    Sx W a1 n1 c1 (L (2 * i)).2 ∧ Sx W a2 n2 c2 (L (2 * i + 1)).2
theorem RdR.below {W W2 : World} {v : Value} {n : Nat} {L : Nat → Bool × List Int} (h : RdR W v n L) (hb : Below W.heap.size W W2) : RdR W2 v n L :=
  h.imp id fun ⟨g, cap, h1, h2, h3, h4, h5⟩ => ⟨g, cap, h1, h2, h3, Nat.lt_of_lt_of_le h4 hb.size, fun i hi => by
    obtain ⟨a1, n1, c1, a2, n2, c2, k0, k1, k2, k3, s1, s2⟩ := h5 i hi
    have hc : ∀ o, W2.cell? ⟨g, o, none⟩ = W.cell? ⟨g, o, none⟩ := fun o => hb.cell (p := ⟨g, o, none⟩) h4
    exact ⟨a1, n1, c1, a2, n2, c2, (hc _).trans k0, (hc _).trans k1, (hc _).trans k2, (hc _).trans k3, s1.below hb, s2.below hb⟩⟩
theorem RdR.shape {W : World} {v : Value} {n : Nat} {L : Nat → Bool × List Int} (h : RdR W v n L) : ∃ a c, v = .slice a n c ∧ n ≤ c ∧ c ≤ maxLen := by
  rcases h with ⟨h1, rfl⟩ | ⟨g, cap, h1, h2, h3, -⟩
  · exact ⟨none, 0, h1, Nat.le_refl _, Nat.zero_le _⟩
  · exact ⟨_, _, h1, h2, h3⟩
theorem RdR.congr {W : World} {v : Value} {n : Nat} {L L' : Nat → Bool × List Int} (h : RdR W v n L) (e : ∀ j, j < 2 * n → L j = L' j) : RdR W v n L' :=
  h.imp id fun ⟨g, cap, h1, h2, h3, h4, h5⟩ => ⟨g, cap, h1, h2, h3, h4, fun i hi => by
    have := h5 i hi
    rwa [e (2 * i) (by omega), e (2 * i + 1) (by omega)] at this⟩
/-- the flags and digits of a row of pairs of integers -/
def rvL (zs : List (Int × Int)) (j : Nat) : Bool × List Int := if j % 2 = 0 then (ngB (zs.getD (j / 2) (0, 0)).1, limbs (ab (zs.getD (j / 2) (0, 0)).1)) else (ngB (zs.getD (j / 2) (0, 0)).2, limbs (ab (zs.getD (j / 2) (0, 0)).2))
theorem rvL_0 (zs : List (Int × Int)) (i : Nat) : rvL zs (2 * i) = (ngB (zs.getD i (0, 0)).1, limbs (ab (zs.getD i (0, 0)).1)) := by unfold rvL; rw [if_pos (by omega), show 2 * i / 2 = i by omega]
theorem rvL_1 (zs : List (Int × Int)) (i : Nat) : rvL zs (2 * i + 1) = (ngB (zs.getD i (0, 0)).2, limbs (ab (zs.getD i (0, 0)).2)) := by unfold rvL; rw [if_neg (by omega), show (2 * i + 1) / 2 = i by omega]
theorem RowRt.rd {W : World} {B : Nat} {T : TypeId} {v : Value} {zs : List (Int × Int)} (h : RowRt W B T v zs) : RdR W v zs.length (rvL zs) := by
  rcases Nat.eq_zero_or_pos zs.length with h0 | h0
  · rw [h0]
    obtain ⟨xs, ⟨hl, ho⟩, he⟩ := h
    rcases ho with ⟨h1, -⟩ | ⟨g, cap, cur, hv, hB, hg, hnc, hcm, hcs, ht⟩
    · exact .inl ⟨h1, rfl⟩
    · rw [h0] at hv
      exact .inr ⟨g, cap, hv, by omega, hcm, blk_lt' hg, fun i hi => absurd hi (by omega)⟩
  · obtain ⟨g, cap, -, -, -, -, -, -, -, -, hv, hnc, hcm, -, hgl, -⟩ := h.at h0
    refine .inr ⟨g, cap, hv, hnc, hcm, hgl, fun i hi => ?_⟩
    obtain ⟨g', cap', b, a, n, c, b2, a2, n2, c2, hv', -, -, -, -, k0, k1, k2, k3, u1, u2⟩ := h.at hi
    rw [hv] at hv'
    simp only [Value.slice.injEq, Option.some.injEq, Addr.mk.injEq, and_true, true_and] at hv'
    obtain ⟨rfl, rfl⟩ := hv'
    rw [rvL_0, rvL_1]
    exact ⟨a, n, c, a2, n2, c2, by rw [← u1.neg]; exact k0, k1, by rw [← u2.neg]; exact k2, k3, u1.row, u2.row⟩
def wvL (M : List WV) (j : Nat) : Bool × List Int := ((M[j]?.getD wv0).neg, (M[j]?.getD wv0).zs)
theorem OwnW.rd {W : World} {B n : Nat} {v : Value} {M : List WV} (h : OwnW W B v n M) : RdR W v n (wvL M) := by
  have hc := h.cnt
  rcases h.shape with h1 | ⟨g, cap, hv, hnc, hcm, -, hgl, hcl, -⟩
  · exact .inl h1
  · refine .inr ⟨g, cap, hv, hnc, hcm, hgl, fun i hi => ?_⟩
    obtain ⟨k0, k1⟩ := hcl (2 * i) (by omega)
    obtain ⟨k2, k3⟩ := hcl (2 * i + 1) (by omega)
    rw [show 2 * i * 2 = i * 4 by omega] at k0 k1
    rw [show (2 * i + 1) * 2 = i * 4 + 2 by omega] at k2 k3
    exact ⟨_, _, _, _, _, _, k0, k1, k2, k3, (h.own (2 * i) (by omega)).sx, (h.own (2 * i + 1) (by omega)).sx⟩
/-- the numbers that the marks have reached before whole number j -/
def mkK (k : Int) (l : Nat → Nat) : Nat → Int
  | 0 => k
  | j + 1 => mkK k l j + 1 + l j
def mkL (k : Int) (l : Nat → Nat) (j : Nat) : Bool × List Int := (mkK k l j % 3 == 0, marks (mkK k l j + 1) (l j))
theorem mkK_pos {k : Int} {l : Nat → Nat} (hk : 0 ≤ k) : ∀ j, 0 ≤ mkK k l j
  | 0 => hk
  | j + 1 => by have := mkK_pos (l := l) hk j; simp only [mkK]; omega
theorem mkK_le {k : Int} {l : Nat → Nat} {C m : Nat} (hl : ∀ j, j < m → l j ≤ C) : ∀ j, j ≤ m → mkK k l j ≤ k + j * (C + 1)
  | 0, _ => by simp [mkK]
  | j + 1, h => by
    have h1 := mkK_le hl (k := k) j (by omega)
    have h2 := hl j (by omega)
    have e : (j + 1) * (C + 1) = j * (C + 1) + (C + 1) := Nat.succ_mul j (C + 1)
    simp only [mkK]
    have : ((j + 1 : Nat) : Int) * ((C : Int) + 1) = (j : Int) * ((C : Int) + 1) + ((C : Int) + 1) := by rw [Int.natCast_succ, Int.add_mul, Int.one_mul]
    rw [this]
    omega
end
end Go.Proofs.Ytijpfnkhaldfeaa
