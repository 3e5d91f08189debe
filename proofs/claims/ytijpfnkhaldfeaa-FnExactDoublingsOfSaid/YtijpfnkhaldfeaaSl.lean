/- Slices of integers as values in memory; rows that a call itself has made. No program in sight. -/
import Derived.Test.YtijpfnkhaldfeaaOwn
import Derived.Test.YtijpfnkhaldfeaaDrA
import Derived.Laws.AppendOwnNone
namespace Go.Proofs.Ytijpfnkhaldfeaa
open Go.RowKit
set_option linter.unusedVariables false
set_option linter.unusedSimpArgs false

def ints (zs : List Int) : List Value := zs.map (Value.int .i64)
theorem ints_len (zs : List Int) : (ints zs).length = zs.length := by simp [ints]
theorem ints_at (zs : List Int) (j : Nat) (h : j < zs.length) : (ints zs)[j]? = some (.int .i64 (zs.getD j 0)) := by simp [ints, List.getD, h]
theorem ints_set (zs : List Int) (k : Nat) (x : Int) : (ints zs).toArray.setIfInBounds k (.int .i64 x) = (ints (zs.set k x)).toArray := by simp [ints, List.map_set]
theorem ints_append (a b : List Int) : ints (a ++ b) = ints a ++ ints b := by simp [ints]
theorem ints_one (x : Int) : ints [x] = [.int .i64 x] := rfl
theorem ints_cell {zs : List Int} : ∀ u ∈ ints zs, u.oneCell' = true := fun u hu => by
  obtain ⟨x, _, rfl⟩ := List.mem_map.1 hu; rfl
theorem ints_zeros (n : Nat) : (madeCells (Value.int .i64 0).cells (n * 1)).toList = ints (List.replicate n 0) := by
  apply List.ext_getElem?
  intro i
  by_cases hi : i < n
  · simp [madeCells, ints, Value.cells, List.getElem?_replicate, hi, Nat.mod_one]
  · simp [madeCells, ints, Value.cells, List.getElem?_replicate, hi]

/-- the slice's address a holds the numbers zs -/
def SlA (W : World) (a : Option Addr) (zs : List Int) : Prop := 0 < zs.length → ∃ b off, a = some ⟨b, off, none⟩ ∧ b < W.heap.size ∧ ∀ j, j < zs.length → W.cell? ⟨b, off + j, none⟩ = some (.int .i64 (zs.getD j 0))
/-- the slice of address a, length n, capacity c holds the numbers zs -/
structure Sx (W : World) (a : Option Addr) (n c : Nat) (zs : List Int) : Prop where
  len : zs.length = n
  cap : n ≤ c
  max : c ≤ maxLen
  nil : a = none → c = 0
  row : SlA W a zs
theorem SlA.below {W W2 : World} {a : Option Addr} {zs : List Int} (h : SlA W a zs) (hb : Below W.heap.size W W2) : SlA W2 a zs := fun h0 => by
  obtain ⟨b, off, h1, h2, h3⟩ := h h0
  exact ⟨b, off, h1, by have := hb.size; omega, fun j hj => (hb.cell (p := ⟨b, off + j, none⟩) h2).trans (h3 j hj)⟩
theorem Sx.below {W W2 : World} {a : Option Addr} {n c : Nat} {zs : List Int} (h : Sx W a n c zs) (hb : Below W.heap.size W W2) : Sx W2 a n c zs := ⟨h.len, h.cap, h.max, h.nil, h.row.below hb⟩
theorem SlA.take {W : World} {a : Option Addr} {zs : List Int} (h : SlA W a zs) (k : Nat) : SlA W a (zs.take k) := fun h0 => by
  have hl : 0 < zs.length := by simp at h0; omega
  obtain ⟨b, off, h1, h2, h3⟩ := h hl
  refine ⟨b, off, h1, h2, fun j hj => ?_⟩
  rw [List.length_take] at hj
  have hjk : j < k := by omega
  rw [h3 j (by omega)]
  simp [List.getD, List.getElem?_take, hjk]
theorem Sx.none (W : World) : Sx W none 0 0 [] := ⟨rfl, Nat.le_refl _, Nat.zero_le _, fun _ => rfl, fun h => absurd h (by simp)⟩
theorem Sx.take {W : World} {a : Option Addr} {n c : Nat} {zs : List Int} (h : Sx W a n c zs) {k : Nat} (hk : k ≤ n) : Sx W a k c (zs.take k) :=
  ⟨by have := h.len; simp; omega, by have := h.cap; omega, h.max, h.nil, h.row.take k⟩
theorem Sx.of_row {W : World} {g n c : Nat} {zs : List Int} {cur : Array Value} {T : TypeId} {fr : Nat × Nat} (hk : W.heap[g]? = some (.cells cur T fr)) (hn : zs.length = n) (hc : n ≤ c) (hm : c ≤ maxLen) (ht : ∀ j, j < n → cur[j]? = some (.int .i64 (zs.getD j 0))) : Sx W (some ⟨g, 0, Option.none⟩) n c zs :=
  ⟨hn, hc, hm, (fun h => by cases h), fun _ => ⟨g, 0, rfl, blk_lt' hk, fun j hj => by rw [cell_of_row W g (0 + j) cur T fr hk, Nat.zero_add]; exact ht j (by omega)⟩⟩
/-- the address lies in a block from B on -/
def Fr (B : Nat) (a : Option Addr) : Prop := ∀ A, a = some A → B ≤ A.block
theorem Fr.mono {B B' : Nat} {a : Option Addr} (h : Fr B a) (hB : B' ≤ B) : Fr B' a := fun A e => Nat.le_trans hB (h A e)
theorem SlA.set {W : World} {a : Option Addr} {zs : List Int} (h : SlA W a zs) {g : Nat} (hg : ∀ A, a = some A → A.block ≠ g) (o : Nat) (v : Value) : SlA (W.setCell ⟨g, o, Option.none⟩ v) a zs := fun h0 => by
  obtain ⟨b, off, h1, h2, h3⟩ := h h0
  refine ⟨b, off, h1, by simpa [World.setCell] using h2, fun j hj => ?_⟩
  rw [← h3 j hj]
  exact World.cell?_of_block (a := ⟨b, off + j, Option.none⟩) (Below.heap_setCell W ⟨g, o, Option.none⟩ v b (hg _ h1))
theorem Sx.set {W : World} {a : Option Addr} {n c : Nat} {zs : List Int} (h : Sx W a n c zs) {g : Nat} (hg : ∀ A, a = some A → A.block ≠ g) (o : Nat) (v : Value) : Sx (W.setCell ⟨g, o, Option.none⟩ v) a n c zs := ⟨h.len, h.cap, h.max, h.nil, h.row.set hg o v⟩
theorem Sx.of_owns {W : World} {B : Nat} {T : TypeId} {v : Value} {n : Nat} {zs : List Int} (h : W.ownsRow B T 1 v n (ints zs)) : ∃ a c, v = .slice a n c ∧ Sx W a n c zs ∧ Fr B a := by
  obtain ⟨hl, h⟩ := h
  rw [ints_len, Nat.mul_one] at hl
  subst hl
  rcases h with ⟨rfl, h⟩ | ⟨g, c, cur, rfl, hB, hg, hnc, hcm, hcs, ht⟩
  · have : zs = [] := List.length_eq_zero_iff.1 h
    subst this; exact ⟨_, _, rfl, Sx.none W, fun A e => by cases e⟩
  · refine ⟨_, _, rfl, Sx.of_row hg rfl hnc hcm fun j hj => ?_, fun A e => by cases e; exact hB⟩
    have h2 := ints_at zs j hj
    rw [← ht, List.getElem?_take, if_pos (by omega)] at h2
    simpa using h2
theorem Sx.at {W : World} {a : Option Addr} {n c : Nat} {zs : List Int} (h : Sx W a n c zs) (h0 : 0 < n) : ∃ b off, a = some ⟨b, off, Option.none⟩ ∧ b < W.heap.size ∧ ∀ j, j < n → W.cell? ⟨b, off + j, Option.none⟩ = some (.int .i64 (zs[j]?.getD 0)) := by
  obtain ⟨b, off, h1, h2, h3⟩ := h.row (by rw [h.len]; exact h0)
  refine ⟨b, off, h1, h2, fun j hj => ?_⟩
  have := h3 j (by rw [h.len]; exact hj)
  rwa [List.getD_eq_getElem?_getD] at this
theorem SlA.cell {W : World} {b off : Nat} {zs : List Int} (h : SlA W (some ⟨b, off, none⟩) zs) {j : Nat} (hj : j < zs.length) : W.cell? ⟨b, off + j, none⟩ = some (.int .i64 (zs.getD j 0)) := by
  obtain ⟨b', off', h1, _, h3⟩ := h (by omega)
  simp only [Option.some.injEq, Addr.mk.injEq, and_true] at h1
  obtain ⟨rfl, rfl⟩ := h1
  exact h3 j hj
theorem SlA.src {W : World} {A : Addr} {zs : List Int} (h : SlA W (some A) zs) : ∀ j u, (ints zs)[j]? = some u → W.cell? (A.add j) = some u := fun j u hj => by
  have hl : j < (ints zs).length := by
    rcases Nat.lt_or_ge j (ints zs).length with h' | h'
    · exact h'
    · rw [List.getElem?_eq_none h'] at hj; cases hj
  rw [ints_len] at hl
  obtain ⟨b, off, h1, _, h3⟩ := h (by omega)
  obtain rfl := Option.some.inj h1
  rw [ints_at zs j hl] at hj
  obtain rfl := Option.some.inj hj
  have h4 := h3 j hl
  by_cases h0 : j = 0
  · subst h0; simpa [Addr.add] using h4
  · simpa [Addr.add, h0] using h4
theorem cap_pos {a : Option Addr} {c n : Nat} (h : a = none → c = 0) (hn : n ≤ c) (h0 : 0 < n) : ∃ A, a = some A := by
  cases a with
  | none => have := h rfl; omega
  | some A => exact ⟨A, rfl⟩
/-- a new row of zeros -/
theorem made_row {W W' : World} {base : Nat} {T : TypeId} {n : Nat} (h : W'.ownsRow base T 1 (.slice (some ⟨W.heap.size, 0, none⟩) n n) n (madeCells (Value.int .i64 0).cells (n * 1)).toList) :
    W'.heap[W.heap.size]? = some (.cells (ints (List.replicate n 0)).toArray T (0, 0)) := by
  rw [ints_zeros] at h
  obtain ⟨hl, h⟩ := h
  rcases h with ⟨h, _⟩ | ⟨g, c, cur, hv, hB, hg, hnc, hcm, hcs, ht⟩
  · cases h
  · simp only [Value.slice.injEq, Option.some.injEq, Addr.mk.injEq, and_true, true_and] at hv
    obtain ⟨rfl, rfl⟩ := hv
    rw [hg]
    rw [List.take_of_length_le (by simp [hcs])] at ht
    rw [← ht]
theorem OnlyAt.cell {g : Nat} {W W2 : World} (h : OnlyAt g W W2) {b : Nat} (hb : b ≠ g) (o : Nat) : W2.cell? ⟨b, o, none⟩ = W.cell? ⟨b, o, none⟩ := World.cell?_of_block (a := ⟨b, o, none⟩) (h.block b hb)
theorem OnlyAt.froz {g : Nat} {W W2 : World} (h : OnlyAt g W W2) {b : Nat} (hb : b ≠ g) (o : Nat) : W2.frozen? ⟨b, o, none⟩ = W.frozen? ⟨b, o, none⟩ := World.frozen?_of_block (a := ⟨b, o, none⟩) (h.block b hb)
theorem OnlyAt.sla {g : Nat} {W W2 : World} (h : OnlyAt g W W2) {a : Option Addr} {zs : List Int} (hs : SlA W a zs) (hg : ∀ b off, a = some ⟨b, off, none⟩ → b ≠ g) : SlA W2 a zs := fun h0 => by
  obtain ⟨b, off, h1, h2, h3⟩ := hs h0
  exact ⟨b, off, h1, by rw [h.size]; exact h2, fun j hj => (h.cell (hg b off h1) (off + j)).trans (h3 j hj)⟩
theorem row_at {W : World} {g : Nat} {zs : List Int} {T : TypeId} (h : W.heap[g]? = some (.cells (ints zs).toArray T (0, 0))) {j : Nat} (hj : j < zs.length) : W.cell? ⟨g, j, none⟩ = some (.int .i64 (zs.getD j 0)) := by
  rw [cell_of_row W g j _ T (0, 0) h]
  simpa using ints_at zs j hj
theorem row_set {W : World} {g : Nat} {zs : List Int} {T : TypeId} (h : W.heap[g]? = some (.cells (ints zs).toArray T (0, 0))) (k : Nat) (x : Int) : (W.setCell ⟨g, k, none⟩ (.int .i64 x)).heap[g]? = some (.cells (ints (zs.set k x)).toArray T (0, 0)) := by
  rw [blk_set h, ints_set]
theorem Sx.alloc {W : World} {a : Option Addr} {n c : Nat} {zs : List Int} (h : Sx W a n c zs) (o : Obj) : Sx (W.alloc o) a n c zs := h.below ((Below.refl _ _).alloc (Nat.le_refl _) o)
theorem Sx.drew {W : World} {a : Option Addr} {n c : Nat} {zs : List Int} (h : Sx W a n c zs) : Sx W.drew a n c zs := h.below (Below.refl _ _).drew
/-- behind an append to a row of the call's own from B + 1 on, block B lies as it lay -/
theorem grown_at {wr w1 : World} {X : Obj} {sv : Value} {B n : Nat} {xs : List Value} {T : TypeId} (ho : wr.ownsRow (B + 1) T 1 sv n xs) (hg : (wr.alloc X).grownBy w1 sv.ownBlock) (hB : B < wr.heap.size) : w1.heap[B]? = wr.heap[B]? := by
  rw [hg.block B (by simp; omega) (fun e => by have := ho.lt B e.symm; omega)]
  exact heap_alloc_old wr X hB
theorem grown_below {w wr w1 : World} {X : Obj} {sv : Value} {B n : Nat} {xs : List Value} {T : TypeId} (hb : Below B w wr) (ho : wr.ownsRow (B + 1) T 1 sv n xs) (hg : (wr.alloc X).grownBy w1 sv.ownBlock) (hB : B < wr.heap.size) : Below B w w1 :=
  (hb.alloc (by omega) X).grown hg (by simp; omega) (fun k e => by have := ho.lt k e; omega)
/-- world wr: row g holds qs, everything else is as in W0 -/
structure RowW (W0 wr : World) (g : Nat) (T : TypeId) (qs : List Int) : Prop where
  only : OnlyAt g W0 wr
  row : wr.heap[g]? = some (.cells (ints qs).toArray T (0, 0))
theorem RowW.cell {W0 wr : World} {g : Nat} {T : TypeId} {qs : List Int} (h : RowW W0 wr g T qs) {j : Nat} (hj : j < qs.length) : wr.cell? ⟨g, j, none⟩ = some (.int .i64 (qs[j]?.getD 0)) := by
  have := row_at h.row hj
  rwa [List.getD_eq_getElem?_getD] at this
theorem RowW.free {W0 wr : World} {g : Nat} {T : TypeId} {qs : List Int} (h : RowW W0 wr g T qs) (j : Nat) : wr.frozen? ⟨g, j, none⟩ = false := by simp [World.frozen?, h.row]
theorem RowW.set {W0 wr : World} {g : Nat} {T : TypeId} {qs : List Int} (h : RowW W0 wr g T qs) (k : Nat) (x : Int) : RowW W0 (wr.setCell ⟨g, k, none⟩ (.int .i64 x)) g T (qs.set k x) := ⟨h.only.setCell k _, row_set h.row k x⟩
theorem RowW.size {W0 wr : World} {g : Nat} {T : TypeId} {qs : List Int} (h : RowW W0 wr g T qs) : wr.heap.size = W0.heap.size := h.only.size
theorem RowW.below {w W0 wr : World} {g B : Nat} {T : TypeId} {qs : List Int} (h : RowW W0 wr g T qs) (hb : Below B w W0) (hg : B ≤ g) : Below B w wr := h.only.below hb hg
theorem RowW.sx {W0 wr : World} {g : Nat} {T : TypeId} {qs : List Int} (h : RowW W0 wr g T qs) {n : Nat} (hn : qs.length = n) (hm : n ≤ maxLen) : Sx wr (some ⟨g, 0, none⟩) n n qs :=
  Sx.of_row h.row hn (Nat.le_refl _) hm fun j hj => by simpa using ints_at qs j (by omega)
theorem RowW.start {w W0 : World} {base : Nat} {T : TypeId} {n : Nat} (h : W0.ownsRow base T 1 (.slice (some ⟨w.heap.size, 0, none⟩) n n) n (madeCells (Value.int .i64 0).cells (n * 1)).toList) : RowW W0 W0 w.heap.size T (List.replicate n 0) := ⟨OnlyAt.refl _ _, made_row h⟩
/-- behind a make: what lay lies as it lay -/
theorem made_below {B : Nat} {a w W0 : World} (hb : Below B a w) (hg : w.grownBy W0 none) (hB : B ≤ w.heap.size) : Below B a W0 := hb.grown hg hB (fun k e => by cases e)
theorem made_at {w W0 : World} (hg : w.grownBy W0 none) {b : Nat} (hb : b < w.heap.size) : W0.heap[b]? = w.heap[b]? := hg.block b hb (by simp)
end Go.Proofs.Ytijpfnkhaldfeaa
