/- Sorted rows without repetitions: slices.Sort and slices.Compact at a row of integers that a call has made. -/
import Derived.Test.YtnemnkbcbokafaaPr1
import Derived.Test.YtnemnkbcbokafaaLay
namespace Go.Proofs.Ytnemnkbcbokafaa
open Go.RowKit
set_option linter.unusedVariables false
set_option maxHeartbeats 4000000
set_option maxRecDepth 20000
set_option linter.unusedSimpArgs false
/-! ### plain -/
theorem compact_ok (d : Array Int) (hs : ∀ i j, i < j → j < d.size → d[i]! ≤ d[j]!) : ∀ m, m ≤ d.size → (Go.Lib.compactUpTo d m).Pairwise (· < ·) ∧ ∀ x, x ∈ Go.Lib.compactUpTo d m ↔ ∃ j, j < m ∧ d[j]! = x
  | 0, _ => by simp [Go.Lib.compactUpTo]
  | m + 1, hm => by
    obtain ⟨h1, h2⟩ := compact_ok d hs m (by omega)
    rw [Go.Lib.compactUpTo_succ]
    cases hk : Go.Lib.keeps d m
    · simp only [Bool.false_eq_true, if_false, List.append_nil]
      refine ⟨h1, fun x => ?_⟩
      have hd : ¬ (m = 0 ∨ d[m]! ≠ d[m - 1]!) := by simpa [Go.Lib.keeps] using hk
      rw [h2]
      constructor
      · rintro ⟨j, hj, e⟩; exact ⟨j, by omega, e⟩
      · rintro ⟨j, hj, e⟩
        by_cases hjm : j = m
        · subst hjm
          refine ⟨j - 1, by omega, ?_⟩
          rw [← e]
          have : ¬ (d[j]! ≠ d[j - 1]!) := fun q => hd (.inr q)
          have := Decidable.not_not.1 this
          exact this.symm
        · exact ⟨j, by omega, e⟩
    · simp only [if_true]
      have hd : m = 0 ∨ d[m]! ≠ d[m - 1]! := by simpa [Go.Lib.keeps] using hk
      refine ⟨?_, fun x => ?_⟩
      · rw [List.pairwise_append]
        refine ⟨h1, by simp, fun x hx y hy => ?_⟩
        simp only [List.mem_singleton] at hy
        subst hy
        obtain ⟨j, hj, e⟩ := (h2 x).1 hx
        have hm0 : m ≠ 0 := by omega
        have h3 := hs (m - 1) m (by omega) (by omega)
        have h4 : d[m]! ≠ d[m - 1]! := hd.resolve_left hm0
        have h5 : d[j]! ≤ d[m - 1]! := by
          by_cases hjm : j = m - 1
          · rw [hjm]; exact Int.le_refl _
          · exact hs j (m - 1) (by omega) (by omega)
        omega
      · rw [List.mem_append, h2, List.mem_singleton]
        constructor
        · rintro (⟨j, hj, e⟩ | e)
          · exact ⟨j, by omega, e⟩
          · exact ⟨m, by omega, e.symm⟩
        · rintro ⟨j, hj, e⟩
          by_cases hjm : j = m
          · subst hjm; exact .inr e.symm
          · exact .inl ⟨j, by omega, e⟩
def sortL (l : List Int) : List Int := l.mergeSort fun x y => decide (x ≤ y)
theorem sortL_len (l : List Int) : (sortL l).length = l.length := by unfold sortL; exact List.length_mergeSort _
theorem sortL_mem {l : List Int} {x : Int} : x ∈ sortL l ↔ x ∈ l := by unfold sortL; exact List.mem_mergeSort
theorem sortL_sorted (l : List Int) : (sortL l).Pairwise (· ≤ ·) := by
  have := List.pairwise_mergeSort (le := fun x y : Int => decide (x ≤ y)) (fun a b c h1 h2 => by simp only [decide_eq_true_eq] at *; omega) (fun a b => by simp only [Bool.or_eq_true, decide_eq_true_eq]; omega) l
  exact this.imp fun h => by simpa using h
theorem compact_sort (l : List Int) {m : List Int} (hm : m.Pairwise (· < ·)) (h : ∀ x, x ∈ m ↔ x ∈ l) : Go.Lib.compact (sortL l) = m := by
  have hs : ∀ i j, i < j → j < (sortL l).toArray.size → (sortL l).toArray[i]! ≤ (sortL l).toArray[j]! := by
    intro i j hij hj
    have hj' : j < (sortL l).length := by simpa using hj
    have := List.pairwise_iff_getElem.1 (sortL_sorted l) i j (by omega) hj' hij
    rw [getElem!_pos _ i (by simpa using (show i < (sortL l).length by omega)), getElem!_pos _ j hj]
    simpa using this
  obtain ⟨h1, h2⟩ := compact_ok (sortL l).toArray hs (sortL l).length (by simp)
  unfold Go.Lib.compact
  refine sorted_ext h1 hm fun x => ?_
  rw [h2, h, ← sortL_mem (l := l)]
  constructor
  · rintro ⟨j, hj, rfl⟩
    rw [getElem!_pos _ j (by simpa using hj)]
    simp
  · intro hx
    obtain ⟨j, hj, e⟩ := List.getElem_of_mem hx
    exact ⟨j, hj, by rw [getElem!_pos _ j (by simpa using hj)]; simpa using e⟩
theorem compact_len (l : List Int) : (Go.Lib.compact l).length ≤ l.length := by
  unfold Go.Lib.compact Go.Lib.compactUpTo
  rw [List.length_map]
  have := List.length_filter_le (Go.Lib.keeps l.toArray) (List.range l.length)
  simpa using this
/-! ### rows -/
theorem far_row {W : World} {g o n : Nat} {d : Array Int} {os : Array Obj} {B : Nat} (hg : g < W.heap.size) (hB : B ≤ g) : Below B W (Go.Sort.grow (Go.Sort.putRow (Value.int .i64) (Go.Sort.ahead W n) g o d) os) := by
  have hs : (Go.Sort.putRow (Value.int .i64) (Go.Sort.ahead W n) g o d).heap.size = W.heap.size := by simp [Go.Sort.putRow, Go.Sort.mapBlock, Go.Sort.ahead]
  refine ⟨rfl, rfl, rfl, ?_, fun k hk => ?_⟩
  · show W.heap.size ≤ ((Go.Sort.putRow (Value.int .i64) (Go.Sort.ahead W n) g o d).heap ++ os).size
    rw [Array.size_append, hs]; omega
  · rw [Go.Sort.heap_grow_old _ _ (by rw [hs]; omega)]
    simp only [Go.Sort.putRow, Go.Sort.mapBlock, Go.Sort.ahead, Array.getElem?_modify]
    rw [if_neg (by omega)]
/-- the cells of block g from 0 on hold the numbers zs, none of them frozen -/
def RowH (W : World) (g : Nat) (zs : List Int) : Prop := g < W.heap.size ∧ Go.Sort.Holds (Value.int .i64) W g 0 zs.toArray
theorem RowH.sx {W : World} {g c : Nat} {zs : List Int} (h : RowH W g zs) (hc : zs.length ≤ c) (hm : c ≤ maxLen) : Sx W (some ⟨g, 0, none⟩) zs.length c zs :=
  ⟨rfl, hc, hm, (fun e => by cases e), fun _ => ⟨g, 0, rfl, h.1, fun j hj => by
    have := (h.2 j (by simpa using hj)).1
    rw [this, getElem!_pos _ j (by simpa using hj), List.getD_eq_getElem?_getD, List.getElem?_eq_getElem hj]
    simp⟩⟩
theorem OwnI.rowH {W : World} {B g c n : Nat} {T : TypeId} {zs : List Int} (h : OwnI W B T (.slice (some ⟨g, 0, none⟩) n c) zs) : RowH W g zs ∧ zs.length = n ∧ n ≤ c ∧ c ≤ maxLen ∧ B ≤ g := by
  rcases h.shape with ⟨h1, _⟩ | ⟨g', c', h1, h2, h3, h4, h5, h6, h7⟩
  · cases h1
  · simp only [Value.slice.injEq, Option.some.injEq, Addr.mk.injEq, and_true] at h1
    obtain ⟨rfl, rfl, rfl⟩ := h1
    refine ⟨⟨h5, fun j hj => ⟨?_, h7 _⟩⟩, rfl, h2, h3, h4⟩
    have hj' : j < zs.length := by simpa using hj
    rw [Nat.zero_add, h6 j hj', getElem!_pos _ j hj, List.getElem?_eq_getElem hj']
    simp
theorem sort_any (g c : Nat) (zs : List Int) (B : Nat) (W : World) (h : RowH W g zs) (hB : B ≤ g) (hl : zs.length ≤ 4000000000000) : Calls Try.prog 63 #[.slice (some ⟨g, 0, none⟩) zs.length c] W fun e w' =>
    e = .returned (.tuple #[]) ∧ RowH w' g (sortL zs) ∧ Below B W w' := by
  have hcon := AnyM.slices_Sort_int Try.sortI g 0 c zs W h.2 h.1 (by omega)
  change Calls Try.prog 63 _ _ _ at hcon
  refine hcon.mono ?_
  rintro e w' ⟨rfl, n, os, rfl⟩
  refine ⟨rfl, ⟨?_, ?_⟩, far_row h.1 hB⟩
  · have := (far_row (o := 0) (n := n) (d := (zs.mergeSort fun x y => decide (x ≤ y)).toArray) (os := os) h.1 hB).size
    have := h.1
    omega
  · refine Go.Sort.holds_grow _ _ _ _ _ _ ?_ ?_
    · simpa [Go.Sort.putRow, Go.Sort.mapBlock, Go.Sort.ahead] using h.1
    · exact Go.Sort.holds_putRow _ (Go.Sort.ahead W n) g 0 zs.toArray _ h.2 (by simp)
end Go.Proofs.Ytnemnkbcbokafaa
