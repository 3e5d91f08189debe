/- Lemmas and contracts of functions. No condition. -/
import Derived.Test.YtnkmgpmehkholaaGreatPq6
import Derived.Test.YtnkmgpmehkholaaGreatPq11
namespace Go.Proofs.YtnkmgpmehkholaaGreat
open Go.RowKit
set_option linter.unusedVariables false
set_option maxHeartbeats 1000000
set_option maxRecDepth 20000
set_option linter.unusedSimpArgs false
attribute [local go_sem] openAt openUpon
/-- the slice of address a, length n, capacity c holds the points whose numbers are zs, three a point -/
structure Px (W : World) (a : Option Addr) (n c : Nat) (zs : List Int) : Prop where
 len : zs.length = 3 * n
 cap : n ≤ c
 max : c ≤ maxLen
 row : SlA W a zs
theorem Px.below {W W2 : World} {a : Option Addr} {n c : Nat} {zs : List Int} (h : Px W a n c zs) (hb : Below W.heap.size W W2) : Px W2 a n c zs := ⟨h.len, h.cap, h.max, h.row.below hb⟩
theorem Px.at {W : World} {a : Option Addr} {n c : Nat} {zs : List Int} (h : Px W a n c zs) (h0 : 0 < n) : ∃ b off, a = some ⟨b, off, Option.none⟩ ∧ b < W.heap.size ∧ ∀ j, j < 3 * n → W.cell? ⟨b, off + j, Option.none⟩ = some (.int .i64 (zs[j]?.getD 0)) := by
 obtain ⟨b, off, h1, h2, h3⟩ := h.row (by rw [h.len]; omega)
 refine ⟨b, off, h1, h2, fun j hj => ?_⟩
 have := h3 j (by rw [h.len]; exact hj)
 rwa [List.getD_eq_getElem?_getD] at this
theorem Px.of_row {W : World} {g n : Nat} {zs : List Int} {T : TypeId} (hk : W.heap[g]? = some (.cells (ints zs).toArray T (0, 0))) (hn : zs.length = 3 * n) (hm : n ≤ maxLen) : Px W (some ⟨g, 0, Option.none⟩) n n zs :=
 ⟨hn, Nat.le_refl _, hm, fun _ => ⟨g, 0, rfl, blk_lt' hk, fun j hj => by rw [cell_of_row W g (0 + j) _ T (0, 0) hk, Nat.zero_add]; simpa using ints_at zs j hj⟩⟩
end Go.Proofs.YtnkmgpmehkholaaGreat
