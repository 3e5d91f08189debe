/- Lemmas and contracts of functions. No condition. -/
import Derived.Test.YtbnglnbcfabmgaaPk15
import Derived.Test.YtbnglnbcfabmgaaPk43
import Derived.Maps.AppendAt
namespace Go.Proofs.Ytbnglnbcfabmgaa
open Go.RowKit
set_option linter.unusedVariables false
set_option maxHeartbeats 4000000
set_option maxRecDepth 20000
set_option linter.unusedSimpArgs false
theorem infoPt : (Try.prog.info? 45).map (fun i => (i.zero, i.size, i.bytes)) = some (some (.agg #[.int .i64 0, .int .i64 0, .int .i64 0]), 3, 24) := by kernel_rfl
def flat3 : List P3 → List Int
 | [] => []
 | (a, b, c) :: l => a :: b :: c :: flat3 l
theorem flat3_len : ∀ l, (flat3 l).length = 3 * l.length
 | [] => rfl
 | (a, b, c) :: l => by simp [flat3, flat3_len l]; omega
theorem flat3_append : ∀ l m, flat3 (l ++ m) = flat3 l ++ flat3 m
 | [], m => rfl
 | (a, b, c) :: l, m => by simp [flat3, flat3_append l m]
theorem flat3_at : ∀ (l : List P3) (i : Nat), i < l.length → (flat3 l)[i * 3]?.getD 0 = (l[i]?.getD (0, 0, 0)).1 ∧ (flat3 l)[i * 3 + 1]?.getD 0 = (l[i]?.getD (0, 0, 0)).2.1 ∧ (flat3 l)[i * 3 + 2]?.getD 0 = (l[i]?.getD (0, 0, 0)).2.2
 | (a, b, c) :: l, 0, _ => by simp [flat3]
 | (a, b, c) :: l, i + 1, h => by
  have := flat3_at l i (by simpa using h)
  simpa [flat3, Nat.add_mul, Nat.succ_mul] using this
/-- a row of points that a call has made -/
def OwnX (W : World) (B : Nat) (v : Value) (l : List P3) : Prop := W.ownsRow B 45 3 v l.length (ints (flat3 l))
theorem OwnX.below {W W2 : World} {B : Nat} {v : Value} {l : List P3} (h : OwnX W B v l) (hb : Below W.heap.size W W2) : OwnX W2 B v l :=
 ⟨h.1, h.2.imp id fun ⟨g, cap, cur, hv, hB, hg, rest⟩ => ⟨g, cap, cur, hv, hB, (hb.block g (blk_lt' hg)).trans hg, rest⟩⟩
theorem OwnX.nil (W : World) (B : Nat) : OwnX W B (.slice none 0 0) [] := World.ownsRow_nil _ _ _ _
theorem OwnX.toX {W : World} {B : Nat} {v : Value} {l : List P3} (h : OwnX W B v l) : SlX W B 3 v l.length (flat3 l) := by
 refine ⟨flat3_len l, ?_⟩
 obtain ⟨hx, h⟩ := h
 rcases h with ⟨h1, h2⟩ | ⟨g, cap, cur, hv, hB, hg, hnc, hcm, hcs, ht⟩
 ·exact .inl ⟨h1, h2⟩
 ·refine .inr ⟨g, cap, hv, hnc, hcm, hB, blk_lt' hg, fun j hj => ⟨?_, blk_frozen hg _⟩⟩
  rw [cell_of_row W g j cur 45 (0, 0) hg]
  have hl := flat3_len l
  have h3 : (ints (flat3 l))[j]? = cur[j]? := by rw [← ht, List.getElem?_take, if_pos (by omega)]; simp
  rw [← h3, ints_at _ j hj, List.getD_eq_getElem?_getD]
theorem cells3_new' (w : World) (x y z : Value) (t : TypeId) : ∀ j u, [x, y, z][j]? = some u → (w.alloc (.cells #[x, y, z] t)).cell? ((⟨w.heap.size, 0, none⟩ : Addr).add j) = some u := by
 intro j u hj
 match j, hj with
 | 0, hj => simp at hj; subst hj; simp [Addr.add]
 | 1, hj => simp at hj; subst hj; simp [Addr.add]
 | 2, hj => simp at hj; subst hj; simp [Addr.add]
theorem row_typeX {W : World} {B : Nat} {v : Value} {l : List P3} (h : OwnX W B v l) {i t : Nat} {c : Array Value} (hi : W.heap[i]? = some (Obj.cells c t (0, 0))) (hte : t ≠ 45) : some i ≠ v.ownBlock := by
 rcases h.2 with ⟨rfl, _⟩ | ⟨g, cap, cur, rfl, hB, hgb, _⟩
 ·simp [Value.ownBlock]
 ·intro e'
  obtain rfl : i = g := by simpa [Value.ownBlock] using e'
  rw [hi] at hgb; simp at hgb
  exact hte hgb.2
noncomputable def hvA (A B x e : Int) : List P3 := if (exR (evV A B x e)).2 = true then pm (x, hvY A B x e, e) else []
theorem keepX {W V : World} {b : Nat} {X : Obj} (h : Below W.heap.size W V) (e : W.heap[b]? = some X) : V.heap[b]? = some X := (h.block b (Array.getElem?_eq_some_iff.1 e).1).trans e
end Go.Proofs.Ytbnglnbcfabmgaa
