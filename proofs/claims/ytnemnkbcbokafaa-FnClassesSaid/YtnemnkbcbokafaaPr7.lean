/- The bad primes of a quartic: the reference. -/
import Derived.Test.YtnemnkbcbokafaaPr6
import Derived.Test.YtnemnkbcbokafaaBy
import Derived.Test.YtnemnkbcbokafaaLoA
namespace Go.Proofs.Ytnemnkbcbokafaa
open Go.RowKit
set_option linter.unusedVariables false
set_option maxHeartbeats 4000000
set_option maxRecDepth 20000
set_option linter.unusedSimpArgs false
theorem OwnF.shape {W : World} {B : Nat} {v : Value} {ps : List Int} (h : OwnF W B v ps) : ∃ a c, v = .slice a ps.length c ∧ ∀ j, j < ps.length → ∃ g gj, a = some ⟨g, 0, none⟩ ∧ g < W.heap.size ∧ W.cell? ⟨g, j, none⟩ = some (.slice (some ⟨gj, 0, none⟩) 2 2) ∧ gj < W.heap.size ∧ W.cell? ⟨gj, 0, none⟩ = some (.int .i64 (ps[j]?.getD 0)) := by
  obtain ⟨gs, h1, h2, h3⟩ := h
  have hcell : ∀ g n c, v = .slice (some ⟨g, 0, none⟩) n c → ∀ j u, (gs.map slV2)[j]? = some u → W.cell? ((⟨g, 0, none⟩ : Addr).add j) = some u := fun g n c e => by subst e; exact h2.cells rfl
  rcases h2.2 with ⟨rfl, h0⟩ | ⟨g, cap, cur, rfl, hB, hg, _⟩
  · exact ⟨none, 0, by rw [h0], fun j hj => by omega⟩
  · refine ⟨_, _, rfl, fun j hj => ?_⟩
    obtain ⟨k, hk⟩ := h3 j hj
    refine ⟨g, gs[j]?.getD 0, rfl, blk_lt' hg, ?_, blk_lt' hk, blk_cell hk 0⟩
    have := hcell g _ _ rfl j (slV2 (gs[j]?.getD 0)) (by rw [List.getElem?_map, List.getElem?_eq_getElem (by omega)]; rfl)
    unfold Addr.add at this
    split at this
    · rename_i e; subst e; exact this
    · simpa [slV2] using this
/-- the bad primes when i of the three numbers are done -/
def bqL (D C d : Int) (i : Nat) : List Int := putA [2] ((if 0 < i then prL D.natAbs else []) ++ (if 1 < i then prL C.natAbs else []) ++ (if 2 < i then prL d.natAbs else []))
def bqN (D C d : Int) (i : Nat) : Int := if i = 0 then D else if i = 1 then C else d
theorem bqL_step (D C d : Int) {i : Nat} (h : i < 3) : bqL D C d (i + 1) = putA (bqL D C d i) (prL (bqN D C d i).natAbs) := by
  unfold bqL
  rw [← putA_append]
  rcases (show i = 0 ∨ i = 1 ∨ i = 2 by omega) with rfl | rfl | rfl <;> simp [bqN]
theorem bqL_end (D A C : Int) : bqL D C (dsc D A C) 3 = bdL D A C := by simp [bqL, bdL]
theorem bqL_len (D C d : Int) (i : Nat) (h1 : D.natAbs ≤ 100000000000) (h2 : C.natAbs ≤ 100000000000) (h3 : d.natAbs ≤ 100000000000) : 0 < (bqL D C d i).length ∧ (bqL D C d i).length ≤ 300000000001 := by
  have g1 := prL_len (n := D.natAbs) (by omega)
  have g2 := prL_len (n := C.natAbs) (by omega)
  have g3 := prL_len (n := d.natAbs) (by omega)
  refine ⟨List.length_pos_iff.2 fun e => ?_, ?_⟩
  · have : (2 : Int) ∈ bqL D C d i := putA_mem.2 (.inl (by simp))
    rw [e] at this; cases this
  · refine Nat.le_trans (putA_len _ _) ?_
    simp only [List.length_append, List.length_cons, List.length_nil]
    split <;> split <;> split <;> simp <;> omega
theorem putA_snoc (l m : List Int) {j : Nat} (h : j < m.length) : putA l (m.take (j + 1)) = putS (putA l (m.take j)) (m[j]?.getD 0) := by
  rw [List.take_add_one, List.getElem?_eq_getElem h, putA_append]; rfl
theorem putA_pos {l m : List Int} (h : 0 < l.length) : 0 < (putA l m).length := by
  refine List.length_pos_iff.2 fun e => ?_
  have : l[0] ∈ putA l m := putA_mem.2 (.inl (by simp))
  rw [e] at this; cases this
/-- a contract's value: a slice that holds the numbers zs -/
def NewX' (w : World) (zs : List Int) (ok : Bool) (e : Ending) (w' : World) : Prop := ∃ a n c, e = .returned (.tuple #[.slice a n c, .bool ok]) ∧ Sx w' a n c zs ∧ Below w.heap.size w w'
end Go.Proofs.Ytnemnkbcbokafaa
