/- Lemmas and contracts of functions. No condition. -/
import Derived.Test.YtnemnkbcbokafaaGreatPk19
import Derived.Laws.Bits64b
import Derived.Test.YtnemnkbcbokafaaGreatProg
namespace Go.Proofs.YtnemnkbcbokafaaGreat
open Go.RowKit
set_option linter.unusedVariables false
set_option maxHeartbeats 4000000
set_option linter.unusedSimpArgs false

theorem cur_two {W : World} {g a : Nat} {u0 u1 u2 v1 v2 : Value} {T : TypeId} (h : W.heap[g]? = some (.cells #[u0, u1, u2] T)) : (((W.drewN a).setCell ⟨g, 1, none⟩ v1).setCell ⟨g, 2, none⟩ v2).heap[g]? = some (.cells #[u0, v1, v2] T) := by
 simpa using blk_set (o := 2) (v := v2) (blk_set (o := 1) (v := v1) (W := W.drewN a) h)
theorem cur_dn {W : World} {g k : Nat} {X : Obj} (h : W.heap[g]? = some X) : (W.drewN k).heap[g]? = some X := h
theorem cur_far {W : World} {g g' o : Nat} {v : Value} (hne : g' ≠ g) : (W.setCell ⟨g, o, none⟩ v).heap[g']? = W.heap[g']? := Below.heap_setCell W ⟨g, o, none⟩ v g' hne
theorem CR.write {T : TypeId} {B g : Nat} {w w' : World} {s : Option Addr} {n c : Nat} {x x' y y' : Int} (hk : w.heap[g]? = some (.cells #[.slice s n c, .int .i64 x, .int .u64 y] T (0, 0))) (hk' : w'.heap[g]? = some (.cells #[.slice s n c, .int .i64 x', .int .u64 y'] T (0, 0))) (h0 : 0 ≤ x) (hx : x' = x + 1)
  (hb : ∀ i, i ≠ g → w'.heap[i]? = w.heap[i]?) (hs : w'.heap.size = w.heap.size) (ho : w'.os = w.os) (ht : w'.tape = w.tape) (hp : w'.output = w.output) : CR T B g 1 w w' := by
 refine ⟨ho, ht, hp, by omega, fun i _ hi => hb i hi, fun M hc => ?_⟩
 obtain ⟨s1, n1, c1, x1, y1, e, q0, q1, q2, q3⟩ := hc.blk
 rw [hk] at e
 simp only [Option.some.injEq, Obj.cells.injEq, Array.mk.injEq, List.cons.injEq, Value.slice.injEq, Value.int.injEq, true_and, and_true] at e
 obtain ⟨⟨rfl, rfl, rfl⟩, rfl, rfl⟩ := e
 exact ⟨hc.low, by have := hc.size; omega, s, n, c, x', y', hk', by omega, by omega, q2.keep fun i _ hi => hb i hi, q3⟩
theorem and255 (z : Int) : 0 ≤ wrap64 (bits BinOp.and IntKind.u64 (IntKind.u64.wrap z / 1099511627776) 255) ∧ wrap64 (bits BinOp.and IntKind.u64 (IntKind.u64.wrap z / 1099511627776) 255) ≤ 255 := by
 have h1 : 0 ≤ IntKind.u64.wrap z ∧ IntKind.u64.wrap z < 18446744073709551616 := by rw [IntKind.wrap_u64]; omega
 have h2 : ∃ a : Nat, IntKind.u64.wrap z / 1099511627776 = (a : Int) ∧ a < 18446744073709551616 := ⟨(IntKind.u64.wrap z / 1099511627776).toNat, by omega, by omega⟩
 obtain ⟨a, ha, hl⟩ := h2
 rw [ha, show (255 : Int) = ((255 : Nat) : Int) from rfl, bits_and_u64_nat a 255 hl (by omega)]
 have := Nat.and_le_right (n := a) (m := 255)
 unfold wrap64
 omega
theorem next_any {B g M : Nat} {w : World} (hC : CurB 63 B g M w) (hM : M < 4611686018427387904) : Calls Tryz.prog 89 #[.pointer (some ⟨g, 0, none⟩)] w fun e w' => ∃ x : Int, e = .returned (.int .i64 x) ∧ (0 ≤ x ∧ x ≤ 255) ∧ CR 63 B g 1 w w' := by
 obtain ⟨s, n, c, x, y, hk, h0, hM', hby, hn⟩ := hC.blk
 have k0 := blk_cell hk 0
 have k1 := blk_cell hk 1
 have k2 := blk_cell hk 2
 have f0 := blk_frozen hk
 simp at k0 k1 k2
 by_cases hx : x < n
 ·obtain ⟨b, off, rfl, hb1, hb2, hb⟩ := hby (by omega)
  obtain ⟨v, hv, hv0, hv1⟩ := hb x.toNat (by omega)
  go_enter Tryz.func89, Tryz.ntmps89
  go_wp2_with fail
  go_quiet (fail)
  go_wp2_with fail
  go_quiet (fail)
  go_wp2_with fail
  go_quiet (fail)
  go_wp2_with fail
  go_ret
  refine ⟨_, rfl, ⟨by omega, by omega⟩, CR.write hk (x' := x + 1) (cur_dn (cur_two hk)) h0 rfl (fun i hi => (cur_far hi).trans (cur_far hi)) (by simp [World.setCell, World.drewN]) rfl rfl rfl⟩
 ·go_enter Tryz.func89, Tryz.ntmps89
  go_wp2_with fail
  go_quiet (fail)
  go_wp2_with fail
  go_quiet (fail)
  go_wp2_with fail
  go_ret
  refine ⟨_, rfl, and255 _, CR.write hk (x' := x + 1) (cur_dn (cur_two hk)) h0 rfl (fun i hi => (cur_far hi).trans (cur_far hi)) (by simp [World.setCell, World.drewN]) rfl rfl rfl⟩
theorem pick_any {B g M : Nat} {n : Int} {w : World} (hC : CurB 63 B g M w) (hM : M + 2 < 4611686018427387904) (hn : 1 ≤ n) (hn' : n ≤ 1000000000) :
  Calls Tryz.prog 66 #[.pointer (some ⟨g, 0, none⟩), .int .i64 n] w fun e w' => ∃ x : Int, e = .returned (.int .i64 x) ∧ (0 ≤ x ∧ x < n) ∧ CR 63 B g 2 w w' := by
 have hBs := hC.size
 have hgl := hC.low
 by_cases h1 : n ≤ 1
 ·have tok1 := trivial
  have tok2 := trivial
  go_enter Tryz.func66, Tryz.ntmps66
  go_wp2_with (first | (have _t := tok1; go_at_call 89; refine (next_any cbb (by omega)).mono ?_; rintro e w1 ⟨x1, rfl, ⟨hx1, hy1⟩, hb1⟩; clear tok1 _t; have hz1 := hb1.size; (try simp only [sA, sB, sC, sD] at hz1)) | (have _t := tok2; go_at_call 89; refine (next_any cbb (by omega)).mono ?_; rintro e w2 ⟨x2, rfl, ⟨hx2, hy2⟩, hb2⟩; clear tok2 _t; have hz2 := hb2.size; (try simp only [sA, sB, sC, sD] at hz2)))
  go_ret
  exact ⟨_, rfl, ⟨by omega, by omega⟩, crc⟩
 ·by_cases h2 : n ≤ 200
  ·have tok1 := trivial
   have tok2 := trivial
   go_enter Tryz.func66, Tryz.ntmps66
   go_wp2_with (first | (have _t := tok1; go_at_call 89; refine (next_any cbb (by omega)).mono ?_; rintro e w1 ⟨x1, rfl, ⟨hx1, hy1⟩, hb1⟩; clear tok1 _t; have hz1 := hb1.size; (try simp only [sA, sB, sC, sD] at hz1)) | (have _t := tok2; go_at_call 89; refine (next_any cbb (by omega)).mono ?_; rintro e w2 ⟨x2, rfl, ⟨hx2, hy2⟩, hb2⟩; clear tok2 _t; have hz2 := hb2.size; (try simp only [sA, sB, sC, sD] at hz2)))
   go_ret
   exact ⟨_, rfl, ⟨Int.emod_nonneg _ (by omega), Int.emod_lt_of_pos _ (by omega)⟩, crc⟩
  ·have tok1 := trivial
   have tok2 := trivial
   go_enter Tryz.func66, Tryz.ntmps66
   go_wp2_with (first | (have _t := tok1; go_at_call 89; refine (next_any cbb (by omega)).mono ?_; rintro e w1 ⟨x1, rfl, ⟨hx1, hy1⟩, hb1⟩; clear tok1 _t; have hz1 := hb1.size; (try simp only [sA, sB, sC, sD] at hz1)) | (have _t := tok2; go_at_call 89; refine (next_any cbb (by omega)).mono ?_; rintro e w2 ⟨x2, rfl, ⟨hx2, hy2⟩, hb2⟩; clear tok2 _t; have hz2 := hb2.size; (try simp only [sA, sB, sC, sD] at hz2)))
   go_ret
   exact ⟨_, rfl, ⟨Int.emod_nonneg _ (by omega), Int.emod_lt_of_pos _ (by omega)⟩, crc⟩
theorem one_any {B g M : Nat} {n : Int} {w : World} (hC : CurB 63 B g M w) (hM : M + 2 < 4611686018427387904) (hn : 1 ≤ n) (hn' : n ≤ 1000000000) :
  Calls Tryz.prog 37 #[.pointer (some ⟨g, 0, none⟩), .int .i64 n] w fun e w' => ∃ x : Bool, e = .returned (.bool x) ∧ CR 63 B g 2 w w' := by
 have hBs := hC.size
 have hgl := hC.low
 have tok1 := trivial
 go_enter Tryz.func37, Tryz.ntmps37
 go_wp2_with (first | (have _t := tok1; go_at_call 66; refine (pick_any cbb (by omega) (by omega) (by omega)).mono ?_; rintro e w1 ⟨x1, rfl, ⟨hx1, hy1⟩, hb1⟩; clear tok1 _t; have hz1 := hb1.size; (try simp only [sA, sB, sC, sD] at hz1)))
 go_ret
 exact ⟨_, rfl, crc⟩
theorem among_any {B g M n g1 : Nat} {T : TypeId} {cs : Array Value} {w : World} (p : Int → Prop) (hC : CurB 63 B g M w) (hM : M + 2 < 4611686018427387904) (hk : w.heap[g1]? = some (.cells cs T (0, 0))) (hB : B ≤ g1) (hs : cs.toList.length = n) (hn : 1 ≤ n) (hn' : n ≤ 1000000) (ha : AllInt p cs.toList) :
  Calls Tryz.prog 67 #[.pointer (some ⟨g, 0, none⟩), .slice (some ⟨g1, 0, none⟩) n n] w fun e w' => ∃ x : Int, e = .returned (.int .i64 x) ∧ p x ∧ CR 63 B g 2 w w' := by
 have hBs := hC.size
 have hgl := hC.low
 have HA : ∀ {w1 : World}, CR 63 B g 2 w w1 → ∀ j, j < n → ∃ x : Int, w1.cell? ⟨g1, j, none⟩ = some (.int .i64 x) ∧ p x := fun hb j hj => by
  obtain ⟨x, h1, h2⟩ := ha.at j (by omega)
  refine ⟨x, ((hb.cell g1 (blk_lt' hk) (by omega) j).trans (blk_cell hk j)).trans ?_, h2⟩
  simpa using h1
 have tok1 := trivial
 go_enter Tryz.func67, Tryz.ntmps67
 go_wp2_with (first | (have _t := tok1; go_at_call 66; refine (pick_any cbb (by omega) (by omega) (by omega)).mono ?_; rintro e w1 ⟨x1, rfl, ⟨hx1, hy1⟩, hb1⟩; clear tok1 _t; have hz1 := hb1.size; (try simp only [sA, sB, sC, sD] at hz1); obtain ⟨z, hz, hp⟩ := HA hb1 x1.toNat (by omega)))
 go_ret
 exact ⟨_, rfl, hp, crc⟩
end Go.Proofs.YtnemnkbcbokafaaGreat
