/- Lemmas and contracts of functions. No condition. -/
import Derived.Test.YtbnglnbcfabmgaaPf13
import Derived.Test.YtbnglnbcfabmgaaPf31
import Derived.BigQuiet
import Derived.Maps.AppendAt
namespace Go.Proofs.Ytbnglnbcfabmgaa
section
open Go.RowKit
set_option linter.unusedVariables false
set_option maxHeartbeats 4000000
set_option maxRecDepth 20000
set_option linter.unusedSimpArgs false
theorem infoPt : (Try.prog.info? 45).map (fun i => (i.zero, i.size, i.bytes)) = some (some (.agg #[.int .i64 0, .int .i64 0, .int .i64 0]), 3, 24) := by kernel_rfl
def flat3 : List P3 → List Int
 | [] => []
 | (a, b, c) :: l => a :: b :: c :: flat3 l
theorem flat3_len : ∀ l, (flat3 l).length = 3 * l.length
 | [] => rfl
 | (a, b, c) :: l => by simp [flat3, flat3_len l]; omega
theorem flat3_append : ∀ l m, flat3 (l ++ m) = flat3 l ++ flat3 m
 | [], m => rfl
 | (a, b, c) :: l, m => by simp [flat3, flat3_append l m]
theorem flat3_at : ∀ (l : List P3) (i : Nat), i < l.length → (flat3 l)[i * 3]?.getD 0 = (l[i]?.getD (0, 0, 0)).1 ∧ (flat3 l)[i * 3 + 1]?.getD 0 = (l[i]?.getD (0, 0, 0)).2.1 ∧ (flat3 l)[i * 3 + 2]?.getD 0 = (l[i]?.getD (0, 0, 0)).2.2
 | (a, b, c) :: l, 0, _ => by simp [flat3]
 | (a, b, c) :: l, i + 1, h => by
  have := flat3_at l i (by simpa using h)
  simpa [flat3, Nat.add_mul, Nat.succ_mul] using this
theorem rowX_blk {W : World} {G : Nat} {T : TypeId} {cs : Array Value} {zs : List Int} (h : W.heap[G]? = some (.cells cs T (0, 0))) (hc : cs.toList = ints zs) : RowX W G zs :=
 ⟨blk_lt' h, fun j hj => ⟨by rw [blk_cell h j, ← Array.getElem?_toList, hc, ints_at zs j hj, List.getD_eq_getElem?_getD], blk_frozen h _⟩⟩
/-- a row of points that a call has made -/
def OwnX (W : World) (B : Nat) (v : Value) (l : List P3) : Prop := W.ownsRow B 45 3 v l.length (ints (flat3 l))
theorem OwnX.below {W W2 : World} {B : Nat} {v : Value} {l : List P3} (h : OwnX W B v l) (hb : Below W.heap.size W W2) : OwnX W2 B v l :=
 ⟨h.1, h.2.imp id fun ⟨g, cap, cur, hv, hB, hg, rest⟩ => ⟨g, cap, cur, hv, hB, (hb.block g (blk_lt' hg)).trans hg, rest⟩⟩
theorem OwnX.nil (W : World) (B : Nat) : OwnX W B (.slice none 0 0) [] := World.ownsRow_nil _ _ _ _
theorem OwnX.toX {W : World} {B : Nat} {v : Value} {l : List P3} (h : OwnX W B v l) : SlX W B 3 v l.length (flat3 l) := by
 refine ⟨flat3_len l, ?_⟩
 obtain ⟨hx, h⟩ := h
 rcases h with ⟨h1, h2⟩ | ⟨g, cap, cur, hv, hB, hg, hnc, hcm, hcs, ht⟩
 ·exact .inl ⟨h1, h2⟩
 ·refine .inr ⟨g, cap, hv, hnc, hcm, hB, blk_lt' hg, fun j hj => ⟨?_, blk_frozen hg _⟩⟩
  rw [cell_of_row W g j cur 45 (0, 0) hg]
  have hl := flat3_len l
  have h3 : (ints (flat3 l))[j]? = cur[j]? := by rw [← ht, List.getElem?_take, if_pos (by omega)]; simp
  rw [← h3, ints_at _ j hj, List.getD_eq_getElem?_getD]
theorem cells3_new' (w : World) (x y z : Value) (t : TypeId) : ∀ j u, [x, y, z][j]? = some u → (w.alloc (.cells #[x, y, z] t)).cell? ((⟨w.heap.size, 0, none⟩ : Addr).add j) = some u := by
 intro j u hj
 match j, hj with
 | 0, hj => simp at hj; subst hj; simp [Addr.add]
 | 1, hj => simp at hj; subst hj; simp [Addr.add]
 | 2, hj => simp at hj; subst hj; simp [Addr.add]
theorem row_typeX {W : World} {B : Nat} {v : Value} {l : List P3} (h : OwnX W B v l) {i t : Nat} {c : Array Value} (hi : W.heap[i]? = some (Obj.cells c t (0, 0))) (hte : t ≠ 45) : some i ≠ v.ownBlock := by
 rcases h.2 with ⟨rfl, _⟩ | ⟨g, cap, cur, rfl, hB, hgb, _⟩
 ·simp [Value.ownBlock]
 ·intro e'
  obtain rfl : i = g := by simpa [Value.ownBlock] using e'
  rw [hi] at hgb; simp at hgb
  exact hte hgb.2
noncomputable def hvA (A B x e : Int) : List P3 := if (exR (evV A B x e)).2 = true then pm (x, hvY A B x e, e) else []
theorem keepX {W V : World} {b : Nat} {X : Obj} (h : Below W.heap.size W V) (e : W.heap[b]? = some X) : V.heap[b]? = some X := (h.block b (Array.getElem?_eq_some_iff.1 e).1).trans e
end
section
open Go.RowKit
set_option linter.unusedVariables false
set_option maxHeartbeats 4000000
set_option maxRecDepth 20000
set_option linter.unusedSimpArgs false
def IpRel (w : World) (l : List P3) (x : P3) (iv : Value) (wr : World) : Prop := ∃ k : Nat, iv = .int .i64 k ∧ k ≤ l.length ∧ (∀ i, i < k → l[i]?.getD (0, 0, 0) ≠ x) ∧ wr.heap[w.heap.size]? = some (.cells #[.int .i64 x.1, .int .i64 x.2.1, .int .i64 x.2.2] 45 (0, 0)) ∧ Below w.heap.size w wr
theorem ip_at {l : List P3} {k : Nat} (hk : k < l.length) : l[k]?.getD (0, 0, 0) ∈ l := by rw [List.getElem?_eq_getElem hk]; simp
theorem ip_none {l : List P3} {x : P3} (h : ∀ i, i < l.length → l[i]?.getD (0, 0, 0) ≠ x) : decide (x ∈ l) = false := by
 simp only [decide_eq_false_iff_not]
 intro hx
 obtain ⟨i, hi, e⟩ := List.getElem_of_mem hx
 have := h i hi
 rw [List.getElem?_eq_getElem hi] at this
 exact this e
theorem ip_snoc {l : List P3} {x : P3} {k : Nat} (h : ∀ i, i < k → l[i]?.getD (0, 0, 0) ≠ x) (h2 : l[k]?.getD (0, 0, 0) ≠ x) : ∀ i, i < k + 1 → l[i]?.getD (0, 0, 0) ≠ x := fun i hi => by
 by_cases e : i = k
 ·subst e; exact h2
 ·exact h i (by omega)
theorem indexP_any (g c : Nat) (l : List P3) (x y e : Int) (w : World) (h : RowX w g (flat3 l)) (hl : l.length ≤ c) (hc : c ≤ maxLen) : Calls Try.prog 46 #[.slice (some ⟨g, 0, none⟩) l.length c, .agg #[.int .i64 x, .int .i64 y, .int .i64 e]] w fun r w' => ∃ k : Int, r = .returned (.int .i64 k) ∧ decide (0 ≤ k) = decide ((x, y, e) ∈ l) ∧ -1 ≤ k ∧ Below w.heap.size w w' := by
 unfold maxLen at hc
 go_enter Try.func46, Try.ntmps46
 go_upto_region 1 with fail
 refine chk (fun W => Below w.heap.size w W ∧ W.heap[w.heap.size]? = some (.cells #[.int .i64 x, .int .i64 y, .int .i64 e] 45 (0, 0))) (by refine ⟨?_, ?_⟩ <;> (exact ck)) ?_
 rintro w1 ⟨hB1, qa⟩
 obtain ⟨qb, qc, qd, qe, qf⟩ := bk3 qa
 replace qa := Lib.hid qa
 go_wp2_with fail
 go_loopw [8] (fun iv wr => IpRel w l (x, y, e) iv wr) (fun iv _ => (l.length - intOf iv).toNat)
 case atStart => exact ⟨0, rfl, by omega, (by intro i hi; omega), qa.out, hB1⟩
 case round =>
  obtain ⟨k, rfl, hk, hne, hX, hb⟩ := hrel
  have x0 : wr.cell? ⟨w.heap.size, 0, none⟩ = some (.int .i64 x) := blk_cell hX 0
  have x1 : wr.cell? ⟨w.heap.size, 1, none⟩ = some (.int .i64 y) := blk_cell hX 1
  have x2 : wr.cell? ⟨w.heap.size, 2, none⟩ = some (.int .i64 e) := blk_cell hX 2
  have xl := blk_lt' hX
  have HX := Lib.hid hX
  clear hX
  by_cases hlt : k < l.length
  ·have hltc : (k : Int) < (l.length : Int) := by omega
   have hgl := h.1
   have hfl := flat3_len l
   obtain ⟨q0, q1, q2⟩ := flat3_at l k hlt
   have c0 := (hb.cell (p := ⟨g, k * 3, none⟩) hgl).trans (h.2 (k * 3) (by omega)).1
   have c1 := (hb.cell (p := ⟨g, k * 3 + 1, none⟩) hgl).trans (h.2 (k * 3 + 1) (by omega)).1
   have c2 := (hb.cell (p := ⟨g, k * 3 + 2, none⟩) hgl).trans (h.2 (k * 3 + 2) (by omega)).1
   rw [q0] at c0
   rw [q1] at c1
   rw [q2] at c2
   have hm := ip_at hlt
   obtain ⟨⟨a2, b2, e2⟩, hy⟩ : ∃ y, l[k]?.getD (0, 0, 0) = y := ⟨_, rfl⟩
   rw [hy] at c0 c1 c2 hm
   simp only at c0 c1 c2
   clear q0 q1 q2 hfl
   by_cases hxy : x = a2 ∧ y = b2 ∧ e = e2
   ·obtain ⟨rfl, rfl, rfl⟩ := hxy
    have HM := Lib.hid hm
    clear hy hne hm
    go_wp2_with fail
    go_quiet (fail)
    go_wp2_with fail
    go_ret
    exact ⟨k, rfl, by simp [HM.out], by omega, ⟨hb.os, hb.tape, hb.output, hb.size, hb.block⟩⟩
   ·have HN := Lib.hid (ip_snoc (x := (x, y, e)) hne (by rw [hy]; intro q; simp only [Prod.mk.injEq] at q; exact hxy ⟨q.1.symm, q.2.1.symm, q.2.2.symm⟩))
    clear hy hne hm
    by_cases hn : x = a2
    ·subst hn
     by_cases hn2 : y = b2
     ·subst hn2
      have he : ¬ e = e2 := fun q => hxy ⟨rfl, rfl, q⟩
      have hee : (e == e2) = false := by simpa using he
      clear hxy
      go_wp2_with fail
      go_quiet (fail)
      go_wp2_with fail
      go_roundw
      case rel => exact ⟨k + 1, by go_num, by omega, HN.out, HX.out, ⟨hb.os, hb.tape, hb.output, hb.size, hb.block⟩⟩
      case measure => simp [intOf]; omega
     ·have hnn : (y == b2) = false := by simpa using hn2
      clear hxy
      go_wp2_with fail
      go_quiet (fail)
      go_wp2_with fail
      go_roundw
      case rel => exact ⟨k + 1, by go_num, by omega, HN.out, HX.out, ⟨hb.os, hb.tape, hb.output, hb.size, hb.block⟩⟩
      case measure => simp [intOf]; omega
    ·have hnn : (x == a2) = false := by simpa using hn
     clear hxy
     go_wp2_with fail
     go_quiet (fail)
     go_wp2_with fail
     go_roundw
     case rel => exact ⟨k + 1, by go_num, by omega, HN.out, HX.out, ⟨hb.os, hb.tape, hb.output, hb.size, hb.block⟩⟩
     case measure => simp [intOf]; omega
  ·obtain rfl : k = l.length := by omega
   have HD := Lib.hid (ip_none hne)
   clear hne
   go_wp2_with fail
   go_ret
   exact ⟨-1, rfl, by have := HD.out; simp only [decide_eq_false_iff_not] at this; simp [this], by omega, hb⟩


/-- a row that is not nil: infinity stands in it -/
theorem containsP_any (v : Value) (B : Nat) (l : List P3) (x y e : Int) (w : World) (h : SlX w B 3 v l.length (flat3 l)) (h0 : 0 < l.length) : Calls Try.prog 26 #[v, .agg #[.int .i64 x, .int .i64 y, .int .i64 e]] w fun r w' => r = .returned (.bool (decide ((x, y, e) ∈ l))) ∧ Below w.heap.size w w' := by
 rcases h.2 with ⟨rfl, h1⟩ | ⟨g, c, rfl, hl, hc, -, hr⟩
 ·omega
 ·have T1 := fun (W : World) (hW : Below w.heap.size w W) => Lib.hid (indexP_any g c l x y e W (hr.via hW) hl hc)
  have tok1 := trivial
  go_enter Try.func26, Try.ntmps26
  go_wp2_with (first | (have _t := tok1; go_at_call 46; (with_reducible refine ((T1 _ bel).out).mono ?_); rintro e w1 ⟨k, rfl, hk, hk1, hb1⟩; clear tok1 _t; have hz1 := hb1.size; (try simp only [sA, sB, sC, sD] at hz1)))
  go_ret
  refine ⟨ret_bool rfl, ?_⟩
  exact bel
end
end Go.Proofs.Ytbnglnbcfabmgaa
