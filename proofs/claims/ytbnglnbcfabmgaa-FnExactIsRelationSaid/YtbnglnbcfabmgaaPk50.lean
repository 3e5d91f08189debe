/- Lemmas and contracts of functions. No condition. -/
import Derived.Test.YtbnglnbcfabmgaaPk47
import Derived.BigQuiet
namespace Go.Proofs.Ytbnglnbcfabmgaa
open Go.RowKit
set_option linter.unusedVariables false
set_option maxHeartbeats 4000000
set_option maxRecDepth 20000
set_option linter.unusedSimpArgs false
/-- the torsion points among the first k candidates, behind infinity -/
noncomputable def tpK (A : Int) (l : List P3) (k : Nat) : List P3 := (0, 0, 0) :: (l.take k).filter fun p => orB A p.1 p.2.1 p.2.2
noncomputable def tpL (A B : Int) : List P3 := (0, 0, 0) :: (caL A B 6001).filter fun p => orB A p.1 p.2.1 p.2.2
theorem tpK_len (A : Int) (l : List P3) (k : Nat) : (tpK A l k).length ≤ 1 + k := by
 unfold tpK
 have h := List.length_filter_le (fun p : P3 => orB A p.1 p.2.1 p.2.2) (l.take k)
 simp only [List.length_cons, List.length_take] at *
 omega
theorem tpK_all (A : Int) (l : List P3) {n : Nat} (h : l.length ≤ n) : tpK A l n = (0, 0, 0) :: l.filter fun p => orB A p.1 p.2.1 p.2.2 := by
 unfold tpK; rw [List.take_of_length_le h]
theorem tpK_next {A : Int} {l : List P3} {k : Nat} {a b c : Int} (hk : k < l.length) (hp : l[k]?.getD (0, 0, 0) = (a, b, c)) : tpK A l (k + 1) = tpK A l k ++ if orB A a b c = true then [(a, b, c)] else [] := by
 have e : l.take (k + 1) = l.take k ++ [(a, b, c)] := by
  rw [List.take_add_one]
  rw [List.getElem?_eq_getElem hk] at hp ⊢
  simp only [Option.getD_some] at hp
  rw [hp]; rfl
 unfold tpK
 rw [e, List.filter_append, List.cons_append]
 congr 2
 by_cases h : orB A a b c = true
 ·rw [if_pos h]; simp [h]
 ·rw [if_neg h]; simp [h]
theorem ca_pt {A B x y e : Int} (hc : cvB A B = true) (h : (x, y, e) ∈ caL A B 6001) : ptB A B x y e = true := by
 rw [caL_iff] at h
 have hb := cvB_bd hc
 unfold caB at h
 simp only [Bool.and_eq_true, Bool.or_eq_true, decide_eq_true_eq] at h
 obtain ⟨⟨⟨rfl, h1⟩, h2⟩, -⟩ := h
 exact ptB_mk (by omega) (by omega) (by simp) h2 hb.1 hb.2.1
theorem tp_iff {A B x y e : Int} (hc : cvB A B = true) (hp : ptB A B x y e = true) : (x, y, e) ∈ tpL A B ↔ orB A x y e = true := by
 unfold tpL
 rw [List.mem_cons, List.mem_filter]
 constructor
 ·rintro (h | ⟨-, h⟩)
  ·simp only [Prod.mk.injEq] at h
   obtain ⟨rfl, rfl, rfl⟩ := h
   exact orB_zero A
  ·exact h
 ·intro h
  rcases told_cand hc hp h with ⟨rfl, rfl, rfl⟩ | h2
  ·exact Or.inl rfl
  ·exact Or.inr ⟨caL_iff.2 h2, h⟩
def RwX (wr : World) (a : Option Addr) (l : List P3) (ov : Value) : Prop := 0 < l.length → ∃ g, a = some ⟨g, 0, none⟩ ∧ RowX wr g (flat3 l) ∧ ov.ownBlock ≠ some g
theorem RwX.via {W V : World} {a : Option Addr} {l : List P3} {ov : Value} (h : RwX W a l ov) (hb : Below W.heap.size W V) : RwX V a l ov := fun h0 => by
 obtain ⟨g, h1, h2, h3⟩ := h h0
 exact ⟨g, h1, h2.via hb, h3⟩
theorem RwX.grown {W V : World} {a : Option Addr} {l : List P3} {ov ov' : Value} (h : RwX W a l ov) (hg : W.grownBy V ov.ownBlock) (hat : ov'.ownBlock = ov.ownBlock ∨ ov'.ownBlock = some W.heap.size) : RwX V a l ov' := fun h0 => by
 obtain ⟨g, h1, h2, h3⟩ := h h0
 have hk := hg.block g h2.1 (fun e => h3 e.symm)
 refine ⟨g, h1, ⟨Nat.lt_of_lt_of_le h2.1 hg.size, fun j hj => ⟨(World.cell?_of_block (a := ⟨g, j, none⟩) hk).trans (h2.2 j hj).1, (World.frozen?_of_block (a := ⟨g, j, none⟩) hk).trans (h2.2 j hj).2⟩⟩, ?_⟩
 rcases hat with e | e
 ·rw [e]; exact h3
 ·rw [e]; intro e2
  have := h2.1
  simp only [Option.some.injEq] at e2
  omega
def TpRel (w : World) (A B : Int) (l : List P3) (a4 : Option Addr) (ov iv : Value) (wr : World) : Prop := ∃ (k : Nat) (v : Value), iv = .int .i64 k ∧ v = ov ∧ k ≤ l.length ∧ OwnX wr (w.heap.size + 1) v (tpK A l k) ∧ RwX wr a4 l v ∧ wr.heap[w.heap.size]? = some (.cells #[.int .i64 A, .int .i64 B] 29 (0, 0)) ∧ Below w.heap.size w wr
theorem torsionPoints_any (A B : Int) (w : World) (hc : cvB A B = true) :
  Calls Try.prog 27 #[.agg #[.int .i64 A, .int .i64 B]] w fun r w' => ∃ v, r = .returned v ∧ OwnX w' (w.heap.size + 1) v (tpL A B) ∧ Below w.heap.size w w' := by
 obtain ⟨i0, hi, iz0, iz1, iz2⟩ := info_parts infoPt
 have hb := cvB_bd hc
 have TC := fun W : World => Lib.hid (candidates_any A B W hb.1 hb.2.1)
 have hll := caL_len A B 6001
 have hpt : ∀ k, k < (caL A B 6001).length → ∀ a b c, (caL A B 6001)[k]?.getD (0, 0, 0) = (a, b, c) → ptB A B a b c = true := fun k hk a b c h => by
  refine ca_pt hc ?_
  rw [List.getElem?_eq_getElem hk] at h
  simp only [Option.getD_some] at h
  rw [← h]; simp
 have hend := tpK_all A (caL A B 6001) (Nat.le_refl _)
 have htp : tpL A B = tpK A (caL A B 6001) (caL A B 6001).length := by rw [hend]; rfl
 rw [htp]
 have HTP := Lib.hid hpt
 clear hpt hend htp
 generalize caL A B 6001 = l at *
 have tok1 := trivial
 have tok2 := trivial
 have tok3 := trivial
 have tok4 := trivial
 have tok5 := trivial
 have tok6 := trivial
 have tok7 := trivial
 have tok8 := trivial
 go_enter Try.func27, Try.ntmps27
 go_upto_region 1 with fail
 refine chk (fun W => Below w.heap.size w W ∧ W.heap[w.heap.size]? = some (.cells #[.int .i64 A, .int .i64 B] 29 (0, 0))) (by refine ⟨?_, ?_⟩ <;> (exact ck)) ?_
 rintro w1 ⟨hB1, qa⟩
 obtain ⟨qh, qi, qt, qu⟩ := bk2 qa
 replace qa := Lib.hid qa
 go_upto_region 2 with fail
 have hCx := bx_old qa.out (.cells #[.int .i64 0, .int .i64 0, .int .i64 0] 45 (0, 0))
 have hsw1 := hB1.size
 have ho1 : OwnX (w1.alloc (.cells #[.int .i64 0, .int .i64 0, .int .i64 0] 45 (0, 0))) (w.heap.size + 1) (.slice (some ⟨w1.heap.size, 0, none⟩) 1 1) (tpK A l 0) := by
  refine ⟨rfl, .inr ⟨w1.heap.size, 1, _, rfl, Nat.succ_le_of_lt qu, heap_alloc_new _ _, Nat.le_refl _, by unfold maxLen; omega, rfl, rfl⟩⟩
 have hs2 : w1.heap.size < (w1.alloc (.cells #[.int .i64 0, .int .i64 0, .int .i64 0] 45 (0, 0))).heap.size := by simp
 replace qa := qa.out
 refine chk (fun W => Below w.heap.size w W ∧ W.heap[w.heap.size]? = some (.cells #[.int .i64 A, .int .i64 B] 29 (0, 0)) ∧ OwnX W (w.heap.size + 1) (.slice (some ⟨w1.heap.size, 0, none⟩) 1 1) (tpK A l 0) ∧ w1.heap.size < W.heap.size) (by refine ⟨?_, ?_, ?_, ?_⟩ <;> (exact ck)) ?_
 clear qh qi qt qa
 clear hB1
 rintro w2 ⟨hB2, qb, ho2, hs3⟩
 obtain ⟨qj, qk, qv, xe⟩ := bk2 qb
 replace qb := Lib.hid qb
 clear hCx ho1 hs2
 generalize w1.heap.size = g1 at *
 try clear w1
 go_upto_region 3 with (first | (go_at_call 47; (with_reducible refine ((TC _).out).mono ?_); rintro e w4 ⟨v4, rfl, ho4, hb4⟩; obtain ⟨a4, c4, rfl⟩ := ho4.toX.shape))
 have hC4 := keepX hb4 qb.out
 have ho5 := ho2.below hb4
 have hB4 := below_via hb4 hB2 hB2.size
 have hrw : RwX w4 a4 l (.slice (some ⟨g1, 0, none⟩) 1 1) := fun h0 => by
  rcases ho4.toX.2 with ⟨-, h1⟩ | ⟨g, cap, h1, -, -, h2, h3⟩
  ·omega
  ·simp only [Value.slice.injEq] at h1
   refine ⟨g, h1.1, h3, ?_⟩
   simp only [Value.ownBlock, ne_eq, Option.some.injEq]
   omega
 clear hb4 ho4 TC ho2
 replace qb := qb.out
 refine chk (fun W => Below w.heap.size w W ∧ W.heap[w.heap.size]? = some (.cells #[.int .i64 A, .int .i64 B] 29 (0, 0)) ∧ OwnX W (w.heap.size + 1) (.slice (some ⟨g1, 0, none⟩) 1 1) (tpK A l 0) ∧ RwX W a4 l (.slice (some ⟨g1, 0, none⟩) 1 1)) (by refine ⟨?_, ?_, ?_, ?_⟩ <;> (exact ck)) ?_
 clear qj qk qv qb
 clear hB2
 rintro w5 ⟨hB5, qc, ho6, hrx⟩
 obtain ⟨ql, qm, qw, xf⟩ := bk2 qc
 replace qc := Lib.hid qc
 clear hC4 ho5 hB4 hrw
 go_loopw [3, 13] (fun ov iv wr => TpRel w A B l a4 ov iv wr) (fun _ iv _ => (l.length - intOf iv).toNat)
 case atStart => exact ⟨0, _, rfl, rfl, by omega, ho6, hrx, qc.out, hB5⟩
 case round =>
  clear ho6 hrx
  obtain ⟨k, v, rfl, rfl, hk, ho, hrx, hC, hbw⟩ := hrel
  have hsw := hbw.size
  have hln := tpK_len A l k
  by_cases hlt : k < l.length
  ·have hltc : (k : Int) < (l.length : Int) := by omega
   obtain ⟨g, rfl, hr, hne⟩ := hrx (by omega)
   have hfl := flat3_len l
   obtain ⟨q0, q1, q2⟩ := flat3_at l k hlt
   have c0 := (hr.2 (k * 3) (by omega)).1
   have c1 := (hr.2 (k * 3 + 1) (by omega)).1
   have c2 := (hr.2 (k * 3 + 2) (by omega)).1
   rw [q0] at c0
   rw [q1] at c1
   rw [q2] at c2
   obtain ⟨⟨x, y, e⟩, hy⟩ : ∃ y, l[k]?.getD (0, 0, 0) = y := ⟨_, rfl⟩
   have hpp := HTP.out k hlt _ _ _ hy
   have hnx := tpK_next (A := A) hlt hy
   rw [hy] at c0 c1 c2
   simp only at c0 c1 c2
   have TO := fun W : World => Lib.hid (orderOfPoint_any A B x y e W hb.1 hb.2.1 hpp)
   rw [show orB A x y e = (orV A x y e).2 from rfl] at hnx
   obtain ⟨⟨o1, o2⟩, hov⟩ : ∃ r, orV A x y e = r := ⟨_, rfl⟩
   rw [hov] at TO hnx
   simp only at TO hnx
   clear q0 q1 q2 hfl hy hpp hov hr hne
   have HNX := Lib.hid hnx
   have HRX := Lib.hid hrx
   have HO := Lib.hid ho
   clear hnx hrx ho
   go_upto_region 5 with fail
   have hox := HO.out.below (Below.alloc (Below.refl _ _) (Nat.le_refl _) (.cells #[.int .i64 x, .int .i64 y, .int .i64 e] 45 (0, 0)))
   have hrx2 := HRX.out.via (Below.alloc (Below.refl _ _) (Nat.le_refl _) (.cells #[.int .i64 x, .int .i64 y, .int .i64 e] 45 (0, 0)))
   replace qc := qc.out
   refine chk (fun W => Below w.heap.size w W ∧ W.heap[w.heap.size]? = some (.cells #[.int .i64 A, .int .i64 B] 29 (0, 0)) ∧ W.heap[wr.heap.size]? = some (.cells #[.int .i64 x, .int .i64 y, .int .i64 e] 45 (0, 0)) ∧ OwnX W (w.heap.size + 1) v (tpK A l k) ∧ RwX W (some ⟨g, 0, none⟩) l v) (by refine ⟨?_, ?_, ?_, ?_, ?_⟩ <;> (exact ck)) ?_
   clear ql qm qw qc
   clear hB5
   rintro w6 ⟨hB6, qd, qe, ho3, hr3⟩
   obtain ⟨qn, qo, qx, xg⟩ := bk2 qd
   replace qd := Lib.hid qd
   obtain ⟨qp, qq, qr, qy, xh⟩ := bk3 qe
   replace qe := Lib.hid qe
   clear hox hrx2 hC c0 c1 c2 HO HRX
   generalize wr.heap.size = gp at *
   try clear wr
   go_upto_region 6 with (first | (have _t := tok7; go_at_call 48; (with_reducible refine ((TO _).out).mono ?_); rintro e w7 ⟨rfl, hb7⟩; clear tok7 _t; have hz7 := hb7.size; (try simp only [sA, sB, sC, sD] at hz7)))
   have qf := (hb7.block (w.heap.size) (blk_lt' qd.out)).trans qd.out
   clear qn qo qx qd
   obtain ⟨qz, xa, xi, xj⟩ := bk2 qf
   replace qf := Lib.hid qf
   have qg := (hb7.block (gp) (blk_lt' qe.out)).trans qe.out
   clear qp qq qr qy qe
   obtain ⟨xb, xc, xd, xm, xn⟩ := bk3 qg
   replace qg := Lib.hid qg
   have hB7 : Below w.heap.size w w7 := below_via hb7 (by assumption) (by go_size)
   have HO7 := Lib.hid (ho3.below hb7)
   have HR7 := Lib.hid (hr3.via hb7)
   have HC7 := qf
   clear ho3 hr3 hb7 TO
   cases o2
   ·go_wp2_with fail
    go_roundw
    case rel => exact ⟨k + 1, v, by go_num, rfl, by omega, by rw [HNX.out, if_neg (by simp), List.append_nil]; exact HO7.out, HR7.out, HC7.out, hB7⟩
    case measure => simp [intOf]; omega
   ·have hsw7 := hB7.size
    go_wp2_with (first | (at_builtin; refine wpList_append_own_at _ rfl _ _ 31 rfl (w.heap.size + 1) 45 i0 (.agg #[.int .i64 0, .int .i64 0, .int .i64 0]) 3 24 Try.underlying31 hi iz0 iz1 iz2 rfl (by decide) v _ _ rfl (HO7.out.alloc _) ⟨w7.heap.size, 0, none⟩ 1 1 [_, _, _] rfl rfl (cells3_new' _ _ _ _ _) (by simp [Value.oneCell']) (by unfold maxLen; omega) (by omega) (by simp; omega) ?_; intro v1 w8 hv1 hg1 _ hat))
    go_roundw
    case rel =>
     have hQ5 := bx_old HC7.out (.cells #[.int .i64 x, .int .i64 y, .int .i64 e] 45 (0, 0))
     refine ⟨k + 1, v1, by go_num, rfl, by omega, ?_, ?_, ?_, ?_⟩
     ·unfold OwnX
      rw [HNX.out, if_pos rfl, flat3_append, ints_append, List.length_append]
      simpa [ints, flat3] using hv1
     ·exact (HR7.out.via (Below.alloc (Below.refl _ _) (Nat.le_refl _) _)).grown hg1 hat
     ·exact (hg1.block _ (blk_lt' hQ5) (row_typeX (HO7.out.below ((Below.refl _ _).alloc (Nat.le_refl _) _)) hQ5 (by decide))).trans hQ5
     ·exact (Below.alloc hB7 (by omega) _).grown hg1 (by simp; omega) (fun i h => by have := (HO7.out.lt _ h).1; omega)
    case measure => simp [intOf]; omega
  ·obtain rfl : k = l.length := by omega
   go_wp2_with fail
   go_ret
   exact ⟨_, rfl, ho, hbw⟩
end Go.Proofs.Ytbnglnbcfabmgaa
