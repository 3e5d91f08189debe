/- Lemmas and contracts of functions. No condition. -/
import Derived.Test.YtbnglnbcfabmgaaPf29
import Derived.Test.YtbnglnbcfabmgaaPf30
import Derived.Test.YtbnglnbcfabmgaaPf34
import Derived.BigQuiet
namespace Go.Proofs.Ytbnglnbcfabmgaa
section
open Go.RowKit
set_option linter.unusedVariables false
set_option maxHeartbeats 4000000
set_option maxRecDepth 20000
set_option linter.unusedSimpArgs false
/-- the candidates at one first coordinate -/
noncomputable def caS (A B x : Int) : List P3 :=
 if (exR (evV A B x 1)).2 = true then (if (exR (evV A B x 1)).1 = 0 then [(x, 0, 1)] else if (coV A B).tmod ((exR (evV A B x 1)).1 * (exR (evV A B x 1)).1) = 0 then [(x, -(exR (evV A B x 1)).1, 1), (x, (exR (evV A B x 1)).1, 1)] else []) else []
noncomputable def caL (A B : Int) : Nat → List P3
 | 0 => []
 | k + 1 => caL A B k ++ caS A B (-3000 + (k : Int))
theorem caS_len (A B x : Int) : (caS A B x).length ≤ 2 := by
 unfold caS
 split
 ·split
  ·simp
  ·split <;> simp
 ·simp
theorem caL_len (A B : Int) : ∀ k, (caL A B k).length ≤ 2 * k
 | 0 => by simp [caL]
 | k + 1 => by
  have := caL_len A B k
  have := caS_len A B (-3000 + (k : Int))
  simp only [caL, List.length_append]; omega
theorem exR_yes {n : Int} (h : (exR n).2 = true) : 0 ≤ (exR n).1 ∧ (exR n).1 * (exR n).1 = n := by
 unfold exR at h ⊢
 by_cases hn : n < 0
 ·rw [if_pos hn] at h; simp at h
 ·rw [if_neg hn] at h ⊢
  by_cases hs : rtV n * rtV n = n
  ·rw [if_pos hs]; exact ⟨(rtV_spec' (by omega)).1, hs⟩
  ·rw [if_neg hs] at h; simp at h
theorem caS_mem {A B x y e x0 : Int} : (x, y, e) ∈ caS A B x0 ↔ x = x0 ∧ e = 1 ∧ y * y = evV A B x0 1 ∧ (y = 0 ∨ (coV A B).tmod (y * y) = 0) := by
 unfold caS
 constructor
 ·intro h
  by_cases h1 : (exR (evV A B x0 1)).2 = true
  ·obtain ⟨h2, h3⟩ := exR_yes h1
   rw [if_pos h1] at h
   by_cases h4 : (exR (evV A B x0 1)).1 = 0
   ·rw [if_pos h4] at h
    simp only [List.mem_singleton, Prod.mk.injEq] at h
    obtain ⟨rfl, rfl, rfl⟩ := h
    rw [h4] at h3
    exact ⟨rfl, rfl, h3, Or.inl rfl⟩
   ·rw [if_neg h4] at h
    by_cases h5 : (coV A B).tmod ((exR (evV A B x0 1)).1 * (exR (evV A B x0 1)).1) = 0
    ·rw [if_pos h5] at h
     simp only [List.mem_cons, List.not_mem_nil, or_false, Prod.mk.injEq] at h
     rcases h with ⟨rfl, rfl, rfl⟩ | ⟨rfl, rfl, rfl⟩
     ·exact ⟨rfl, rfl, by rw [Int.neg_mul_neg]; exact h3, Or.inr (by rw [Int.neg_mul_neg]; exact h5)⟩
     ·exact ⟨rfl, rfl, h3, Or.inr h5⟩
    ·rw [if_neg h5] at h; simp at h
  ·rw [if_neg h1] at h; simp at h
 ·rintro ⟨rfl, rfl, h3, h4⟩
  have h1 : (exR (evV A B x 1)).2 = true := by rw [← h3, exR_sq]
  obtain ⟨h5, h6⟩ := exR_yes h1
  rw [if_pos h1]
  generalize (exR (evV A B x 1)).1 = r at *
  have hyr : y = r ∨ y = -r := by
   have : (y - r) * (y + r) = 0 := by rw [← h6] at h3; grind
   rcases Int.mul_eq_zero.1 this with h | h <;> omega
  by_cases hr : r = 0
  ·subst hr
   obtain rfl : y = 0 := by omega
   simp
  ·rw [if_neg hr]
   have h7 : (coV A B).tmod (r * r) = 0 := by
    rcases hyr with rfl | rfl
    ·rcases h4 with h | h
     ·exact absurd h hr
     ·exact h
    ·rcases h4 with h | h
     ·exact absurd (by omega) hr
     ·rw [Int.neg_mul_neg] at h; exact h
   rw [if_pos h7]
   rcases hyr with rfl | rfl <;> simp
theorem caL_mem {A B x y e : Int} : ∀ k : Nat, (x, y, e) ∈ caL A B k ↔ (-3000 ≤ x ∧ x < -3000 + k) ∧ e = 1 ∧ y * y = evV A B x 1 ∧ (y = 0 ∨ (coV A B).tmod (y * y) = 0)
 | 0 => by simp [caL]; omega
 | k + 1 => by
  rw [caL, List.mem_append, caL_mem k, caS_mem]
  constructor
  ·rintro (⟨h, r⟩ | ⟨rfl, r⟩)
   ·exact ⟨by omega, r⟩
   ·exact ⟨by omega, r⟩
  ·rintro ⟨h, r⟩
   by_cases hx : x = -3000 + (k : Int)
   ·subst hx; exact Or.inr ⟨rfl, r⟩
   ·exact Or.inl ⟨by omega, r⟩
theorem caL_iff {A B x y e : Int} : (x, y, e) ∈ caL A B 6001 ↔ caB A B x y e = true := by
 rw [caL_mem]
 unfold caB
 simp only [Bool.and_eq_true, Bool.or_eq_true, decide_eq_true_eq]
 constructor
 ·rintro ⟨h1, h2, h3, h4⟩; exact ⟨⟨⟨h2, by omega⟩, h3⟩, h4⟩
 ·rintro ⟨⟨⟨h2, h1⟩, h3⟩, h4⟩; exact ⟨by omega, h2, h3, h4⟩
theorem cells6_new (w : World) (x y z p q r : Value) (t : TypeId) : ∀ j u, [x, y, z, p, q, r][j]? = some u → (w.alloc (.cells #[x, y, z, p, q, r] t)).cell? ((⟨w.heap.size, 0, none⟩ : Addr).add j) = some u := by
 intro j u hj
 have : j < 6 := by
  rcases Nat.lt_or_ge j 6 with h | h
  ·exact h
  ·rw [List.getElem?_eq_none (by simpa using h)] at hj; cases hj
 match j, hj with
 | 0, hj => simp at hj; subst hj; simp [Addr.add]
 | 1, hj => simp at hj; subst hj; simp [Addr.add]
 | 2, hj => simp at hj; subst hj; simp [Addr.add]
 | 3, hj => simp at hj; subst hj; simp [Addr.add]
 | 4, hj => simp at hj; subst hj; simp [Addr.add]
 | 5, hj => simp at hj; subst hj; simp [Addr.add]
def CaRel (w : World) (A B : Int) (ov xv : Value) (wr : World) : Prop := ∃ (k : Nat) (v : Value), xv = .int .i64 (-3000 + (k : Int)) ∧ v = ov ∧ k ≤ 6001 ∧ OwnX wr (w.heap.size + 1) v (caL A B k) ∧ wr.heap[w.heap.size]? = some (.cells #[.int .i64 A, .int .i64 B] 29 (0, 0)) ∧ Below w.heap.size w wr
theorem candidates_any (A B : Int) (w : World) (hA : -1000 ≤ A ∧ A ≤ 1000) (hB : -10000 ≤ B ∧ B ≤ 10000) :
  Calls Try.prog 47 #[.agg #[.int .i64 A, .int .i64 B]] w fun r w' => ∃ v, r = .returned v ∧ OwnX w' (w.heap.size + 1) v (caL A B 6001) ∧ Below w.heap.size w w' := by
 obtain ⟨i0, hi, iz0, iz1, iz2⟩ := info_parts infoPt
 have TK := fun W : World => Lib.hid (core_any A B W hA hB)
 have hkb := LN.disc_bd hA hB
 rw [show 4 * A * A * A + 27 * B * B = coV A B from rfl] at hkb
 have HKB := Lib.hid hkb
 clear hkb
 have tok1 := trivial
 have tok2 := trivial
 have tok3 := trivial
 go_enter Try.func47, Try.ntmps47
 go_upto_region 1 with fail
 refine chk (fun W => Below w.heap.size w W ∧ W.heap[w.heap.size]? = some (.cells #[.int .i64 A, .int .i64 B] 29 (0, 0))) (by refine ⟨?_, ?_⟩ <;> (exact ck)) ?_
 rintro w9 ⟨hB9, qh⟩
 obtain ⟨qj, qk, ql, qm⟩ := bk2 qh
 replace qh := Lib.hid qh
 go_wp2_with fail
 go_loopw [3, 4] (fun ov xv wr => CaRel w A B ov xv wr) (fun _ xv _ => (3001 - intOf xv).toNat)
 case atStart => exact ⟨0, _, by simp, rfl, by omega, OwnX.nil _ _, qh.out, hB9⟩
 case round =>
  obtain ⟨k, v, rfl, rfl, hk, ho, hC, hbw⟩ := hrel
  have hsw := hbw.size
  have q0 : wr.cell? ⟨w.heap.size, 0, none⟩ = some (.int .i64 A) := blk_cell hC 0
  have q1 : wr.cell? ⟨w.heap.size, 1, none⟩ = some (.int .i64 B) := blk_cell hC 1
  have lq := blk_lt' hC
  have HC := Lib.hid hC
  have HO := Lib.hid ho
  clear hC ho
  have hl := caL_len A B k
  have hsu : caL A B (k + 1) = caL A B k ++ caS A B (-3000 + (k : Int)) := rfl
  by_cases hlt : k < 6001
  ·have hltc : -3000 + (k : Int) ≤ 3000 := by omega
   obtain ⟨x, hx⟩ : ∃ x, -3000 + (k : Int) = x := ⟨_, rfl⟩
   have hxb : -3000 ≤ x ∧ x ≤ 3000 := by omega
   have hxn : x + 1 = -3000 + ((k + 1 : Nat) : Int) := by omega
   have hxm : (3001 - (x + 1)).toNat < (3001 - x).toNat := by omega
   rw [hx] at hsu hltc ⊢
   have TC := fun W : World => Lib.hid (curveValue_any A B x 1 W hA hB (by omega) (by omega))
   have hvb := evV_bd hA hB (x := x) (by omega) (e := 1) (by omega)
   have TX := fun W : World => Lib.hid (exactRoot_any (evV A B x 1) W (by omega) (by omega))
   unfold caS at hsu
   obtain ⟨l0, hl0⟩ : ∃ l, caL A B k = l := ⟨_, rfl⟩
   rw [hl0] at HO hl hsu
   have HXN := Lib.hid hxn
   have HXM := Lib.hid hxm
   clear hl0 hx hxn hxm
   have hyes := @exR_yes (evV A B x 1)
   obtain ⟨⟨y, ok⟩, hxr⟩ : ∃ q, exR (evV A B x 1) = q := ⟨_, rfl⟩
   rw [hxr] at TX hsu hyes
   simp only at TX hsu hyes
   have hbd : y * y = evV A B x 1 → 0 ≤ y → y ≤ 3000000 := fun h1 h2 => by
    refine Int.not_lt.1 fun h3 => ?_
    have : 3000001 * 3000001 ≤ y * y := Int.mul_le_mul (by omega) (by omega) (by omega) (by omega)
    omega
   generalize evV A B x 1 = n at *
   clear hxr
   cases ok
   ·rw [if_neg (by simp), List.append_nil] at hsu
    have HSU := Lib.hid hsu
    clear hsu hyes hbd TK
    go_wp2_with (first | (have _t := tok1; go_at_call 57; (with_reducible refine ((TC _).out).mono ?_); rintro e w1 ⟨rfl, hb1⟩; clear tok1 _t; have hz1 := hb1.size; (try simp only [sA, sB, sC, sD] at hz1); (try (obtain ⟨kq, qc⟩ := cfAt hb1 (w.heap.size); have qa := kq 0; have qb := kq 1; clear kq; simp [go_sem, *] at qa qb qc)); (try have qf : w.heap.size < w1.heap.size := by omega)) | (go_at_call 68; (with_reducible refine ((TX _).out).mono ?_); rintro e w' ⟨rfl, rfl⟩) | (have _t := tok2; go_at_call 54; (with_reducible refine ((TK _).out).mono ?_); rintro e w2 ⟨rfl, hb2⟩; clear tok2 _t; have hz2 := hb2.size; (try simp only [sA, sB, sC, sD] at hz2); (try (obtain ⟨kq, qg⟩ := cfAt hb2 (w.heap.size); have qd := kq 0; have qe := kq 1; clear kq; simp [go_sem, *] at qd qe qg)); (try have qi : w.heap.size < w2.heap.size := by omega); (try clear qa qb qc); (try clear qf)))
    go_roundw
    case rel => exact ⟨k + 1, v, by rw [HXN.out], rfl, by omega, by rw [HSU.out]; exact HO.out.below hb1, keepX hb1 HC.out, hbw.trans (hb1.mono hsw)⟩
    case measure => simpa [intOf] using HXM.out
   ·rw [if_pos rfl] at hsu
    obtain ⟨hy0, hyy⟩ := hyes rfl
    have hyb := hbd hyy hy0
    clear hyes hbd
    by_cases hz : y = 0
    ·rw [if_pos hz] at hsu
     subst hz
     have HSU := Lib.hid hsu
     clear hsu hyy hy0 hyb TK
     go_wp2_with (first | (at_builtin; refine wpList_append_own_at _ rfl _ _ 31 rfl (w.heap.size + 1) 45 i0 (.agg #[.int .i64 0, .int .i64 0, .int .i64 0]) 3 24 Try.underlying31 hi iz0 iz1 iz2 rfl (by decide) v _ _ rfl ((HO.out.below hb1).alloc _) ⟨w1.heap.size, 0, none⟩ 1 1 [_, _, _] rfl rfl (cells3_new' _ _ _ _ _) (by simp [Value.oneCell']) (by unfold maxLen; omega) (by omega) (by simp; omega) ?_; intro v1 w6 hv1 hg1 _ hat) | (have _t := tok1; go_at_call 57; (with_reducible refine ((TC _).out).mono ?_); rintro e w1 ⟨rfl, hb1⟩; clear tok1 _t; have hz1 := hb1.size; (try simp only [sA, sB, sC, sD] at hz1); (try (obtain ⟨kq, qc⟩ := cfAt hb1 (w.heap.size); have qa := kq 0; have qb := kq 1; clear kq; simp [go_sem, *] at qa qb qc)); (try have qf : w.heap.size < w1.heap.size := by omega)) | (go_at_call 68; (with_reducible refine ((TX _).out).mono ?_); rintro e w' ⟨rfl, rfl⟩))
     have hr6 := HO.out.below hb1
     go_roundw
     case rel =>
      have hQ5 := bx_old (keepX hb1 HC.out) (.cells #[.int .i64 x, .int .i64 0, .int .i64 1] 45 (0, 0))
      refine ⟨k + 1, v1, by rw [HXN.out], rfl, by omega, ?_, ?_, ?_⟩
      ·unfold OwnX
       rw [HSU.out, flat3_append, ints_append, List.length_append]
       simpa [ints, flat3] using hv1
      ·exact (hg1.block _ (blk_lt' hQ5) (row_typeX (hr6.below ((Below.refl _ _).alloc (Nat.le_refl _) _)) hQ5 (by decide))).trans hQ5
      ·exact (Below.alloc (hbw.trans (hb1.mono hsw)) (by omega) _).grown hg1 (by simp; omega) (fun i h => by have := (hr6.lt _ h).1; omega)
     case measure => simpa [intOf] using HXM.out
    ·rw [if_neg hz] at hsu
     have hzz : (y == 0) = false := by simpa using hz
     have hpos : 0 < y * y := LN.sq_pos hz
     have hq2 : y * y ≤ 9000000000000 := by
      have : y * y ≤ 3000000 * 3000000 := Int.mul_le_mul hyb hyb hy0 (by omega)
      omega
     have hkk := HKB.out
     have hzq : (y * y == 0) = false := by simpa using (show y * y ≠ 0 by omega)
     have hmb : -6700000000 ≤ (coV A B).tmod (y * y) ∧ (coV A B).tmod (y * y) ≤ 6700000000 := by
      have h1 := Int.natAbs_tmod (coV A B) (y * y)
      have h2 := Nat.mod_le (coV A B).natAbs (y * y).natAbs
      omega
     clear hyy hz
     generalize coV A B = cv at *
     by_cases hm : cv.tmod (y * y) = 0
     ·rw [if_pos hm] at hsu
      have hmm : (cv.tmod (y * y) == 0) = true := by simpa using hm
      have HSU := Lib.hid hsu
      clear hsu hm
      go_wp2_with (first | (at_builtin; refine wpList_append_own_at _ rfl _ _ 31 rfl (w.heap.size + 1) 45 i0 (.agg #[.int .i64 0, .int .i64 0, .int .i64 0]) 3 24 Try.underlying31 hi iz0 iz1 iz2 rfl (by decide) v _ _ rfl ((HO.out.below (below_via hb2 hb1 (by have := hb1.size; omega))).alloc _) ⟨w2.heap.size, 0, none⟩ 2 2 [_, _, _, _, _, _] rfl rfl (cells6_new _ _ _ _ _ _ _ _) (by simp [Value.oneCell']) (by unfold maxLen; omega) (by omega) (by simp; omega) ?_; intro v1 w6 hv1 hg1 _ hat) | (have _t := tok1; go_at_call 57; (with_reducible refine ((TC _).out).mono ?_); rintro e w1 ⟨rfl, hb1⟩; clear tok1 _t; have hz1 := hb1.size; (try simp only [sA, sB, sC, sD] at hz1); (try (obtain ⟨kq, qc⟩ := cfAt hb1 (w.heap.size); have qa := kq 0; have qb := kq 1; clear kq; simp [go_sem, *] at qa qb qc)); (try have qf : w.heap.size < w1.heap.size := by omega)) | (go_at_call 68; (with_reducible refine ((TX _).out).mono ?_); rintro e w' ⟨rfl, rfl⟩) | (have _t := tok2; go_at_call 54; (with_reducible refine ((TK _).out).mono ?_); rintro e w2 ⟨rfl, hb2⟩; clear tok2 _t; have hz2 := hb2.size; (try simp only [sA, sB, sC, sD] at hz2); (try (obtain ⟨kq, qg⟩ := cfAt hb2 (w.heap.size); have qd := kq 0; have qe := kq 1; clear kq; simp [go_sem, *] at qd qe qg)); (try have qi : w.heap.size < w2.heap.size := by omega); (try clear qa qb qc); (try clear qf)))
      have hb12 := below_via hb2 hb1 (by have := hb1.size; omega)
      have hs12 := hb12.size
      have hr6 := HO.out.below hb12
      go_roundw
      case rel =>
       have hQ5 := bx_old (keepX hb12 HC.out) (.cells #[.int .i64 x, .int .i64 (-y), .int .i64 1, .int .i64 x, .int .i64 y, .int .i64 1] 45 (0, 0))
       refine ⟨k + 1, v1, by rw [HXN.out], rfl, by omega, ?_, ?_, ?_⟩
       ·unfold OwnX
        rw [HSU.out, flat3_append, ints_append, List.length_append]
        simpa [ints, flat3] using hv1
       ·exact (hg1.block _ (blk_lt' hQ5) (row_typeX (hr6.below ((Below.refl _ _).alloc (Nat.le_refl _) _)) hQ5 (by decide))).trans hQ5
       ·exact (Below.alloc (hbw.trans (hb12.mono hsw)) (by omega) _).grown hg1 (by simp; omega) (fun i h => by have := (hr6.lt _ h).1; omega)
      case measure => simpa [intOf] using HXM.out
     ·rw [if_neg hm, List.append_nil] at hsu
      have hmm : (cv.tmod (y * y) == 0) = false := by simpa using hm
      have HSU := Lib.hid hsu
      clear hsu hm
      go_wp2_with (first | (have _t := tok1; go_at_call 57; (with_reducible refine ((TC _).out).mono ?_); rintro e w1 ⟨rfl, hb1⟩; clear tok1 _t; have hz1 := hb1.size; (try simp only [sA, sB, sC, sD] at hz1); (try (obtain ⟨kq, qc⟩ := cfAt hb1 (w.heap.size); have qa := kq 0; have qb := kq 1; clear kq; simp [go_sem, *] at qa qb qc)); (try have qf : w.heap.size < w1.heap.size := by omega)) | (go_at_call 68; (with_reducible refine ((TX _).out).mono ?_); rintro e w' ⟨rfl, rfl⟩) | (have _t := tok2; go_at_call 54; (with_reducible refine ((TK _).out).mono ?_); rintro e w2 ⟨rfl, hb2⟩; clear tok2 _t; have hz2 := hb2.size; (try simp only [sA, sB, sC, sD] at hz2); (try (obtain ⟨kq, qg⟩ := cfAt hb2 (w.heap.size); have qd := kq 0; have qe := kq 1; clear kq; simp [go_sem, *] at qd qe qg)); (try have qi : w.heap.size < w2.heap.size := by omega); (try clear qa qb qc); (try clear qf)))
      have hb12 := below_via hb2 hb1 (by have := hb1.size; omega)
      go_roundw
      case rel => exact ⟨k + 1, v, by rw [HXN.out], rfl, by omega, by rw [HSU.out]; exact HO.out.below hb12, keepX hb12 HC.out, hbw.trans (hb12.mono hsw)⟩
      case measure => simpa [intOf] using HXM.out
  ·obtain rfl : k = 6001 := by omega
   have hnc : ¬ (-3000 + ((6001 : Nat) : Int) ≤ (3000 : Int)) := by omega
   clear hsu
   go_wp2_with fail
   go_ret
   exact ⟨_, rfl, HO.out, hbw⟩
end
section
open Go.RowKit
set_option linter.unusedVariables false
set_option maxHeartbeats 4000000
set_option maxRecDepth 20000
set_option linter.unusedSimpArgs false
/-- the torsion points among the first k candidates, behind infinity -/
noncomputable def tpK (A : Int) (l : List P3) (k : Nat) : List P3 := (0, 0, 0) :: (l.take k).filter fun p => orB A p.1 p.2.1 p.2.2
noncomputable def tpL (A B : Int) : List P3 := (0, 0, 0) :: (caL A B 6001).filter fun p => orB A p.1 p.2.1 p.2.2
theorem tpK_len (A : Int) (l : List P3) (k : Nat) : (tpK A l k).length ≤ 1 + k := by
 unfold tpK
 have h := List.length_filter_le (fun p : P3 => orB A p.1 p.2.1 p.2.2) (l.take k)
 simp only [List.length_cons, List.length_take] at *
 omega
theorem tpK_all (A : Int) (l : List P3) {n : Nat} (h : l.length ≤ n) : tpK A l n = (0, 0, 0) :: l.filter fun p => orB A p.1 p.2.1 p.2.2 := by
 unfold tpK; rw [List.take_of_length_le h]
theorem tpK_next {A : Int} {l : List P3} {k : Nat} {a b c : Int} (hk : k < l.length) (hp : l[k]?.getD (0, 0, 0) = (a, b, c)) : tpK A l (k + 1) = tpK A l k ++ if orB A a b c = true then [(a, b, c)] else [] := by
 have e : l.take (k + 1) = l.take k ++ [(a, b, c)] := by
  rw [List.take_add_one]
  rw [List.getElem?_eq_getElem hk] at hp ⊢
  simp only [Option.getD_some] at hp
  rw [hp]; rfl
 unfold tpK
 rw [e, List.filter_append, List.cons_append]
 congr 2
 by_cases h : orB A a b c = true
 ·rw [if_pos h]; simp [h]
 ·rw [if_neg h]; simp [h]
theorem ca_pt {A B x y e : Int} (hc : cvB A B = true) (h : (x, y, e) ∈ caL A B 6001) : ptB A B x y e = true := by
 rw [caL_iff] at h
 have hb := cvB_bd hc
 unfold caB at h
 simp only [Bool.and_eq_true, Bool.or_eq_true, decide_eq_true_eq] at h
 obtain ⟨⟨⟨rfl, h1⟩, h2⟩, -⟩ := h
 exact ptB_mk (by omega) (by omega) (by simp) h2 hb.1 hb.2.1
theorem tp_iff {A B x y e : Int} (hc : cvB A B = true) (hp : ptB A B x y e = true) : (x, y, e) ∈ tpL A B ↔ orB A x y e = true := by
 unfold tpL
 rw [List.mem_cons, List.mem_filter]
 constructor
 ·rintro (h | ⟨-, h⟩)
  ·simp only [Prod.mk.injEq] at h
   obtain ⟨rfl, rfl, rfl⟩ := h
   exact orB_zero A
  ·exact h
 ·intro h
  rcases told_cand hc hp h with ⟨rfl, rfl, rfl⟩ | h2
  ·exact Or.inl rfl
  ·exact Or.inr ⟨caL_iff.2 h2, h⟩
def RwX (wr : World) (a : Option Addr) (l : List P3) (ov : Value) : Prop := 0 < l.length → ∃ g, a = some ⟨g, 0, none⟩ ∧ RowX wr g (flat3 l) ∧ ov.ownBlock ≠ some g
theorem RwX.via {W V : World} {a : Option Addr} {l : List P3} {ov : Value} (h : RwX W a l ov) (hb : Below W.heap.size W V) : RwX V a l ov := fun h0 => by
 obtain ⟨g, h1, h2, h3⟩ := h h0
 exact ⟨g, h1, h2.via hb, h3⟩
theorem RwX.grown {W V : World} {a : Option Addr} {l : List P3} {ov ov' : Value} (h : RwX W a l ov) (hg : W.grownBy V ov.ownBlock) (hat : ov'.ownBlock = ov.ownBlock ∨ ov'.ownBlock = some W.heap.size) : RwX V a l ov' := fun h0 => by
 obtain ⟨g, h1, h2, h3⟩ := h h0
 have hk := hg.block g h2.1 (fun e => h3 e.symm)
 refine ⟨g, h1, ⟨Nat.lt_of_lt_of_le h2.1 hg.size, fun j hj => ⟨(World.cell?_of_block (a := ⟨g, j, none⟩) hk).trans (h2.2 j hj).1, (World.frozen?_of_block (a := ⟨g, j, none⟩) hk).trans (h2.2 j hj).2⟩⟩, ?_⟩
 rcases hat with e | e
 ·rw [e]; exact h3
 ·rw [e]; intro e2
  have := h2.1
  simp only [Option.some.injEq] at e2
  omega
def TpRel (w : World) (A B : Int) (l : List P3) (a4 : Option Addr) (ov iv : Value) (wr : World) : Prop := ∃ (k : Nat) (v : Value), iv = .int .i64 k ∧ v = ov ∧ k ≤ l.length ∧ OwnX wr (w.heap.size + 1) v (tpK A l k) ∧ RwX wr a4 l v ∧ wr.heap[w.heap.size]? = some (.cells #[.int .i64 A, .int .i64 B] 29 (0, 0)) ∧ Below w.heap.size w wr
theorem torsionPoints_any (A B : Int) (w : World) (hc : cvB A B = true) :
  Calls Try.prog 27 #[.agg #[.int .i64 A, .int .i64 B]] w fun r w' => ∃ v, r = .returned v ∧ OwnX w' (w.heap.size + 1) v (tpL A B) ∧ Below w.heap.size w w' := by
 obtain ⟨i0, hi, iz0, iz1, iz2⟩ := info_parts infoPt
 have hb := cvB_bd hc
 have TC := fun W : World => Lib.hid (candidates_any A B W hb.1 hb.2.1)
 have hll := caL_len A B 6001
 have hpt : ∀ k, k < (caL A B 6001).length → ∀ a b c, (caL A B 6001)[k]?.getD (0, 0, 0) = (a, b, c) → ptB A B a b c = true := fun k hk a b c h => by
  refine ca_pt hc ?_
  rw [List.getElem?_eq_getElem hk] at h
  simp only [Option.getD_some] at h
  rw [← h]; simp
 have hend := tpK_all A (caL A B 6001) (Nat.le_refl _)
 have htp : tpL A B = tpK A (caL A B 6001) (caL A B 6001).length := by rw [hend]; rfl
 rw [htp]
 have HTP := Lib.hid hpt
 clear hpt hend htp
 generalize caL A B 6001 = l at *
 have tok1 := trivial
 have tok2 := trivial
 have tok3 := trivial
 have tok4 := trivial
 have tok5 := trivial
 have tok6 := trivial
 have tok7 := trivial
 have tok8 := trivial
 go_enter Try.func27, Try.ntmps27
 go_upto_region 1 with fail
 refine chk (fun W => Below w.heap.size w W ∧ W.heap[w.heap.size]? = some (.cells #[.int .i64 A, .int .i64 B] 29 (0, 0))) (by refine ⟨?_, ?_⟩ <;> (exact ck)) ?_
 rintro w1 ⟨hB1, qa⟩
 obtain ⟨qh, qi, qt, qu⟩ := bk2 qa
 replace qa := Lib.hid qa
 go_upto_region 2 with fail
 have hCx := bx_old qa.out (.cells #[.int .i64 0, .int .i64 0, .int .i64 0] 45 (0, 0))
 have hsw1 := hB1.size
 have ho1 : OwnX (w1.alloc (.cells #[.int .i64 0, .int .i64 0, .int .i64 0] 45 (0, 0))) (w.heap.size + 1) (.slice (some ⟨w1.heap.size, 0, none⟩) 1 1) (tpK A l 0) := by
  refine ⟨rfl, .inr ⟨w1.heap.size, 1, _, rfl, Nat.succ_le_of_lt qu, heap_alloc_new _ _, Nat.le_refl _, by unfold maxLen; omega, rfl, rfl⟩⟩
 have hs2 : w1.heap.size < (w1.alloc (.cells #[.int .i64 0, .int .i64 0, .int .i64 0] 45 (0, 0))).heap.size := by simp
 replace qa := qa.out
 refine chk (fun W => Below w.heap.size w W ∧ W.heap[w.heap.size]? = some (.cells #[.int .i64 A, .int .i64 B] 29 (0, 0)) ∧ OwnX W (w.heap.size + 1) (.slice (some ⟨w1.heap.size, 0, none⟩) 1 1) (tpK A l 0) ∧ w1.heap.size < W.heap.size) (by refine ⟨?_, ?_, ?_, ?_⟩ <;> (exact ck)) ?_
 clear qh qi qt qa
 clear hB1
 rintro w2 ⟨hB2, qb, ho2, hs3⟩
 obtain ⟨qj, qk, qv, xe⟩ := bk2 qb
 replace qb := Lib.hid qb
 clear hCx ho1 hs2
 generalize w1.heap.size = g1 at *
 try clear w1
 go_upto_region 3 with (first | (go_at_call 47; (with_reducible refine ((TC _).out).mono ?_); rintro e w4 ⟨v4, rfl, ho4, hb4⟩; obtain ⟨a4, c4, rfl⟩ := ho4.toX.shape))
 have hC4 := keepX hb4 qb.out
 have ho5 := ho2.below hb4
 have hB4 := below_via hb4 hB2 hB2.size
 have hrw : RwX w4 a4 l (.slice (some ⟨g1, 0, none⟩) 1 1) := fun h0 => by
  rcases ho4.toX.2 with ⟨-, h1⟩ | ⟨g, cap, h1, -, -, h2, h3⟩
  ·omega
  ·simp only [Value.slice.injEq] at h1
   refine ⟨g, h1.1, h3, ?_⟩
   simp only [Value.ownBlock, ne_eq, Option.some.injEq]
   omega
 clear hb4 ho4 TC ho2
 replace qb := qb.out
 refine chk (fun W => Below w.heap.size w W ∧ W.heap[w.heap.size]? = some (.cells #[.int .i64 A, .int .i64 B] 29 (0, 0)) ∧ OwnX W (w.heap.size + 1) (.slice (some ⟨g1, 0, none⟩) 1 1) (tpK A l 0) ∧ RwX W a4 l (.slice (some ⟨g1, 0, none⟩) 1 1)) (by refine ⟨?_, ?_, ?_, ?_⟩ <;> (exact ck)) ?_
 clear qj qk qv qb
 clear hB2
 rintro w5 ⟨hB5, qc, ho6, hrx⟩
 obtain ⟨ql, qm, qw, xf⟩ := bk2 qc
 replace qc := Lib.hid qc
 clear hC4 ho5 hB4 hrw
 go_loopw [3, 13] (fun ov iv wr => TpRel w A B l a4 ov iv wr) (fun _ iv _ => (l.length - intOf iv).toNat)
 case atStart => exact ⟨0, _, rfl, rfl, by omega, ho6, hrx, qc.out, hB5⟩
 case round =>
  clear ho6 hrx
  obtain ⟨k, v, rfl, rfl, hk, ho, hrx, hC, hbw⟩ := hrel
  have hsw := hbw.size
  have hln := tpK_len A l k
  by_cases hlt : k < l.length
  ·have hltc : (k : Int) < (l.length : Int) := by omega
   obtain ⟨g, rfl, hr, hne⟩ := hrx (by omega)
   have hfl := flat3_len l
   obtain ⟨q0, q1, q2⟩ := flat3_at l k hlt
   have c0 := (hr.2 (k * 3) (by omega)).1
   have c1 := (hr.2 (k * 3 + 1) (by omega)).1
   have c2 := (hr.2 (k * 3 + 2) (by omega)).1
   rw [q0] at c0
   rw [q1] at c1
   rw [q2] at c2
   obtain ⟨⟨x, y, e⟩, hy⟩ : ∃ y, l[k]?.getD (0, 0, 0) = y := ⟨_, rfl⟩
   have hpp := HTP.out k hlt _ _ _ hy
   have hnx := tpK_next (A := A) hlt hy
   rw [hy] at c0 c1 c2
   simp only at c0 c1 c2
   have TO := fun W : World => Lib.hid (orderOfPoint_any A B x y e W hb.1 hb.2.1 hpp)
   rw [show orB A x y e = (orV A x y e).2 from rfl] at hnx
   obtain ⟨⟨o1, o2⟩, hov⟩ : ∃ r, orV A x y e = r := ⟨_, rfl⟩
   rw [hov] at TO hnx
   simp only at TO hnx
   clear q0 q1 q2 hfl hy hpp hov hr hne
   have HNX := Lib.hid hnx
   have HRX := Lib.hid hrx
   have HO := Lib.hid ho
   clear hnx hrx ho
   go_upto_region 5 with fail
   have hox := HO.out.below (Below.alloc (Below.refl _ _) (Nat.le_refl _) (.cells #[.int .i64 x, .int .i64 y, .int .i64 e] 45 (0, 0)))
   have hrx2 := HRX.out.via (Below.alloc (Below.refl _ _) (Nat.le_refl _) (.cells #[.int .i64 x, .int .i64 y, .int .i64 e] 45 (0, 0)))
   replace qc := qc.out
   refine chk (fun W => Below w.heap.size w W ∧ W.heap[w.heap.size]? = some (.cells #[.int .i64 A, .int .i64 B] 29 (0, 0)) ∧ W.heap[wr.heap.size]? = some (.cells #[.int .i64 x, .int .i64 y, .int .i64 e] 45 (0, 0)) ∧ OwnX W (w.heap.size + 1) v (tpK A l k) ∧ RwX W (some ⟨g, 0, none⟩) l v) (by refine ⟨?_, ?_, ?_, ?_, ?_⟩ <;> (exact ck)) ?_
   clear ql qm qw qc
   clear hB5
   rintro w6 ⟨hB6, qd, qe, ho3, hr3⟩
   obtain ⟨qn, qo, qx, xg⟩ := bk2 qd
   replace qd := Lib.hid qd
   obtain ⟨qp, qq, qr, qy, xh⟩ := bk3 qe
   replace qe := Lib.hid qe
   clear hox hrx2 hC c0 c1 c2 HO HRX
   generalize wr.heap.size = gp at *
   try clear wr
   go_upto_region 6 with (first | (have _t := tok7; go_at_call 48; (with_reducible refine ((TO _).out).mono ?_); rintro e w7 ⟨rfl, hb7⟩; clear tok7 _t; have hz7 := hb7.size; (try simp only [sA, sB, sC, sD] at hz7)))
   have qf := (hb7.block (w.heap.size) (blk_lt' qd.out)).trans qd.out
   clear qn qo qx qd
   obtain ⟨qz, xa, xi, xj⟩ := bk2 qf
   replace qf := Lib.hid qf
   have qg := (hb7.block (gp) (blk_lt' qe.out)).trans qe.out
   clear qp qq qr qy qe
   obtain ⟨xb, xc, xd, xm, xn⟩ := bk3 qg
   replace qg := Lib.hid qg
   have hB7 : Below w.heap.size w w7 := below_via hb7 (by assumption) (by go_size)
   have HO7 := Lib.hid (ho3.below hb7)
   have HR7 := Lib.hid (hr3.via hb7)
   have HC7 := qf
   clear ho3 hr3 hb7 TO
   cases o2
   ·go_wp2_with fail
    go_roundw
    case rel => exact ⟨k + 1, v, by go_num, rfl, by omega, by rw [HNX.out, if_neg (by simp), List.append_nil]; exact HO7.out, HR7.out, HC7.out, hB7⟩
    case measure => simp [intOf]; omega
   ·have hsw7 := hB7.size
    go_wp2_with (first | (at_builtin; refine wpList_append_own_at _ rfl _ _ 31 rfl (w.heap.size + 1) 45 i0 (.agg #[.int .i64 0, .int .i64 0, .int .i64 0]) 3 24 Try.underlying31 hi iz0 iz1 iz2 rfl (by decide) v _ _ rfl (HO7.out.alloc _) ⟨w7.heap.size, 0, none⟩ 1 1 [_, _, _] rfl rfl (cells3_new' _ _ _ _ _) (by simp [Value.oneCell']) (by unfold maxLen; omega) (by omega) (by simp; omega) ?_; intro v1 w8 hv1 hg1 _ hat))
    go_roundw
    case rel =>
     have hQ5 := bx_old HC7.out (.cells #[.int .i64 x, .int .i64 y, .int .i64 e] 45 (0, 0))
     refine ⟨k + 1, v1, by go_num, rfl, by omega, ?_, ?_, ?_, ?_⟩
     ·unfold OwnX
      rw [HNX.out, if_pos rfl, flat3_append, ints_append, List.length_append]
      simpa [ints, flat3] using hv1
     ·exact (HR7.out.via (Below.alloc (Below.refl _ _) (Nat.le_refl _) _)).grown hg1 hat
     ·exact (hg1.block _ (blk_lt' hQ5) (row_typeX (HO7.out.below ((Below.refl _ _).alloc (Nat.le_refl _) _)) hQ5 (by decide))).trans hQ5
     ·exact (Below.alloc hB7 (by omega) _).grown hg1 (by simp; omega) (fun i h => by have := (HO7.out.lt _ h).1; omega)
    case measure => simp [intOf]; omega
  ·obtain rfl : k = l.length := by omega
   go_wp2_with fail
   go_ret
   exact ⟨_, rfl, ho, hbw⟩
end
end Go.Proofs.Ytbnglnbcfabmgaa
