/- Lemmas and contracts of functions. No condition. -/
import Derived.Test.YtbnglnbcfabmgaaPk41
import Derived.Test.YtbnglnbcfabmgaaPk42
import Derived.Test.YtbnglnbcfabmgaaPk45
namespace Go.Proofs.Ytbnglnbcfabmgaa
open Go.RowKit
set_option linter.unusedVariables false
set_option maxHeartbeats 4000000
set_option maxRecDepth 20000
set_option linter.unusedSimpArgs false
/-- the candidates at one first coordinate -/
noncomputable def caS (A B x : Int) : List P3 :=
 if (exR (evV A B x 1)).2 = true then (if (exR (evV A B x 1)).1 = 0 then [(x, 0, 1)] else if (coV A B).tmod ((exR (evV A B x 1)).1 * (exR (evV A B x 1)).1) = 0 then [(x, -(exR (evV A B x 1)).1, 1), (x, (exR (evV A B x 1)).1, 1)] else []) else []
noncomputable def caL (A B : Int) : Nat → List P3
 | 0 => []
 | k + 1 => caL A B k ++ caS A B (-3000 + (k : Int))
theorem caS_len (A B x : Int) : (caS A B x).length ≤ 2 := by
 unfold caS
 split
 ·split
  ·simp
  ·split <;> simp
 ·simp
theorem caL_len (A B : Int) : ∀ k, (caL A B k).length ≤ 2 * k
 | 0 => by simp [caL]
 | k + 1 => by
  have := caL_len A B k
  have := caS_len A B (-3000 + (k : Int))
  simp only [caL, List.length_append]; omega
theorem exR_yes {n : Int} (h : (exR n).2 = true) : 0 ≤ (exR n).1 ∧ (exR n).1 * (exR n).1 = n := by
 unfold exR at h ⊢
 by_cases hn : n < 0
 ·rw [if_pos hn] at h; simp at h
 ·rw [if_neg hn] at h ⊢
  by_cases hs : rtV n * rtV n = n
  ·rw [if_pos hs]; exact ⟨(rtV_spec' (by omega)).1, hs⟩
  ·rw [if_neg hs] at h; simp at h
theorem caS_mem {A B x y e x0 : Int} : (x, y, e) ∈ caS A B x0 ↔ x = x0 ∧ e = 1 ∧ y * y = evV A B x0 1 ∧ (y = 0 ∨ (coV A B).tmod (y * y) = 0) := by
 unfold caS
 constructor
 ·intro h
  by_cases h1 : (exR (evV A B x0 1)).2 = true
  ·obtain ⟨h2, h3⟩ := exR_yes h1
   rw [if_pos h1] at h
   by_cases h4 : (exR (evV A B x0 1)).1 = 0
   ·rw [if_pos h4] at h
    simp only [List.mem_singleton, Prod.mk.injEq] at h
    obtain ⟨rfl, rfl, rfl⟩ := h
    rw [h4] at h3
    exact ⟨rfl, rfl, h3, Or.inl rfl⟩
   ·rw [if_neg h4] at h
    by_cases h5 : (coV A B).tmod ((exR (evV A B x0 1)).1 * (exR (evV A B x0 1)).1) = 0
    ·rw [if_pos h5] at h
     simp only [List.mem_cons, List.not_mem_nil, or_false, Prod.mk.injEq] at h
     rcases h with ⟨rfl, rfl, rfl⟩ | ⟨rfl, rfl, rfl⟩
     ·exact ⟨rfl, rfl, by rw [Int.neg_mul_neg]; exact h3, Or.inr (by rw [Int.neg_mul_neg]; exact h5)⟩
     ·exact ⟨rfl, rfl, h3, Or.inr h5⟩
    ·rw [if_neg h5] at h; simp at h
  ·rw [if_neg h1] at h; simp at h
 ·rintro ⟨rfl, rfl, h3, h4⟩
  have h1 : (exR (evV A B x 1)).2 = true := by rw [← h3, exR_sq]
  obtain ⟨h5, h6⟩ := exR_yes h1
  rw [if_pos h1]
  generalize (exR (evV A B x 1)).1 = r at *
  have hyr : y = r ∨ y = -r := by
   have : (y - r) * (y + r) = 0 := by rw [← h6] at h3; grind
   rcases Int.mul_eq_zero.1 this with h | h <;> omega
  by_cases hr : r = 0
  ·subst hr
   obtain rfl : y = 0 := by omega
   simp
  ·rw [if_neg hr]
   have h7 : (coV A B).tmod (r * r) = 0 := by
    rcases hyr with rfl | rfl
    ·rcases h4 with h | h
     ·exact absurd h hr
     ·exact h
    ·rcases h4 with h | h
     ·exact absurd (by omega) hr
     ·rw [Int.neg_mul_neg] at h; exact h
   rw [if_pos h7]
   rcases hyr with rfl | rfl <;> simp
theorem caL_mem {A B x y e : Int} : ∀ k : Nat, (x, y, e) ∈ caL A B k ↔ (-3000 ≤ x ∧ x < -3000 + k) ∧ e = 1 ∧ y * y = evV A B x 1 ∧ (y = 0 ∨ (coV A B).tmod (y * y) = 0)
 | 0 => by simp [caL]; omega
 | k + 1 => by
  rw [caL, List.mem_append, caL_mem k, caS_mem]
  constructor
  ·rintro (⟨h, r⟩ | ⟨rfl, r⟩)
   ·exact ⟨by omega, r⟩
   ·exact ⟨by omega, r⟩
  ·rintro ⟨h, r⟩
   by_cases hx : x = -3000 + (k : Int)
   ·subst hx; exact Or.inr ⟨rfl, r⟩
   ·exact Or.inl ⟨by omega, r⟩
theorem caL_iff {A B x y e : Int} : (x, y, e) ∈ caL A B 6001 ↔ caB A B x y e = true := by
 rw [caL_mem]
 unfold caB
 simp only [Bool.and_eq_true, Bool.or_eq_true, decide_eq_true_eq]
 constructor
 ·rintro ⟨h1, h2, h3, h4⟩; exact ⟨⟨⟨h2, by omega⟩, h3⟩, h4⟩
 ·rintro ⟨⟨⟨h2, h1⟩, h3⟩, h4⟩; exact ⟨by omega, h2, h3, h4⟩
theorem cells6_new (w : World) (x y z p q r : Value) (t : TypeId) : ∀ j u, [x, y, z, p, q, r][j]? = some u → (w.alloc (.cells #[x, y, z, p, q, r] t)).cell? ((⟨w.heap.size, 0, none⟩ : Addr).add j) = some u := by
 intro j u hj
 have : j < 6 := by
  rcases Nat.lt_or_ge j 6 with h | h
  ·exact h
  ·rw [List.getElem?_eq_none (by simpa using h)] at hj; cases hj
 match j, hj with
 | 0, hj => simp at hj; subst hj; simp [Addr.add]
 | 1, hj => simp at hj; subst hj; simp [Addr.add]
 | 2, hj => simp at hj; subst hj; simp [Addr.add]
 | 3, hj => simp at hj; subst hj; simp [Addr.add]
 | 4, hj => simp at hj; subst hj; simp [Addr.add]
 | 5, hj => simp at hj; subst hj; simp [Addr.add]
def CaRel (w : World) (A B : Int) (ov xv : Value) (wr : World) : Prop := ∃ (k : Nat) (v : Value), xv = .int .i64 (-3000 + (k : Int)) ∧ v = ov ∧ k ≤ 6001 ∧ OwnX wr (w.heap.size + 1) v (caL A B k) ∧ wr.heap[w.heap.size]? = some (.cells #[.int .i64 A, .int .i64 B] 29 (0, 0)) ∧ Below w.heap.size w wr
theorem candidates_any (A B : Int) (w : World) (hA : -1000 ≤ A ∧ A ≤ 1000) (hB : -10000 ≤ B ∧ B ≤ 10000) :
  Calls Try.prog 47 #[.agg #[.int .i64 A, .int .i64 B]] w fun r w' => ∃ v, r = .returned v ∧ OwnX w' (w.heap.size + 1) v (caL A B 6001) ∧ Below w.heap.size w w' := by
 obtain ⟨i0, hi, iz0, iz1, iz2⟩ := info_parts infoPt
 have TK := fun W : World => Lib.hid (core_any A B W hA hB)
 have hkb := LN.disc_bd hA hB
 rw [show 4 * A * A * A + 27 * B * B = coV A B from rfl] at hkb
 have HKB := Lib.hid hkb
 clear hkb
 have tok1 := trivial
 have tok2 := trivial
 have tok3 := trivial
 go_enter Try.func47, Try.ntmps47
 go_upto_region 1 with fail
 refine chk (fun W => Below w.heap.size w W ∧ W.heap[w.heap.size]? = some (.cells #[.int .i64 A, .int .i64 B] 29 (0, 0))) (by refine ⟨?_, ?_⟩ <;> (exact ck)) ?_
 rintro w9 ⟨hB9, qh⟩
 obtain ⟨qj, qk, ql, qm⟩ := bk2 qh
 replace qh := Lib.hid qh
 go_wp2_with fail
 go_loopw [3, 4] (fun ov xv wr => CaRel w A B ov xv wr) (fun _ xv _ => (3001 - intOf xv).toNat)
 case atStart => exact ⟨0, _, by simp, rfl, by omega, OwnX.nil _ _, qh.out, hB9⟩
 case round =>
  obtain ⟨k, v, rfl, rfl, hk, ho, hC, hbw⟩ := hrel
  have hsw := hbw.size
  have q0 : wr.cell? ⟨w.heap.size, 0, none⟩ = some (.int .i64 A) := blk_cell hC 0
  have q1 : wr.cell? ⟨w.heap.size, 1, none⟩ = some (.int .i64 B) := blk_cell hC 1
  have lq := blk_lt' hC
  have HC := Lib.hid hC
  have HO := Lib.hid ho
  clear hC ho
  have hl := caL_len A B k
  have hsu : caL A B (k + 1) = caL A B k ++ caS A B (-3000 + (k : Int)) := rfl
  by_cases hlt : k < 6001
  ·have hltc : -3000 + (k : Int) ≤ 3000 := by omega
   obtain ⟨x, hx⟩ : ∃ x, -3000 + (k : Int) = x := ⟨_, rfl⟩
   have hxb : -3000 ≤ x ∧ x ≤ 3000 := by omega
   have hxn : x + 1 = -3000 + ((k + 1 : Nat) : Int) := by omega
   have hxm : (3001 - (x + 1)).toNat < (3001 - x).toNat := by omega
   rw [hx] at hsu hltc ⊢
   have TC := fun W : World => Lib.hid (curveValue_any A B x 1 W hA hB (by omega) (by omega))
   have hvb := evV_bd hA hB (x := x) (by omega) (e := 1) (by omega)
   have TX := fun W : World => Lib.hid (exactRoot_any (evV A B x 1) W (by omega) (by omega))
   unfold caS at hsu
   obtain ⟨l0, hl0⟩ : ∃ l, caL A B k = l := ⟨_, rfl⟩
   rw [hl0] at HO hl hsu
   have HXN := Lib.hid hxn
   have HXM := Lib.hid hxm
   clear hl0 hx hxn hxm
   have hyes := @exR_yes (evV A B x 1)
   obtain ⟨⟨y, ok⟩, hxr⟩ : ∃ q, exR (evV A B x 1) = q := ⟨_, rfl⟩
   rw [hxr] at TX hsu hyes
   simp only at TX hsu hyes
   have hbd : y * y = evV A B x 1 → 0 ≤ y → y ≤ 3000000 := fun h1 h2 => by
    refine Int.not_lt.1 fun h3 => ?_
    have : 3000001 * 3000001 ≤ y * y := Int.mul_le_mul (by omega) (by omega) (by omega) (by omega)
    omega
   generalize evV A B x 1 = n at *
   clear hxr
   cases ok
   ·rw [if_neg (by simp), List.append_nil] at hsu
    have HSU := Lib.hid hsu
    clear hsu hyes hbd TK
    go_wp2_with (first | (have _t := tok1; go_at_call 57; (with_reducible refine ((TC _).out).mono ?_); rintro e w1 ⟨rfl, hb1⟩; clear tok1 _t; have hz1 := hb1.size; (try simp only [sA, sB, sC, sD] at hz1); (try (obtain ⟨kq, qc⟩ := cfAt hb1 (w.heap.size); have qa := kq 0; have qb := kq 1; clear kq; simp [go_sem, *] at qa qb qc)); (try have qf : w.heap.size < w1.heap.size := by omega)) | (go_at_call 68; (with_reducible refine ((TX _).out).mono ?_); rintro e w' ⟨rfl, rfl⟩) | (have _t := tok2; go_at_call 54; (with_reducible refine ((TK _).out).mono ?_); rintro e w2 ⟨rfl, hb2⟩; clear tok2 _t; have hz2 := hb2.size; (try simp only [sA, sB, sC, sD] at hz2); (try (obtain ⟨kq, qg⟩ := cfAt hb2 (w.heap.size); have qd := kq 0; have qe := kq 1; clear kq; simp [go_sem, *] at qd qe qg)); (try have qi : w.heap.size < w2.heap.size := by omega); (try clear qa qb qc); (try clear qf)))
    go_roundw
    case rel => exact ⟨k + 1, v, by rw [HXN.out], rfl, by omega, by rw [HSU.out]; exact HO.out.below hb1, keepX hb1 HC.out, hbw.trans (hb1.mono hsw)⟩
    case measure => simpa [intOf] using HXM.out
   ·rw [if_pos rfl] at hsu
    obtain ⟨hy0, hyy⟩ := hyes rfl
    have hyb := hbd hyy hy0
    clear hyes hbd
    by_cases hz : y = 0
    ·rw [if_pos hz] at hsu
     subst hz
     have HSU := Lib.hid hsu
     clear hsu hyy hy0 hyb TK
     go_wp2_with (first | (at_builtin; refine wpList_append_own_at _ rfl _ _ 31 rfl (w.heap.size + 1) 45 i0 (.agg #[.int .i64 0, .int .i64 0, .int .i64 0]) 3 24 Try.underlying31 hi iz0 iz1 iz2 rfl (by decide) v _ _ rfl ((HO.out.below hb1).alloc _) ⟨w1.heap.size, 0, none⟩ 1 1 [_, _, _] rfl rfl (cells3_new' _ _ _ _ _) (by simp [Value.oneCell']) (by unfold maxLen; omega) (by omega) (by simp; omega) ?_; intro v1 w6 hv1 hg1 _ hat) | (have _t := tok1; go_at_call 57; (with_reducible refine ((TC _).out).mono ?_); rintro e w1 ⟨rfl, hb1⟩; clear tok1 _t; have hz1 := hb1.size; (try simp only [sA, sB, sC, sD] at hz1); (try (obtain ⟨kq, qc⟩ := cfAt hb1 (w.heap.size); have qa := kq 0; have qb := kq 1; clear kq; simp [go_sem, *] at qa qb qc)); (try have qf : w.heap.size < w1.heap.size := by omega)) | (go_at_call 68; (with_reducible refine ((TX _).out).mono ?_); rintro e w' ⟨rfl, rfl⟩))
     have hr6 := HO.out.below hb1
     go_roundw
     case rel =>
      have hQ5 := bx_old (keepX hb1 HC.out) (.cells #[.int .i64 x, .int .i64 0, .int .i64 1] 45 (0, 0))
      refine ⟨k + 1, v1, by rw [HXN.out], rfl, by omega, ?_, ?_, ?_⟩
      ·unfold OwnX
       rw [HSU.out, flat3_append, ints_append, List.length_append]
       simpa [ints, flat3] using hv1
      ·exact (hg1.block _ (blk_lt' hQ5) (row_typeX (hr6.below ((Below.refl _ _).alloc (Nat.le_refl _) _)) hQ5 (by decide))).trans hQ5
      ·exact (Below.alloc (hbw.trans (hb1.mono hsw)) (by omega) _).grown hg1 (by simp; omega) (fun i h => by have := (hr6.lt _ h).1; omega)
     case measure => simpa [intOf] using HXM.out
    ·rw [if_neg hz] at hsu
     have hzz : (y == 0) = false := by simpa using hz
     have hpos : 0 < y * y := LN.sq_pos hz
     have hq2 : y * y ≤ 9000000000000 := by
      have : y * y ≤ 3000000 * 3000000 := Int.mul_le_mul hyb hyb hy0 (by omega)
      omega
     have hkk := HKB.out
     have hzq : (y * y == 0) = false := by simpa using (show y * y ≠ 0 by omega)
     have hmb : -6700000000 ≤ (coV A B).tmod (y * y) ∧ (coV A B).tmod (y * y) ≤ 6700000000 := by
      have h1 := Int.natAbs_tmod (coV A B) (y * y)
      have h2 := Nat.mod_le (coV A B).natAbs (y * y).natAbs
      omega
     clear hyy hz
     generalize coV A B = cv at *
     by_cases hm : cv.tmod (y * y) = 0
     ·rw [if_pos hm] at hsu
      have hmm : (cv.tmod (y * y) == 0) = true := by simpa using hm
      have HSU := Lib.hid hsu
      clear hsu hm
      go_wp2_with (first | (at_builtin; refine wpList_append_own_at _ rfl _ _ 31 rfl (w.heap.size + 1) 45 i0 (.agg #[.int .i64 0, .int .i64 0, .int .i64 0]) 3 24 Try.underlying31 hi iz0 iz1 iz2 rfl (by decide) v _ _ rfl ((HO.out.below (below_via hb2 hb1 (by have := hb1.size; omega))).alloc _) ⟨w2.heap.size, 0, none⟩ 2 2 [_, _, _, _, _, _] rfl rfl (cells6_new _ _ _ _ _ _ _ _) (by simp [Value.oneCell']) (by unfold maxLen; omega) (by omega) (by simp; omega) ?_; intro v1 w6 hv1 hg1 _ hat) | (have _t := tok1; go_at_call 57; (with_reducible refine ((TC _).out).mono ?_); rintro e w1 ⟨rfl, hb1⟩; clear tok1 _t; have hz1 := hb1.size; (try simp only [sA, sB, sC, sD] at hz1); (try (obtain ⟨kq, qc⟩ := cfAt hb1 (w.heap.size); have qa := kq 0; have qb := kq 1; clear kq; simp [go_sem, *] at qa qb qc)); (try have qf : w.heap.size < w1.heap.size := by omega)) | (go_at_call 68; (with_reducible refine ((TX _).out).mono ?_); rintro e w' ⟨rfl, rfl⟩) | (have _t := tok2; go_at_call 54; (with_reducible refine ((TK _).out).mono ?_); rintro e w2 ⟨rfl, hb2⟩; clear tok2 _t; have hz2 := hb2.size; (try simp only [sA, sB, sC, sD] at hz2); (try (obtain ⟨kq, qg⟩ := cfAt hb2 (w.heap.size); have qd := kq 0; have qe := kq 1; clear kq; simp [go_sem, *] at qd qe qg)); (try have qi : w.heap.size < w2.heap.size := by omega); (try clear qa qb qc); (try clear qf)))
      have hb12 := below_via hb2 hb1 (by have := hb1.size; omega)
      have hs12 := hb12.size
      have hr6 := HO.out.below hb12
      go_roundw
      case rel =>
       have hQ5 := bx_old (keepX hb12 HC.out) (.cells #[.int .i64 x, .int .i64 (-y), .int .i64 1, .int .i64 x, .int .i64 y, .int .i64 1] 45 (0, 0))
       refine ⟨k + 1, v1, by rw [HXN.out], rfl, by omega, ?_, ?_, ?_⟩
       ·unfold OwnX
        rw [HSU.out, flat3_append, ints_append, List.length_append]
        simpa [ints, flat3] using hv1
       ·exact (hg1.block _ (blk_lt' hQ5) (row_typeX (hr6.below ((Below.refl _ _).alloc (Nat.le_refl _) _)) hQ5 (by decide))).trans hQ5
       ·exact (Below.alloc (hbw.trans (hb12.mono hsw)) (by omega) _).grown hg1 (by simp; omega) (fun i h => by have := (hr6.lt _ h).1; omega)
      case measure => simpa [intOf] using HXM.out
     ·rw [if_neg hm, List.append_nil] at hsu
      have hmm : (cv.tmod (y * y) == 0) = false := by simpa using hm
      have HSU := Lib.hid hsu
      clear hsu hm
      go_wp2_with (first | (have _t := tok1; go_at_call 57; (with_reducible refine ((TC _).out).mono ?_); rintro e w1 ⟨rfl, hb1⟩; clear tok1 _t; have hz1 := hb1.size; (try simp only [sA, sB, sC, sD] at hz1); (try (obtain ⟨kq, qc⟩ := cfAt hb1 (w.heap.size); have qa := kq 0; have qb := kq 1; clear kq; simp [go_sem, *] at qa qb qc)); (try have qf : w.heap.size < w1.heap.size := by omega)) | (go_at_call 68; (with_reducible refine ((TX _).out).mono ?_); rintro e w' ⟨rfl, rfl⟩) | (have _t := tok2; go_at_call 54; (with_reducible refine ((TK _).out).mono ?_); rintro e w2 ⟨rfl, hb2⟩; clear tok2 _t; have hz2 := hb2.size; (try simp only [sA, sB, sC, sD] at hz2); (try (obtain ⟨kq, qg⟩ := cfAt hb2 (w.heap.size); have qd := kq 0; have qe := kq 1; clear kq; simp [go_sem, *] at qd qe qg)); (try have qi : w.heap.size < w2.heap.size := by omega); (try clear qa qb qc); (try clear qf)))
      have hb12 := below_via hb2 hb1 (by have := hb1.size; omega)
      go_roundw
      case rel => exact ⟨k + 1, v, by rw [HXN.out], rfl, by omega, by rw [HSU.out]; exact HO.out.below hb12, keepX hb12 HC.out, hbw.trans (hb12.mono hsw)⟩
      case measure => simpa [intOf] using HXM.out
  ·obtain rfl : k = 6001 := by omega
   have hnc : ¬ (-3000 + ((6001 : Nat) : Int) ≤ (3000 : Int)) := by omega
   clear hsu
   go_wp2_with fail
   go_ret
   exact ⟨_, rfl, HO.out, hbw⟩
end Go.Proofs.Ytbnglnbcfabmgaa
