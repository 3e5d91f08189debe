/- Lemmas and contracts of functions. No condition. -/
import Derived.Test.YtnkmgpmehkholaaGreatPq1
import Derived.Test.YtnkmgpmehkholaaGreatPq19
import Derived.Test.YtnkmgpmehkholaaGreatPq22
namespace Go.Proofs.YtnkmgpmehkholaaGreat
open Go.RowKit
set_option linter.unusedVariables false
set_option maxHeartbeats 1000000
set_option maxRecDepth 20000
set_option linter.unusedSimpArgs false
attribute [local go_sem] openAt openUpon
def BdRel (zs : List Int) (n : Nat) (av iv : Value) : Prop := ∃ k : Nat, k ≤ n ∧ iv = .int .i64 ((k : Int) - 1) ∧ av = .int .i64 (val (zs.drop k))
theorem bitLength_any (b : Bool) (a : Option Addr) (n c : Nat) (z : Int) (w : World) (hs : Wx w b a n c z) (hl : n ≤ 10000) :
  Calls Tryz.prog 106 #[.agg #[.bool b, .slice a n c]] w fun e w' => e = .returned (.int .i64 (bl (ab z))) ∧ Below w.heap.size w w' := by
 have hz := ab_nonneg z
 have hln : (limbs (ab z)).length = n := hs.row.len
 have hbb := bl_len (ab z)
 have TA := fun (W : World) (h : Wx W b a n c z) => absolute_any b a n c z W h (by omega)
 have TN : ∀ b1 : Bool, b1 = ngB (ab z) → b1 = false := fun b1 e => by rw [e]; simp [ngB]; omega
 generalize ab z = y0 at *
 have tok1 := trivial
 have tok2 := trivial
 have tok3 := trivial
 have tok4 := trivial
 go_enter Tryz.func106, Tryz.ntmps106
 go_upto_region 1 with (fail)
 refine chk (fun W => Below w.heap.size w W ∧ W.heap[w.heap.size]? = some (.cells #[.bool b, .slice a n c] 80 (0, 0)) ∧ Wx W b a n c z) (by refine ⟨?_, ?_, ?_⟩ <;> (exact ck)) ?_
 try clear hs
 rintro w1 ⟨hB1, qc, hs'⟩
 obtain ⟨qm, qn, qy, xi⟩ := bk2 qc
 replace qc := Lib.hid qc
 have hs := hs'
 clear hs'
 go_upto_region 2 with (first | (have _t := tok2; go_at_call 126; (with_reducible refine ((TA _ (hs.below bel))).mono ?_); rintro e w2 ⟨b1, a1, n1, c1, rfl, hv1, hf1, hb2⟩; clear tok2 _t; have hz2 := hb2.size; (try simp only [sA, sB, sC, sD] at hz2); (try (obtain ⟨kq, qh⟩ := cfAt hb2 (w.heap.size); have qf := kq 0; have qg := kq 1; clear kq; simp [go_sem, *] at qf qg qh)); (try have qu : w.heap.size < w2.heap.size := by omega); (try clear qi qj qv); (try clear qw)))
 obtain rfl : b1 = false := TN b1 hv1.neg
 clear TA TN
 have qd := (hb2.block (w.heap.size) (blk_lt' qc.out)).trans qc.out
 clear qm qn qy qc
 obtain ⟨qo, qq, qz, xj⟩ := bk2 qd
 replace qd := Lib.hid qd
 replace hs := hs.below hb2
 have hB2 : Below w.heap.size w w2 := below_via hb2 (by assumption) (by go_size)
 replace qd := qd.out
 refine chk (fun W => Below w.heap.size w W ∧ W.heap[w.heap.size]? = some (.cells #[.bool false, .slice a1 n1 c1] 80 (0, 0)) ∧ Wx W false a1 n1 c1 y0) (by refine ⟨?_, ?_, ?_⟩ <;> (exact ck)) ?_
 try clear hv1
 clear qo qq qz qd
 clear hB2
 rintro w3 ⟨hB3, qe, hv1'⟩
 obtain ⟨qr, qt, xc, xk⟩ := bk2 qe
 replace qe := Lib.hid qe
 have hv1 := hv1'
 clear hv1'
 have HR3 := qe.out
 go_wp2_with fail
 go_loopw [3] (fun bv wr => BtRel w w.heap.size y0 bv wr) (fun bv _ => bl y0 + 1 - (intOf bv).toNat)
 case atStart => exact ⟨0, y0, a1, n1, c1, rfl, hz, Int.le_refl _, by omega, HR3, hv1, hB3⟩
 case round =>
  obtain ⟨bits, y, a2, n2, c2, rfl, hy0, hy1, hbl, hrow, hwx, hbw⟩ := hrel
  have HB := Lib.hid hbl
  have hbits : bits ≤ 140000 := by omega
  have k0 : wr.cell? ⟨w.heap.size, 0, none⟩ = some (.bool false) := blk_cell hrow 0
  have k1 : wr.cell? ⟨w.heap.size, 1, none⟩ = some (.slice a2 n2 c2) := blk_cell hrow 1
  have f0 := fun o => blk_frozen hrow o
  have lg := blk_lt' hrow
  have HR := Lib.hid hrow
  have hl2 : n2 ≤ 10000 := by
   have h1 := hwx.row.len
   have h2 := limbs_len.2 (Int.lt_of_le_of_lt hy1 (limbs_len.1 (Nat.le_refl (limbs y0).length)))
   rw [ab_pos hy0] at h1
   omega
  have hlen := hwx.row.len
  rw [ab_pos hy0] at hlen
  have HL := Lib.hid hlen
  clear hbl hrow hlen HR3 qe qr qt xc
  by_cases h1 : 2 < n2
  ·have h1c : (2 : Int) < n2 := by omega
   have hbig : 100000000 ≤ y := by
    rcases Int.lt_or_le y 100000000 with h | h
    ·have h3 := (limbs_len (n := y) (k := 2)).2 (by omega)
     have h4 := HL.out
     omega
    ·exact h
   have HS := Lib.hid (bl_shift 26 y (by omega))
   have T2 : ∀ W, W = wr → Calls Tryz.prog 123 #[.agg #[.bool false, .slice a2 n2 c2], .int .i64 67108864] W (NewQ W y 67108864) := fun W hW => by subst hW; exact divWhole_pos a2 n2 c2 y 67108864 W hwx (by omega) (by omega) (by omega)
   go_wp2_with (first | (have _t := tok4; go_at_call 123; (with_reducible refine ((T2 _ rfl)).mono ?_); rintro e w4 ⟨b2, a3, n3, c3, rfl, hv2, hf2, hb4⟩; clear tok4 _t; have hz4 := hb4.size; (try simp only [sA, sB, sC, sD] at hz4); (try (obtain ⟨kq, qx⟩ := cfAt hb4 (w.heap.size); have qk := kq 0; have ql := kq 1; clear kq; simp [go_sem, *] at qk ql qx)); (try have xf : w.heap.size < w4.heap.size := by omega); (try clear qi qj qv); (try clear qw); (try clear qf qg qh); (try clear qu); (try clear xd xe xg); (try clear xh); obtain rfl : b2 = false := (by rw [hv2.neg]; simp [ngB]; omega)))
   go_roundw
   case rel =>
    have e12 : (2 : Int) ^ 26 = 67108864 := by decide
    have h5 := HS.out
    rw [e12] at h5
    have h6 := HB.out
    have hr2 : w4.heap[w.heap.size]? = some (.cells #[.bool false, .slice a2 n2 c2] 80 (0, 0)) := (hb4.block w.heap.size lg).trans HR.out
    refine ⟨bits + 26, y / 67108864, a3, n3, c3, by go_num, by omega, by omega, by omega, ck, ck, ck⟩
   case measure =>
    have e12 : (2 : Int) ^ 26 = 67108864 := by decide
    have h5 := HS.out
    rw [e12] at h5
    have h6 := HB.out
    simp [intOf]; omega
  ·have hy4 : y < 100000000 := by
    have h3 := (limbs_len (n := y) (k := 2)).1 (by have := HL.out; omega)
    have e : (10000 : Int) ^ 2 = 100000000 := by decide
    omega
   have hn2 : n2 ≤ 2 := by omega
   have hn2c : ¬ (2 : Int) < n2 := by omega
   have hwr := Lib.hid hwx.row
   have HLY := Lib.hid (limbs_val hy0)
   have hab := Lib.hid (ab_pos hy0)
   go_wp2_with fail
   go_loop [4, 5] (fun av iv => BdRel (limbs y) n2 av iv) (fun _ iv => (intOf iv + 1).toNat)
   case atStart => exact ⟨n2, Nat.le_refl _, rfl, by rw [List.drop_eq_nil_of_le (by have := HL.out; omega)]; rfl⟩
   case round =>
    obtain ⟨k, hk, rfl, rfl⟩ := hrel
    have hdd := (limbs_dig y).drop k
    have hv0 := val_nonneg hdd
    have hv9 := val_lt hdd
    have hv8 : val ((limbs y).drop k) < 100000000 := by
     refine Int.lt_of_lt_of_le hv9 ?_
     have hle : ((limbs y).drop k).length ≤ 2 := by rw [List.length_drop]; have := HL.out; omega
     have h3 : ((limbs y).drop k).length = 0 ∨ ((limbs y).drop k).length = 1 ∨ ((limbs y).drop k).length = 2 := by omega
     rcases h3 with h | h | h <;> rw [h] <;> decide
    by_cases h0 : 0 < k
    ·have hk1 : k - 1 < (limbs y).length := by have := HL.out; omega
     have HD := Lib.hid (val_drop (limbs y) (k - 1) hk1)
     have hzk := (limbs_dig y).at hk1
     have hdd2 := (limbs_dig y).drop k
     obtain ⟨b7, off, rfl, hb7, hcs⟩ := hwr.out.at (by omega)
     rw [hab.out] at hcs
     have hcell := hcs (k - 1) (by omega)
     have hge : (limbs y)[k - 1]?.getD 0 = (limbs y)[k - 1] := by simp [hk1]
     rw [hge] at hcell
     rw [show k - 1 + 1 = k by omega] at HD
     clear hcs hge hdd hv9 hdd2
     have hv81 : k = 2 → val ((limbs y).drop k) = 0 := fun e => by
      rw [List.drop_eq_nil_of_le (by have := HL.out; omega)]; rfl
     have hv82 : val ((limbs y).drop k) ≤ 9999 := by
      by_cases e : k = 2
      ·have := hv81 e; omega
      ·have hle : ((limbs y).drop k).length ≤ 1 := by rw [List.length_drop]; have := HL.out; omega
       have hlt := val_lt ((limbs_dig y).drop k)
       have h3 : ((limbs y).drop k).length = 0 ∨ ((limbs y).drop k).length = 1 := by omega
       rcases h3 with h | h <;> rw [h] at hlt
       ·have : (10000 : Int) ^ 0 = 1 := by decide
        omega
       ·have : (10000 : Int) ^ 1 = 10000 := by decide
        omega
     clear hv81
     generalize hvv : val ((limbs y).drop k) = V at *
     generalize hxx : (limbs y)[k - 1] = X at *
     have HX := Lib.hid hxx
     have HVV := Lib.hid hvv
     clear hxx hvv
     go_wp2_with fail
     go_round
     case rel => exact ⟨k - 1, by omega, by congr 1; omega, by rw [HD.out]; congr 1; omega⟩
     case measure => simp [intOf]; omega
    ·obtain rfl : k = 0 := by omega
     have HE := Lib.hid (show val ((limbs y).drop 0) = y by rw [List.drop_zero]; exact HLY.out)
     clear hdd hv9 hv8 hv0
     generalize hvv : val ((limbs y).drop 0) = V at *
     have HVV := Lib.hid hvv
     clear hvv
     obtain rfl : V = y := HE.out
     have TL : ∀ W, Calls Tryz.prog 108 #[.int .u64 V] W fun e w' => e = .returned (.int .i64 (bl V)) ∧ W = w' := fun W => by
      have := len_any V W hy0 (by omega)
      rw [bl_lib (by omega)] at this
      exact this
     have hbl2 : (bl V : Int) ≤ 140000 := by have := HB.out; omega
     by_cases hy00 : V = 0
     ·have HZ := Lib.hid (bl_zero (n := V) (by omega))
      subst hy00
      go_wp2_with fail
      go_ret
      refine ⟨ret_int (by have := HB.out; have := HZ.out; omega), ?_⟩
      exact bel
     ·have hyc : (V == 0) = false := by simpa using hy00
      go_wp2_with (first | (go_at_call 108; (with_reducible refine ((TL _)).mono ?_); rintro e w' ⟨rfl, rfl⟩))
      go_ret
      refine ⟨ret_int (by have := HB.out; omega), ?_⟩
      exact bel
end Go.Proofs.YtnkmgpmehkholaaGreat
