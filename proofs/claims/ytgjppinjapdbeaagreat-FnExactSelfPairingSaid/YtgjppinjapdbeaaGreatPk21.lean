/- Lemmas and contracts of functions. No condition. -/
import Derived.Test.YtgjppinjapdbeaaGreatPk5
import Derived.Test.YtgjppinjapdbeaaGreatPk6
import Derived.Test.YtgjppinjapdbeaaGreatPk8
import Derived.Test.YtgjppinjapdbeaaGreatPk9
import Derived.Test.YtgjppinjapdbeaaGreatPk17
import Derived.Test.YtgjppinjapdbeaaGreatPk20
namespace Go.Proofs.YtgjppinjapdbeaaGreat
section
open Go.RowKit
set_option linter.unusedVariables false
set_option maxHeartbeats 1000000
set_option maxRecDepth 20000
set_option linter.unusedSimpArgs false
attribute [local go_sem] openAt openUpon
def BdRel (zs : List Int) (n : Nat) (av iv : Value) : Prop := ∃ k : Nat, k ≤ n ∧ iv = .int .i64 ((k : Int) - 1) ∧ av = .int .i64 (val (zs.drop k))
theorem bitLength_any (b : Bool) (a : Option Addr) (n c : Nat) (z : Int) (w : World) (hs : Wx w b a n c z) (hl : n ≤ 10000) :
    Calls Tryz.prog 111 #[.agg #[.bool b, .slice a n c]] w fun e w' => e = .returned (.int .i64 (bl (ab z))) ∧ Below w.heap.size w w' := by
  have hz := ab_nonneg z
  have hln : (limbs (ab z)).length = n := hs.row.len
  have hbb := bl_len (ab z)
  have TA := fun (W : World) (h : Wx W b a n c z) => absolute_any b a n c z W h (by omega)
  have TN : ∀ b1 : Bool, b1 = ngB (ab z) → b1 = false := fun b1 e => by rw [e]; simp [ngB]; omega
  generalize ab z = y0 at *
  have tok1 : True := trivial
  have tok2 : True := trivial
  have tok3 : True := trivial
  have tok4 : True := trivial
  go_enter Tryz.func111, Tryz.ntmps111
  go_upto_region 1 with (fail)
  refine chk (fun W => Below w.heap.size w W ∧ W.heap[w.heap.size]? = some (.cells #[.bool b, .slice a n c] 82 (0, 0)) ∧ Wx W b a n c z) (by refine ⟨?_, ?_, ?_⟩ <;> (repeat' first | (with_reducible first | assumption | (apply Ne.symm; assumption) | apply Nat.le_refl | apply Nat.le_add_right | apply zL | apply zRf | apply Wx.box | apply Wx.box4 | apply zWa | apply Wx.drew | apply zWn | apply bx_drew | apply bx_drewN | apply bx_set3 | apply bx_set2 | apply bx_set4 | apply bx_set1) | ((with_reducible apply bx_new); (focus (go_size; done))) | (with_reducible first | apply zOl | apply zFa | apply zDn | apply zDr | apply zAl | apply zSt | refine zVi (by assumption) ?_ ?_) | go_size | omega)) ?_
  try clear hs
  rintro w1 ⟨hB1, H_R_1, hs'⟩
  obtain ⟨k_R_1_0, k_R_1_1, f_R_1, l_R_1⟩ := bk2 H_R_1
  replace H_R_1 := Lib.hid H_R_1
  have hs := hs'
  clear hs'
  go_upto_region 2 with (first | (have _t := tok2; go_at_call 131; (with_reducible refine ((TA _ (hs.below (by repeat' first | (with_reducible first | apply zRf | assumption | apply zDn | apply zDr | apply zAl | apply zSt | refine zVi (by assumption) ?_ ?_) | go_size)))).mono ?_); rintro e w2 ⟨b1, a1, n1, c1, rfl, hv1, hf1, hb2⟩; clear tok2 _t; have hz2 := hb2.size; (try simp only [World.size_alloc, World.size_setCell, World.size_drew, World.size_drewN'] at hz2); (try (have kq := cellAt hb2 (w.heap.size) (by go_size); have k2_w_0_0 := kq 0; have k2_w_0_1 := kq 1; clear kq; have f2_w_0 := frozAt hb2 (w.heap.size) (by go_size); simp [go_sem, *] at k2_w_0_0 k2_w_0_1 f2_w_0)); (try have l2_w_0 : w.heap.size < w2.heap.size := by omega); (try clear k1_w_0_0 k1_w_0_1 f1_w_0); (try clear l1_w_0)))
  obtain rfl : b1 = false := TN b1 hv1.neg
  clear TA TN
  have H_R_2 := (hb2.block (w.heap.size) (blk_lt' H_R_1.out)).trans H_R_1.out
  clear k_R_1_0 k_R_1_1 f_R_1 H_R_1
  obtain ⟨k_R_2_0, k_R_2_1, f_R_2, l_R_2⟩ := bk2 H_R_2
  replace H_R_2 := Lib.hid H_R_2
  replace hs := hs.below hb2
  have hB2 : Below w.heap.size w w2 := below_via hb2 (by assumption) (by go_size)
  replace H_R_2 := H_R_2.out
  refine chk (fun W => Below w.heap.size w W ∧ W.heap[w.heap.size]? = some (.cells #[.bool false, .slice a1 n1 c1] 82 (0, 0)) ∧ Wx W false a1 n1 c1 y0) (by refine ⟨?_, ?_, ?_⟩ <;> (repeat' first | (with_reducible first | assumption | (apply Ne.symm; assumption) | apply Nat.le_refl | apply Nat.le_add_right | apply zL | apply zRf | apply Wx.box | apply Wx.box4 | apply zWa | apply Wx.drew | apply zWn | apply bx_drew | apply bx_drewN | apply bx_set3 | apply bx_set2 | apply bx_set4 | apply bx_set1) | ((with_reducible apply bx_new); (focus (go_size; done))) | (with_reducible first | apply zOl | apply zFa | apply zDn | apply zDr | apply zAl | apply zSt | refine zVi (by assumption) ?_ ?_) | go_size | omega)) ?_
  try clear hv1
  clear k_R_2_0 k_R_2_1 f_R_2 H_R_2
  clear hB2
  rintro w3 ⟨hB3, H_R_3, hv1'⟩
  obtain ⟨k_R_3_0, k_R_3_1, f_R_3, l_R_3⟩ := bk2 H_R_3
  replace H_R_3 := Lib.hid H_R_3
  have hv1 := hv1'
  clear hv1'
  have HR3 := H_R_3.out
  go_wp2_with fail
  go_loopw [3] (fun bv wr => BtRel w w.heap.size y0 bv wr) (fun bv _ => bl y0 + 1 - (intOf bv).toNat)
  case atStart => exact ⟨0, y0, a1, n1, c1, rfl, hz, Int.le_refl _, by omega, HR3, hv1, hB3⟩
  case round =>
    obtain ⟨bits, y, a2, n2, c2, rfl, hy0, hy1, hbl, hrow, hwx, hbw⟩ := hrel
    have HB := Lib.hid hbl
    have hbits : bits ≤ 140000 := by omega
    have k0 : wr.cell? ⟨w.heap.size, 0, none⟩ = some (.bool false) := blk_cell hrow 0
    have k1 : wr.cell? ⟨w.heap.size, 1, none⟩ = some (.slice a2 n2 c2) := blk_cell hrow 1
    have f0 := fun o => blk_frozen hrow o
    have lg := blk_lt' hrow
    have HR := Lib.hid hrow
    have hl2 : n2 ≤ 10000 := by
      have h1 := hwx.row.len
      have h2 := limbs_len.2 (Int.lt_of_le_of_lt hy1 (limbs_len.1 (Nat.le_refl (limbs y0).length)))
      rw [ab_pos hy0] at h1
      omega
    have hlen := hwx.row.len
    rw [ab_pos hy0] at hlen
    have HL := Lib.hid hlen
    clear hbl hrow hlen HR3 H_R_3 k_R_3_0 k_R_3_1 f_R_3
    by_cases h1 : 2 < n2
    · have h1c : (2 : Int) < n2 := by omega
      have hbig : 100000000 ≤ y := by
        rcases Int.lt_or_le y 100000000 with h | h
        · have h3 := (limbs_len (n := y) (k := 2)).2 (by omega)
          have h4 := HL.out
          omega
        · exact h
      have HS := Lib.hid (bl_shift 26 y (by omega))
      have T2 : ∀ W, W = wr → Calls Tryz.prog 128 #[.agg #[.bool false, .slice a2 n2 c2], .int .i64 67108864] W (NewQ W y 67108864) := fun W hW => by subst hW; exact divWhole_pos a2 n2 c2 y 67108864 W hwx (by omega) (by omega) (by omega)
      go_wp2_with (first | (have _t := tok4; go_at_call 128; (with_reducible refine ((T2 _ rfl)).mono ?_); rintro e w4 ⟨b2, a3, n3, c3, rfl, hv2, hf2, hb4⟩; clear tok4 _t; have hz4 := hb4.size; (try simp only [World.size_alloc, World.size_setCell, World.size_drew, World.size_drewN'] at hz4); (try (have kq := cellAt hb4 (w.heap.size) (by go_size); have k4_w_0_0 := kq 0; have k4_w_0_1 := kq 1; clear kq; have f4_w_0 := frozAt hb4 (w.heap.size) (by go_size); simp [go_sem, *] at k4_w_0_0 k4_w_0_1 f4_w_0)); (try have l4_w_0 : w.heap.size < w4.heap.size := by omega); (try clear k1_w_0_0 k1_w_0_1 f1_w_0); (try clear l1_w_0); (try clear k2_w_0_0 k2_w_0_1 f2_w_0); (try clear l2_w_0); (try clear k3_w_0_0 k3_w_0_1 f3_w_0); (try clear l3_w_0); obtain rfl : b2 = false := (by rw [hv2.neg]; simp [ngB]; omega)))
      go_roundw
      case rel =>
        have e12 : (2 : Int) ^ 26 = 67108864 := by decide
        have h5 := HS.out
        rw [e12] at h5
        have h6 := HB.out
        have hr2 : w4.heap[w.heap.size]? = some (.cells #[.bool false, .slice a2 n2 c2] 82 (0, 0)) := (hb4.block w.heap.size lg).trans HR.out
        refine ⟨bits + 26, y / 67108864, a3, n3, c3, by go_num, by omega, by omega, by omega, by (repeat' first | (with_reducible first | assumption | (apply Ne.symm; assumption) | apply Nat.le_refl | apply Nat.le_add_right | apply zL | apply zRf | apply Wx.box | apply Wx.box4 | apply zWa | apply Wx.drew | apply zWn | apply bx_drew | apply bx_drewN | apply bx_set3 | apply bx_set2 | apply bx_set4 | apply bx_set1) | ((with_reducible apply bx_new); (focus (go_size; done))) | (with_reducible first | apply zOl | apply zFa | apply zDn | apply zDr | apply zAl | apply zSt | refine zVi (by assumption) ?_ ?_) | go_size | omega), by (repeat' first | (with_reducible first | assumption | (apply Ne.symm; assumption) | apply Nat.le_refl | apply Nat.le_add_right | apply zL | apply zRf | apply Wx.box | apply Wx.box4 | apply zWa | apply Wx.drew | apply zWn | apply bx_drew | apply bx_drewN | apply bx_set3 | apply bx_set2 | apply bx_set4 | apply bx_set1) | ((with_reducible apply bx_new); (focus (go_size; done))) | (with_reducible first | apply zOl | apply zFa | apply zDn | apply zDr | apply zAl | apply zSt | refine zVi (by assumption) ?_ ?_) | go_size | omega), by (repeat' first | (with_reducible first | assumption | (apply Ne.symm; assumption) | apply Nat.le_refl | apply Nat.le_add_right | apply zL | apply zRf | apply Wx.box | apply Wx.box4 | apply zWa | apply Wx.drew | apply zWn | apply bx_drew | apply bx_drewN | apply bx_set3 | apply bx_set2 | apply bx_set4 | apply bx_set1) | ((with_reducible apply bx_new); (focus (go_size; done))) | (with_reducible first | apply zOl | apply zFa | apply zDn | apply zDr | apply zAl | apply zSt | refine zVi (by assumption) ?_ ?_) | go_size | omega)⟩
      case measure =>
        have e12 : (2 : Int) ^ 26 = 67108864 := by decide
        have h5 := HS.out
        rw [e12] at h5
        have h6 := HB.out
        simp [intOf]; omega
    · have hy4 : y < 100000000 := by
        have h3 := (limbs_len (n := y) (k := 2)).1 (by have := HL.out; omega)
        have e : (10000 : Int) ^ 2 = 100000000 := by decide
        omega
      have hn2 : n2 ≤ 2 := by omega
      have hn2c : ¬ (2 : Int) < n2 := by omega
      have hwr := Lib.hid hwx.row
      have HLY := Lib.hid (limbs_val hy0)
      have hab := Lib.hid (ab_pos hy0)
      go_wp2_with fail
      go_loop [4, 5] (fun av iv => BdRel (limbs y) n2 av iv) (fun _ iv => (intOf iv + 1).toNat)
      case atStart => exact ⟨n2, Nat.le_refl _, rfl, by rw [List.drop_eq_nil_of_le (by have := HL.out; omega)]; rfl⟩
      case round =>
        obtain ⟨k, hk, rfl, rfl⟩ := hrel
        have hdd := (limbs_dig y).drop k
        have hv0 := val_nonneg hdd
        have hv9 := val_lt hdd
        have hv8 : val ((limbs y).drop k) < 100000000 := by
          refine Int.lt_of_lt_of_le hv9 ?_
          have hle : ((limbs y).drop k).length ≤ 2 := by rw [List.length_drop]; have := HL.out; omega
          have h3 : ((limbs y).drop k).length = 0 ∨ ((limbs y).drop k).length = 1 ∨ ((limbs y).drop k).length = 2 := by omega
          rcases h3 with h | h | h <;> rw [h] <;> decide
        by_cases h0 : 0 < k
        · have hk1 : k - 1 < (limbs y).length := by have := HL.out; omega
          have HD := Lib.hid (val_drop (limbs y) (k - 1) hk1)
          have hzk := (limbs_dig y).at hk1
          have hdd2 := (limbs_dig y).drop k
          obtain ⟨b7, off, rfl, hb7, hcs⟩ := hwr.out.at (by omega)
          rw [hab.out] at hcs
          have hcell := hcs (k - 1) (by omega)
          have hge : (limbs y)[k - 1]?.getD 0 = (limbs y)[k - 1] := by simp [hk1]
          rw [hge] at hcell
          rw [show k - 1 + 1 = k by omega] at HD
          clear hcs hge hdd hv9 hdd2
          have hv81 : k = 2 → val ((limbs y).drop k) = 0 := fun e => by
            rw [List.drop_eq_nil_of_le (by have := HL.out; omega)]; rfl
          have hv82 : val ((limbs y).drop k) ≤ 9999 := by
            by_cases e : k = 2
            · have := hv81 e; omega
            · have hle : ((limbs y).drop k).length ≤ 1 := by rw [List.length_drop]; have := HL.out; omega
              have hlt := val_lt ((limbs_dig y).drop k)
              have h3 : ((limbs y).drop k).length = 0 ∨ ((limbs y).drop k).length = 1 := by omega
              rcases h3 with h | h <;> rw [h] at hlt
              · have : (10000 : Int) ^ 0 = 1 := by decide
                omega
              · have : (10000 : Int) ^ 1 = 10000 := by decide
                omega
          clear hv81
          generalize hvv : val ((limbs y).drop k) = V at *
          generalize hxx : (limbs y)[k - 1] = X at *
          have HX := Lib.hid hxx
          have HVV := Lib.hid hvv
          clear hxx hvv
          go_wp2_with fail
          go_round
          case rel => exact ⟨k - 1, by omega, by congr 1; omega, by rw [HD.out]; congr 1; omega⟩
          case measure => simp [intOf]; omega
        · obtain rfl : k = 0 := by omega
          have HE := Lib.hid (show val ((limbs y).drop 0) = y by rw [List.drop_zero]; exact HLY.out)
          clear hdd hv9 hv8 hv0
          generalize hvv : val ((limbs y).drop 0) = V at *
          have HVV := Lib.hid hvv
          clear hvv
          obtain rfl : V = y := HE.out
          have TL : ∀ W, Calls Tryz.prog 113 #[.int .u64 V] W fun e w' => e = .returned (.int .i64 (bl V)) ∧ W = w' := fun W => by
            have := len_any V W hy0 (by omega)
            rw [bl_lib (by omega)] at this
            exact this
          have hbl2 : (bl V : Int) ≤ 140000 := by have := HB.out; omega
          by_cases hy00 : V = 0
          · have HZ := Lib.hid (bl_zero (n := V) (by omega))
            subst hy00
            go_wp2_with fail
            go_ret
            refine ⟨ret_int (by have := HB.out; have := HZ.out; omega), ?_⟩
            repeat' first | (with_reducible first | apply zRf | assumption | apply zDn | apply zDr | apply zAl | apply zSt | refine zVi (by assumption) ?_ ?_) | go_size
          · have hyc : (V == 0) = false := by simpa using hy00
            go_wp2_with (first | (go_at_call 113; (with_reducible refine ((TL _)).mono ?_); rintro e w' ⟨rfl, rfl⟩))
            go_ret
            refine ⟨ret_int (by have := HB.out; omega), ?_⟩
            repeat' first | (with_reducible first | apply zRf | assumption | apply zDn | apply zDr | apply zAl | apply zSt | refine zVi (by assumption) ?_ ?_) | go_size
end
section
open Go.RowKit
set_option linter.unusedVariables false
set_option linter.unusedSimpArgs false
/-- the row of limbs lies in another block than the row v -/
def farR (a : Option Addr) (n : Nat) (v : Value) : Prop := 0 < n → ∀ A, a = some A → v.ownBlock ≠ some A.block
def RtE (W : World) (xs : List Value) (v : Value) (i : Nat) (p : Int × Int) : Prop := ∃ b a n c b2 a2 n2 c2, xs[i * 4]? = some (.bool b) ∧ xs[i * 4 + 1]? = some (.slice a n c) ∧ xs[i * 4 + 2]? = some (.bool b2) ∧ xs[i * 4 + 3]? = some (.slice a2 n2 c2) ∧ Wx W b a n c p.1 ∧ Wx W b2 a2 n2 c2 p.2 ∧ farR a n v ∧ farR a2 n2 v
def RtsE (W : World) (xs : List Value) (v : Value) (zs : List (Int × Int)) : Prop := ∀ i, i < zs.length → RtE W xs v i (zs.getD i (0, 0))
def RowRt (W : World) (B : Nat) (T : TypeId) (v : Value) (zs : List (Int × Int)) : Prop := ∃ xs, W.ownsRow B T 4 v zs.length xs ∧ RtsE W xs v zs
theorem Wx.grown {W W' : World} {row : Option Nat} {b : Bool} {a : Option Addr} {n c : Nat} {z : Int} (h : Wx W b a n c z) (hg : W.grownBy W' row) (hf : 0 < n → ∀ A, a = some A → row ≠ some A.block) : Wx W' b a n c z :=
  ⟨h.neg, ⟨h.row.len, h.row.cap, h.row.max, h.row.nil, fun h0 => by
    obtain ⟨k, off, h1, h2, h3⟩ := h.row.row h0
    exact ⟨k, off, h1, Nat.lt_of_lt_of_le h2 hg.size, fun j hj => (World.cell?_of_block (a := ⟨k, off + j, none⟩) (hg.block k h2 (fun e => hf (by have := h.row.len; omega) _ h1 e.symm))).trans (h3 j hj)⟩⟩⟩
theorem Wx.lt {W : World} {b : Bool} {a : Option Addr} {n c : Nat} {z : Int} (h : Wx W b a n c z) (h0 : 0 < n) : ∀ A, a = some A → A.block < W.heap.size := fun A e => by
  obtain ⟨k, off, h1, h2, h3⟩ := h.row.row (by have := h.row.len; omega)
  rw [h1] at e
  obtain rfl := Option.some.inj e
  exact h2
theorem ownsRow_below' {W W2 : World} {B n : Nat} {T : TypeId} {s : Nat} {v : Value} {xs : List Value} (h : W.ownsRow B T s v n xs) (hb : Below W.heap.size W W2) : W2.ownsRow B T s v n xs :=
  ⟨h.1, h.2.imp id fun ⟨g, cap, cur, hv, hB, hg, rest⟩ => ⟨g, cap, cur, hv, hB, (hb.block g (blk_lt' hg)).trans hg, rest⟩⟩
theorem RtE.below {W W2 : World} {xs : List Value} {v : Value} {i : Nat} {p : Int × Int} (h : RtE W xs v i p) (hb : Below W.heap.size W W2) : RtE W2 xs v i p := by
  obtain ⟨b, a, n, c, b2, a2, n2, c2, h1, h2, h3, h4, h5, h6, h7, h8⟩ := h
  exact ⟨b, a, n, c, b2, a2, n2, c2, h1, h2, h3, h4, h5.below hb, h6.below hb, h7, h8⟩
theorem RtsE.below {W W2 : World} {xs : List Value} {v : Value} {zs : List (Int × Int)} (h : RtsE W xs v zs) (hb : Below W.heap.size W W2) : RtsE W2 xs v zs := fun i hi => (h i hi).below hb
theorem RowRt.below {W W2 : World} {B : Nat} {T : TypeId} {v : Value} {zs : List (Int × Int)} (h : RowRt W B T v zs) (hb : Below W.heap.size W W2) : RowRt W2 B T v zs := by
  obtain ⟨xs, ho, he⟩ := h
  exact ⟨xs, ownsRow_below' ho hb, he.below hb⟩
theorem RowRt.nil (W : World) (B : Nat) (T : TypeId) : RowRt W B T (.slice none 0 0) [] := ⟨[], World.ownsRow_nil _ _ _ _, fun i hi => absurd hi (by simp)⟩
theorem getD_snoc {zs : List (Int × Int)} {p : Int × Int} {i : Nat} : (zs ++ [p]).getD i (0, 0) = if i < zs.length then zs.getD i (0, 0) else if i = zs.length then p else (0, 0) := by
  simp only [List.getD_eq_getElem?_getD]
  by_cases h : i < zs.length
  · rw [if_pos h, List.getElem?_append_left h]
  · rw [if_neg h, List.getElem?_append_right (by omega)]
    by_cases h2 : i = zs.length
    · subst h2; simp
    · rw [if_neg h2]
      obtain ⟨k, hk⟩ : ∃ k, i - zs.length = k + 1 := ⟨i - zs.length - 1, by omega⟩
      rw [hk]; simp
/-- one more ratio -/
theorem RtsE.push {W W' : World} {X : Obj} {xs : List Value} {v v' : Value} {zs : List (Int × Int)} {b b2 : Bool} {a a2 : Option Addr} {n c n2 c2 : Nat} {x z : Int} (h : RtsE W xs v zs) (hl : xs.length = zs.length * 4)
    (hx : Wx W b a n c x) (hz : Wx W b2 a2 n2 c2 z) (fx : farR a n v) (fz : farR a2 n2 v) (hg : (W.alloc X).grownBy W' v.ownBlock) (hat : v'.ownBlock = v.ownBlock ∨ v'.ownBlock = some (W.alloc X).heap.size) :
    RtsE W' (xs ++ [.bool b, .slice a n c, .bool b2, .slice a2 n2 c2]) v' (zs ++ [(x, z)]) := by
  have nw : ∀ {b0 : Bool} {a0 : Option Addr} {n0 c0 : Nat} {y : Int}, Wx W b0 a0 n0 c0 y → farR a0 n0 v → Wx W' b0 a0 n0 c0 y ∧ farR a0 n0 v' := fun {b0 a0 n0 c0 y} h1 h2 => by
    refine ⟨(h1.alloc X).grown hg h2, fun h0 A e => ?_⟩
    rcases hat with h3 | h3
    · rw [h3]; exact h2 h0 A e
    · rw [h3]
      have := h1.lt h0 A e
      intro e2
      have := Option.some.inj e2
      simp only [World.size_alloc] at this
      omega
  intro i hi
  simp only [List.length_append, List.length_singleton] at hi
  rw [getD_snoc]
  by_cases h1 : i < zs.length
  · rw [if_pos h1]
    obtain ⟨b0, a0, n0, c0, b3, a3, n3, c3, g1, g2, g3, g4, g5, g6, g7, g8⟩ := h i h1
    have e : ∀ k u, xs[k]? = some u → (xs ++ [.bool b, .slice a n c, .bool b2, .slice a2 n2 c2])[k]? = some u := fun k u hk => by
      have hk' : k < xs.length := by
        rcases Nat.lt_or_ge k xs.length with h' | h'
        · exact h'
        · rw [List.getElem?_eq_none h'] at hk; cases hk
      rw [List.getElem?_append_left hk']; exact hk
    exact ⟨b0, a0, n0, c0, b3, a3, n3, c3, e _ _ g1, e _ _ g2, e _ _ g3, e _ _ g4, (nw g5 g7).1, (nw g6 g8).1, (nw g5 g7).2, (nw g6 g8).2⟩
  · obtain rfl : i = zs.length := by omega
    rw [if_neg h1, if_pos rfl]
    refine ⟨b, a, n, c, b2, a2, n2, c2, ?_, ?_, ?_, ?_, (nw hx fx).1, (nw hz fz).1, (nw hx fx).2, (nw hz fz).2⟩
    · rw [List.getElem?_append_right (by omega), show zs.length * 4 - xs.length = 0 by omega]; rfl
    · rw [List.getElem?_append_right (by omega), show zs.length * 4 + 1 - xs.length = 1 by omega]; rfl
    · rw [List.getElem?_append_right (by omega), show zs.length * 4 + 2 - xs.length = 2 by omega]; rfl
    · rw [List.getElem?_append_right (by omega), show zs.length * 4 + 3 - xs.length = 3 by omega]; rfl
/-- a ratio of the row, read -/
theorem RowRt.at {W : World} {B : Nat} {T : TypeId} {v : Value} {zs : List (Int × Int)} (h : RowRt W B T v zs) {i : Nat} (hi : i < zs.length) :
    ∃ g cap b a n c b2 a2 n2 c2, v = .slice (some ⟨g, 0, none⟩) zs.length cap ∧ zs.length ≤ cap ∧ cap ≤ maxLen ∧ B ≤ g ∧ g < W.heap.size ∧ W.cell? ⟨g, i * 4, none⟩ = some (.bool b) ∧ W.cell? ⟨g, i * 4 + 1, none⟩ = some (.slice a n c) ∧ W.cell? ⟨g, i * 4 + 2, none⟩ = some (.bool b2) ∧ W.cell? ⟨g, i * 4 + 3, none⟩ = some (.slice a2 n2 c2) ∧
      Wx W b a n c (zs.getD i (0, 0)).1 ∧ Wx W b2 a2 n2 c2 (zs.getD i (0, 0)).2 := by
  obtain ⟨xs, ⟨hl, ho⟩, he⟩ := h
  rcases ho with ⟨_, h0⟩ | ⟨g, cap, cur, hv, hB, hg, hnc, hcm, hcs, ht⟩
  · omega
  · obtain ⟨b, a, n, c, b2, a2, n2, c2, g1, g2, g3, g4, g5, g6, _, _⟩ := he i hi
    have e : ∀ k u, xs[k]? = some u → W.cell? ⟨g, k, none⟩ = some u := fun k u hk => by
      rw [← ht, List.getElem?_take] at hk
      split at hk
      · rw [cell_of_row W g k cur T (0, 0) hg]; simpa using hk
      · cases hk
    exact ⟨g, cap, b, a, n, c, b2, a2, n2, c2, hv, hnc, hcm, hB, blk_lt' hg, e _ _ g1, e _ _ g2, e _ _ g3, e _ _ g4, g5, g6⟩
theorem RowRt.shape {W : World} {B : Nat} {T : TypeId} {v : Value} {zs : List (Int × Int)} (h : RowRt W B T v zs) : ∃ a c, v = .slice a zs.length c ∧ zs.length ≤ c ∧ c ≤ maxLen := by
  obtain ⟨xs, ⟨hl, ho⟩, he⟩ := h
  rcases ho with ⟨h1, h0⟩ | ⟨g, cap, cur, hv, hB, hg, hnc, hcm, hcs, ht⟩
  · exact ⟨none, 0, by rw [h1, h0], by omega, by unfold maxLen; omega⟩
  · exact ⟨_, _, hv, hnc, hcm⟩
/-! ### a point that is doubled -/
def ptSt (A B x e : Int) (k : Nat) : RSt := if e = 0 then .inf else run (4 * absI (coV A B)) A B x (e * e) k
def infB : RSt → Bool
  | .inf => true
  | _ => false
def atB : RSt → Bool
  | .at _ _ => true
  | _ => false
def Along (st : Nat → RSt) (zs : List (Int × Int)) : Prop := ∀ i, i < zs.length → st i = .at (zs.getD i (0, 0)).1 (zs.getD i (0, 0)).2
theorem Along.push {st : Nat → RSt} {zs : List (Int × Int)} {x z : Int} (h : Along st zs) (hn : st zs.length = .at x z) : Along st (zs ++ [(x, z)]) := fun i hi => by
  simp only [List.length_append, List.length_singleton] at hi
  rw [getD_snoc]
  by_cases h1 : i < zs.length
  · rw [if_pos h1]; exact h i h1
  · obtain rfl : i = zs.length := by omega
    rw [if_neg h1, if_pos rfl]; exact hn
theorem dbl_run {n A B x z : Int} {st : Nat → RSt} {k : Nat} (hs : st (k + 1) = stp n A B (st k)) (hk : st k = .at x z) :
    (botZ A B x z = 0 ∧ st (k + 1) = .inf ∧ dbl n A B x z = (0, 0, false)) ∨ (botZ A B x z ≠ 0 ∧ (st (k + 1) = .bad ∧ dbl n A B x z = (0, 0, false) ∨ ∃ p q, st (k + 1) = .at p q ∧ raB p q = true ∧ dbl n A B x z = (p, q, true))) := by
  rw [hs, hk]
  simp only [stp, dbl]
  by_cases h0 : botZ A B x z = 0
  · left; simp [h0]
  · right
    refine ⟨h0, ?_⟩
    by_cases h1 : raB (dbN n (topZ A B x z) (botZ A B x z)) (dbD n (topZ A B x z) (botZ A B x z)) = true
    · right; exact ⟨_, _, by simp [h0, h1], h1, by simp [h0, h1]⟩
    · left; simp [h0, h1]
theorem ptSt_zero {A B x e : Int} (he : e ≠ 0) : ptSt A B x e 0 = .at x (e * e) := by simp [ptSt, he, run]
theorem ptSt_succ {A B x e : Int} (he : e ≠ 0) (k : Nat) : ptSt A B x e (k + 1) = stp (4 * absI (coV A B)) A B (ptSt A B x e k) := by simp [ptSt, he, run]
theorem ptSt_ok {A B x e : Int} (hx : -10000 ≤ x ∧ x ≤ 10000) (he : 0 ≤ e ∧ e ≤ 20) (k : Nat) : okS (ptSt A B x e k) = true := by
  by_cases h : e = 0
  · simp [ptSt, h, okS]
  · have h1 := mul_bd (a := e) (b := e) (A := 20) (B := 20) (by omega) (by omega)
    have h2 : 0 < e * e := Int.mul_pos (by omega) (by omega)
    have l1 := ln_small (a := x) (by omega) (by omega)
    have l2 := ln_small (a := e * e) (by omega) (by omega)
    have := run_ok (n := 4 * absI (coV A B)) (A := A) (B := B) (x := x) (z := e * e) (by simp only [raB, Bool.and_eq_true, decide_eq_true_eq]; omega) k
    simpa [ptSt, h] using this
theorem ptSt_inf {A B x e : Int} {j : Nat} (h : ptSt A B x e j = .inf) (k : Nat) (hk : j ≤ k) : ptSt A B x e k = .inf := by
  unfold ptSt at *
  split at h
  · next h0 => simp [h0]
  · next h0 => rw [if_neg h0]; exact run_inf h k hk
theorem ptSt_bad {A B x e : Int} {j : Nat} (h : ptSt A B x e j = .bad) (k : Nat) (hk : j ≤ k) : ptSt A B x e k = .bad := by
  unfold ptSt at *
  split at h
  · cases h
  · next h0 => rw [if_neg h0]; exact run_bad h k hk
theorem cells_new (W : World) (cs : List Value) (T : TypeId) : ∀ j u, cs[j]? = some u → (W.alloc (.cells cs.toArray T)).cell? ((⟨W.heap.size, 0, none⟩ : Addr).add j) = some u := fun j u hj => by
  have e : ((⟨W.heap.size, 0, none⟩ : Addr).add j) = ⟨W.heap.size, j, none⟩ := by
    by_cases h0 : j = 0
    · subst h0; rfl
    · simp [Addr.add, h0]
  rw [e, cell_of_row _ W.heap.size j cs.toArray T (0, 0) (heap_alloc_new W _)]
  simpa using hj
/-- a row of one ratio, laid new -/
theorem RowRt.one {W : World} {B : Nat} {T : TypeId} {b b2 : Bool} {a a2 : Option Addr} {n c n2 c2 : Nat} {x z : Int} (hx : Wx W b a n c x) (hz : Wx W b2 a2 n2 c2 z) (hB : B ≤ W.heap.size) :
    RowRt (W.alloc (.cells #[.bool b, .slice a n c, .bool b2, .slice a2 n2 c2] T)) B T (.slice (some ⟨W.heap.size, 0, none⟩) 1 1) [(x, z)] := by
  refine ⟨[.bool b, .slice a n c, .bool b2, .slice a2 n2 c2], ⟨rfl, .inr ⟨W.heap.size, 1, _, rfl, hB, heap_alloc_new W _, Nat.le_refl _, by unfold maxLen; omega, rfl, rfl⟩⟩, fun i hi => ?_⟩
  obtain rfl : i = 0 := by simpa using hi
  exact ⟨b, a, n, c, b2, a2, n2, c2, rfl, rfl, rfl, rfl, hx.alloc _, hz.alloc _, fun h0 A e => by have := hx.lt h0 A e; simp [Value.ownBlock]; omega, fun h0 A e => by have := hz.lt h0 A e; simp [Value.ownBlock]; omega⟩
end
end Go.Proofs.YtgjppinjapdbeaaGreat
