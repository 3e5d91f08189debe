/- How many bits a whole number has: the reference. -/
import Derived.Test.YtfbegjiebahdcaaBg4
namespace Go.Proofs.Ytfbegjiebahdcaa
open Go.RowKit
set_option linter.unusedVariables false
set_option maxHeartbeats 1000000
set_option maxRecDepth 20000
set_option linter.unusedSimpArgs false
theorem bgLimb_any (a : Option Addr) (n c : Nat) (zs : List Int) (i : Int) (w : World) (hs : Sx w a n c zs) (h0 : 0 ≤ i) (hl : n ≤ 1000000) :
    Calls Try.prog 124 #[.slice a n c, .int .i64 i] w fun e w' => e = .returned (.int .i64 (zs.getD i.toNat 0)) ∧ w = w' := by
  obtain ⟨j, rfl⟩ : ∃ j : Nat, i = j := ⟨i.toNat, by omega⟩
  have hln := hs.len
  by_cases h : j < n
  · obtain ⟨b, off, rfl, hb, hcs⟩ := hs.at (by omega)
    have hc := hcs j h
    have HZ := Lib.hid (List.getD_eq_getElem?_getD (l := zs) (i := j) (a := 0))
    clear hcs hln hs
    go_enter Try.func124, Try.ntmps124
    go_wp2
    go_ret
    exact ⟨ret_int (by rw [Int.toNat_natCast, HZ.out]), rfl⟩
  · have HZ := Lib.hid (show zs.getD j 0 = 0 from gD_ge (by omega))
    clear hln
    go_enter Try.func124, Try.ntmps124
    go_wp2
    go_ret
    exact ⟨ret_int (by rw [Int.toNat_natCast, HZ.out]), rfl⟩
def BtRel (w : World) (g : Nat) (z : Int) (bv : Value) (wr : World) : Prop := ∃ (bits : Nat) (y : Int) (a : Option Addr) (n c : Nat), bv = .int .i64 bits ∧ 0 ≤ y ∧ y ≤ z ∧ bits + bl y = bl z ∧
  wr.heap[g]? = some (.cells #[.bool false, .slice a n c] 41 (0, 0)) ∧ Wx wr false a n c y ∧ Below w.heap.size w wr
def B2Rel (z : Int) (bv nv : Value) : Prop := ∃ (bits : Nat) (y : Int), bv = .int .i64 bits ∧ nv = .int .i64 y ∧ 0 ≤ y ∧ y ≤ 9223372036854775807 ∧ bits + bl y = bl z
def heapNum (g : Nat) (w : World) : Nat := match w.cell? ⟨g, 1, none⟩ with | some (.slice _ n _) => n | _ => 0
theorem bgBits_any (b : Bool) (a : Option Addr) (n c : Nat) (z : Int) (w : World) (hs : Wx w b a n c z) (hl : n ≤ 10000) :
    Calls Try.prog 93 #[.agg #[.bool b, .slice a n c]] w fun e w' => e = .returned (.int .i64 (bl (ab z))) ∧ Below w.heap.size w w' := by
  have T1 : ∀ W, Below w.heap.size w W → Calls Try.prog 123 #[.bool false, .slice a n c] W (NewW W (ab z)) := fun W hW => by
    have := bgMake_any false a n c (limbs (ab z)) W (hs.row.below hW) (by omega) (limbs_dig _)
    rw [limbs_val (ab_nonneg z), mkW_abs] at this
    exact this
  have hz := ab_nonneg z
  have hln : (limbs (ab z)).length = n := hs.row.len
  have hbb := bl_len (ab z)
  generalize ab z = y0 at *
  have tok1 : True := trivial
  have tok2 : True := trivial
  have tok3 : True := trivial
  go_enter Try.func93, Try.ntmps93
  go_wp2_with (first | (have _t := tok1; go_at_call 123; (with_reducible refine ((T1 _ (by repeat' first | (with_reducible exact Below.refl _ _) | (with_reducible assumption) | (with_reducible refine below_drewN ?_ _) | (with_reducible refine Below.drew ?_) | (with_reducible refine Below.alloc ?_ ?_ _) | (with_reducible refine Below.setCell ?_ ?_ _) | (with_reducible refine below_via (by assumption) ?_ ?_) | go_size))).mono ?_); rintro e w1 ⟨b1, a1, n1, c1, rfl, hv1, hf1, hb1⟩; clear tok1 _t; have hz1 := hb1.size; (try simp only [World.size_alloc, World.size_setCell, World.size_drew, World.size_drewN'] at hz1); (try (have k1_w_0_0 := cellAt hb1 (w.heap.size) (by go_size) 0; simp [go_sem, *] at k1_w_0_0)); (try (have k1_w_0_1 := cellAt hb1 (w.heap.size) (by go_size) 1; simp [go_sem, *] at k1_w_0_1)); (try (have f1_w_0 := frozAt hb1 (w.heap.size) (by go_size); simp [go_sem, *] at f1_w_0)); (try have l1_w_0 : w.heap.size < w1.heap.size := by omega)))
  obtain rfl : b1 = false := by rw [hv1.neg]; simp [ngB]; omega
  have hgl := hb1.size
  have hg0 : w.heap.size < w1.heap.size := by simp only [World.size_alloc] at hgl; omega
  generalize hgx : w1.heap.size = gx at *
  go_loopw [3] (fun bv wr => BtRel w gx y0 bv wr) (fun bv _ => bl y0 + 1 - (intOf bv).toNat)
  case atStart =>
    refine ⟨0, y0, a1, n1, c1, rfl, hz, Int.le_refl _, by omega, ?_, ⟨hv1.neg, hv1.row.alloc _⟩, ?_⟩
    · rw [← hgx]; exact heap_alloc_new _ _
    · repeat' first | (with_reducible exact Below.refl _ _) | (with_reducible assumption) | (with_reducible refine below_drewN ?_ _) | (with_reducible refine Below.drew ?_) | (with_reducible refine Below.alloc ?_ ?_ _) | (with_reducible refine Below.setCell ?_ ?_ _) | (with_reducible refine below_via (by assumption) ?_ ?_) | go_size
  case round =>
    obtain ⟨bits, y, a2, n2, c2, rfl, hy0, hy1, hbl, hrow, hwx, hbw⟩ := hrel
    have HB := Lib.hid hbl
    have hbits : bits ≤ 140000 := by omega
    have k0 : wr.cell? ⟨gx, 0, none⟩ = some (.bool false) := blk_cell hrow 0
    have k1 : wr.cell? ⟨gx, 1, none⟩ = some (.slice a2 n2 c2) := blk_cell hrow 1
    have f0 := fun o => blk_frozen hrow o
    have lg := blk_lt hrow
    have HR := Lib.hid hrow
    have hl2 : n2 ≤ 10000 := by
      have h1 := hwx.row.len
      have h2 := limbs_len.2 (Int.lt_of_le_of_lt hy1 (limbs_len.1 (Nat.le_refl (limbs y0).length)))
      rw [ab_pos hy0] at h1
      omega
    have hlen := hwx.row.len
    rw [ab_pos hy0] at hlen
    have HL := Lib.hid hlen
    clear hbl hrow hlen hs hv1 hf1 hb1 T1
    by_cases h1 : 1 < n2
    · have hbig : 10000 ≤ y := by
        rcases Int.lt_or_le y 10000 with h | h
        · have h3 := (limbs_len (n := y) (k := 1)).2 (by omega)
          have h4 := HL.out
          omega
        · exact h
      have HS := Lib.hid (bl_shift 12 y (by omega))
      have T2 : ∀ W, W = wr → Calls Try.prog 107 #[.agg #[.bool false, .slice a2 n2 c2], .int .i64 4096] W (NewQ W y 4096) := fun W hW => by subst hW; exact bgOver_pos a2 n2 c2 y 4096 W hwx (by omega) (by omega) (by omega)
      go_wp2_with (first | (have _t := tok2; go_at_call 107; (with_reducible refine ((T2 _ rfl)).mono ?_); rintro e w2 ⟨b2, a3, n3, c3, rfl, hv2, hf2, hb2⟩; clear tok2 _t; have hz2 := hb2.size; (try simp only [World.size_alloc, World.size_setCell, World.size_drew, World.size_drewN'] at hz2); (try (have k2_w_0_0 := cellAt hb2 (w.heap.size) (by go_size) 0; simp [go_sem, *] at k2_w_0_0)); (try (have k2_w_0_1 := cellAt hb2 (w.heap.size) (by go_size) 1; simp [go_sem, *] at k2_w_0_1)); (try (have f2_w_0 := frozAt hb2 (w.heap.size) (by go_size); simp [go_sem, *] at f2_w_0)); (try have l2_w_0 : w.heap.size < w2.heap.size := by omega); (try (have k2_gx_0 := cellAt hb2 (gx) (by go_size) 0; simp [go_sem, *] at k2_gx_0)); (try (have k2_gx_1 := cellAt hb2 (gx) (by go_size) 1; simp [go_sem, *] at k2_gx_1)); (try (have f2_gx := frozAt hb2 (gx) (by go_size); simp [go_sem, *] at f2_gx)); (try have l2_gx : gx < w2.heap.size := by omega); (try clear k1_w_0_0); (try clear k1_w_0_1); (try clear f1_w_0); (try clear l1_w_0); (try clear k1_gx_0); (try clear k1_gx_1); (try clear f1_gx); (try clear l1_gx); obtain rfl : b2 = false := (by rw [hv2.neg]; simp [ngB]; omega)))
      go_roundw
      case rel =>
        have e12 : (2 : Int) ^ 12 = 4096 := by decide
        have h5 := HS.out
        rw [e12] at h5
        have h6 := HB.out
        have hr2 : w2.heap[gx]? = some (.cells #[.bool false, .slice a2 n2 c2] 41 (0, 0)) := (hb2.block gx lg).trans HR.out
        refine ⟨bits + 12, y / 4096, a3, n3, c3, by go_num, by omega, by omega, by omega, ?_, ⟨hv2.neg, ?_⟩, ?_⟩
        · simpa using blk_set (o := 1) (v := .slice a3 n3 c3) (blk_set (o := 0) (v := .bool false) hr2)
        · have hr1 := hv2.row
          (repeat' first | exact hr1 | refine Sx.set ?_ ?_ _ _ | refine Sx.alloc ?_ _ | refine Sx.drew ?_ | (intro A e; have := hf2 A e; (try simp only [World.size_alloc, World.size_setCell, World.size_drew, World.size_drewN'] at this); omega))
        · repeat' first | (with_reducible exact Below.refl _ _) | (with_reducible assumption) | (with_reducible refine below_drewN ?_ _) | (with_reducible refine Below.drew ?_) | (with_reducible refine Below.alloc ?_ ?_ _) | (with_reducible refine Below.setCell ?_ ?_ _) | (with_reducible refine below_via (by assumption) ?_ ?_) | go_size
      case measure =>
        have e12 : (2 : Int) ^ 12 = 4096 := by decide
        have h5 := HS.out
        rw [e12] at h5
        have h6 := HB.out
        simp [intOf]; omega
    · have hy4 : y < 10000 := by
        have h3 := (limbs_len (n := y) (k := 1)).1 (by have := HL.out; omega)
        omega
      have T3 : ∀ W, W = wr → Calls Try.prog 124 #[.slice a2 n2 c2, .int .i64 0] W fun e w' => e = .returned (.int .i64 y) ∧ W = w' := fun W hW => by
        subst hW
        have := bgLimb_any a2 n2 c2 (limbs (ab y)) 0 W hwx.row (by omega) (by omega)
        rw [ab_pos hy0, show (0 : Int).toNat = 0 from rfl, limb0 hy0 (by have := HL.out; omega)] at this
        exact this
      go_wp2_with (first | (go_at_call 124; (with_reducible refine ((T3 _ rfl)).mono ?_); rintro e w' ⟨rfl, rfl⟩))
      go_loop [3, 5] (fun bv nv => B2Rel y0 bv nv) (fun _ nv => (intOf nv).toNat)
      case atStart => exact ⟨bits, y, rfl, rfl, hy0, by omega, HB.out⟩
      case round =>
        obtain ⟨bt, x, rfl, rfl, hx0, hx1, hbt⟩ := hrel
        have HX := Lib.hid hbt
        have hbts : bt ≤ 140000 := by omega
        clear hbt
        by_cases hx : 0 < x
        · have HS := Lib.hid (bl_half hx)
          go_wp2_with fail
          go_round
          case rel => exact ⟨bt + 1, x / 2, by go_num, rfl, by omega, by omega, by have := HX.out; have := HS.out; omega⟩
          case measure => simp [intOf]; omega
        · have HS := Lib.hid (bl_zero (n := x) (by omega))
          go_wp2_with fail
          go_ret
          refine ⟨ret_int (by have := HX.out; have := HS.out; omega), ?_⟩
          repeat' first | (with_reducible exact Below.refl _ _) | (with_reducible assumption) | (with_reducible refine below_drewN ?_ _) | (with_reducible refine Below.drew ?_) | (with_reducible refine Below.alloc ?_ ?_ _) | (with_reducible refine Below.setCell ?_ ?_ _) | (with_reducible refine below_via (by assumption) ?_ ?_) | go_size
end Go.Proofs.Ytfbegjiebahdcaa
