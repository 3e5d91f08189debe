/- The bad primes of a quartic: the program. -/
import Derived.Test.YtegiddpakocodaaGreatPr2
import Derived.Test.YtegiddpakocodaaGreatBy
import Derived.Test.YtegiddpakocodaaGreatLoA
import Derived.Laws.AppendOwnNone
namespace Go.Proofs.YtegiddpakocodaaGreat
open Go.RowKit
set_option linter.unusedVariables false
set_option maxHeartbeats 4000000
set_option maxRecDepth 20000
set_option linter.unusedSimpArgs false
theorem bdL_mem (D A C x : Int) : x ∈ bdL D A C ↔ x ∈ [2] ++ (prL D.natAbs ++ prL C.natAbs ++ prL (dsc D A C).natAbs) := by
  unfold bdL; simp only [putA_mem, List.mem_append]
/-- what has come when i of the three numbers are done -/
def bpL (D C d : Int) (i : Nat) : List Int := [2] ++ ((if 0 < i then prL D.natAbs else []) ++ (if 1 < i then prL C.natAbs else []) ++ (if 2 < i then prL d.natAbs else []))
def bpN (D C d : Int) (i : Nat) : Int := if i = 0 then D else if i = 1 then C else d
theorem bpL_step (D C d : Int) {i : Nat} (h : i < 3) : bpL D C d (i + 1) = bpL D C d i ++ prL (bpN D C d i).natAbs := by
  rcases (show i = 0 ∨ i = 1 ∨ i = 2 by omega) with rfl | rfl | rfl <;> simp [bpL, bpN]
theorem bpL_len (D C d : Int) (i : Nat) (h1 : D.natAbs ≤ 100000000000) (h2 : C.natAbs ≤ 100000000000) (h3 : d.natAbs ≤ 100000000000) : (bpL D C d i).length ≤ 300000000001 := by
  have g1 := prL_len (n := D.natAbs) (by omega)
  have g2 := prL_len (n := C.natAbs) (by omega)
  have g3 := prL_len (n := d.natAbs) (by omega)
  unfold bpL
  simp only [List.length_append, List.length_cons, List.length_nil]
  split <;> split <;> split <;> simp <;> omega
/-- a contract's value: a slice that holds the numbers zs -/
def NewX (w : World) (zs : List Int) (ok : Bool) (e : Ending) (w' : World) : Prop := ∃ a n c, e = .returned (.tuple #[.slice a n c, .bool ok]) ∧ Sx w' a n c zs ∧ Below w.heap.size w w'
theorem row_lit (W : World) (B g : Nat) (x : Int) (hg : W.heap.size = g) (hB : B ≤ g) : OwnI (W.alloc (.cells #[.int .i64 x] 3 (0, 0))) B 3 (.slice (some ⟨g, 0, none⟩) 1 1) [x] :=
  ⟨rfl, .inr ⟨g, 1, #[.int .i64 x], rfl, hB, by subst hg; exact heap_alloc_new _ _, by simp, by unfold maxLen; omega, by simp, by simp [ints]⟩⟩
theorem sx_some {W : World} {a : Option Addr} {n c : Nat} {zs : List Int} (h : Sx W a n c zs) (h0 : zs ≠ []) : ∃ A, a = some A := by
  cases a with
  | none =>
    have h1 := h.nil rfl
    have := h.cap
    have := h.len
    exact (h0 (List.length_eq_zero_iff.1 (by omega))).elim
  | some A => exact ⟨A, rfl⟩
def BpRel (w : World) (g : Nat) (D C d : Int) (ov iv : Value) (wr : World) : Prop := ∃ (i : Nat) (v : Value), iv = .int .i64 i ∧ v = ov ∧ i ≤ 3 ∧ some g ≠ v.ownBlock ∧ OwnI wr w.heap.size 3 v (bpL D C d i) ∧ wr.heap[g]? = some (.cells #[.int .i64 D, .int .i64 C, .int .i64 d] 3 (0, 0)) ∧ Below w.heap.size w wr
theorem badPrimes_any (D A C : Int) (w : World) (hq : qaB D A C = true) : Calls Tryz.prog 26 #[.agg #[.int .i64 D, .int .i64 A, .int .i64 C]] w
    (NewX w (if dsc D A C = 0 then [] else bdL D A C) (decide (dsc D A C ≠ 0))) := by
  obtain ⟨i0, hi, iz0, iz1, iz2⟩ := info_parts infoI
  have hb : (-100000 ≤ D ∧ D ≤ 100000) ∧ (-100000 ≤ A ∧ A ≤ 100000) ∧ (-100000 ≤ C ∧ C ≤ 100000) ∧ D ≠ 0 ∧ C ≠ 0 := by
    simp [qaB, inB] at hq
    omega
  have m1 := mul_bd (a := A) (b := A) (A := 100000) (B := 100000) (by omega) (by omega)
  have m2 := mul_bd (a := 4 * D) (b := C) (A := 400000) (B := 100000) (by omega) (by omega)
  have hdd : dsc D A C = A * A - 4 * D * C := rfl
  have HML := Lib.hid (fun x => bdL_mem D A C x)
  have HSR := Lib.hid (bdL_sorted D A C)
  obtain ⟨d, hd⟩ : ∃ d, dsc D A C = d := ⟨_, rfl⟩
  rw [hd] at hdd HML ⊢
  have hdb : -100000000000 ≤ d ∧ d ≤ 100000000000 := by omega
  clear hd hq
  by_cases h0 : d = 0
  · subst h0
    rw [if_pos rfl, show decide ((0 : Int) ≠ 0) = false from rfl]
    have hd0 : (A * A - 4 * D * C == 0) = true := by rw [← hdd]; rfl
    go_enter Tryz.func26, Tryz.ntmps26
    go_wp2_with fail
    go_ret2
    refine ⟨none, 0, 0, rfl, Sx.none _, ?_⟩
    repeat' first | (with_reducible first | apply zRf | assumption | apply zDn | apply zDr | apply zAl | apply zSt | refine zVi (by assumption) ?_ ?_) | go_size
  · rw [if_neg h0, show decide (d ≠ 0) = true by simpa using h0]
    have hd0 : (A * A - 4 * D * C == 0) = false := by rw [← hdd]; simpa using h0
    have tok1 : True := trivial
    have tok2 : True := trivial
    have tok3 : True := trivial
    have tok4 : True := trivial
    have tok5 : True := trivial
    have tok6 : True := trivial
    have tok7 : True := trivial
    go_enter Tryz.func26, Tryz.ntmps26
    go_wp2_with fail
    rw [← hdd]
    clear hdd hd0 m1 m2
    go_loopw [5, 30] (fun ov iv wr => BpRel w (w.heap.size + 1 + 1) D C d ov iv wr) (fun _ iv _ => (3 - intOf iv).toNat)
    case atStart => exact ⟨0, _, rfl, rfl, by omega, by simp [Value.ownBlock], (row_lit (w.alloc _) w.heap.size (w.heap.size + 1) 2 (by simp) (by omega)).below ((Below.refl _ _).alloc (Nat.le_refl _) _), bx_new (by simp), by repeat' first | (with_reducible first | apply zRf | assumption | apply zDn | apply zDr | apply zAl | apply zSt | refine zVi (by assumption) ?_ ?_) | go_size⟩
    case round =>
      obtain ⟨i, v, rfl, rfl, hi3, hfar, ho, hg, hbw⟩ := hrel
      have HO := Lib.hid ho
      have hsw := hbw.size
      clear ho
      by_cases hlt : i < 3
      · have hltc : (i : Int) < 3 := by omega
        have hst := bpL_step D C d hlt
        obtain ⟨x, hxe⟩ : ∃ x, bpN D C d i = x := ⟨_, rfl⟩
        have c0 : wr.cell? ⟨w.heap.size + 1 + 1, i, none⟩ = some (.int .i64 x) := by
          have hc := blk_cell hg
          rw [← hxe]
          rcases (show i = 0 ∨ i = 1 ∨ i = 2 by omega) with rfl | rfl | rfl
          · exact hc 0
          · exact hc 1
          · exact hc 2
        have hx0 : x ≠ 0 ∧ x.natAbs ≤ 100000000000 := by
          rw [← hxe]; unfold bpN
          split
          · omega
          · split <;> omega
        have TP := fun W : World => Lib.hid (primesOf_any x W hx0.1 hx0.2)
        have hl1 := bpL_len D C d i (by omega) (by omega) (by omega)
        have hl2 := prL_len (n := (x.natAbs : Int)) (by omega)
        rw [hxe] at hst
        have HST := Lib.hid hst
        have HG := Lib.hid hg
        have hlg := blk_lt' hg
        clear hst hxe hg hx0 HML HSR
        by_cases hnil : prL x.natAbs = []
        · go_wp2_with (first | (have _t := tok1; go_at_call 51; (with_reducible refine ((TP _).out).mono ?_); rintro e w1 ⟨v2, rfl, ho2, hn2, hb1⟩; clear tok1 _t; have hz1 := hb1.size; (try simp only [World.size_alloc, World.size_setCell, World.size_drew, World.size_drewN'] at hz1); obtain rfl := hn2 hnil; have HO1 := Lib.hid (HO.out.below hb1)) | (at_builtin; refine wpList_append_own_none rfl _ _ 26 rfl w.heap.size 3 i0 1 Tryz.underlying26 hi v _ _ rfl HO1.out rfl ?_))
          go_roundw
          case rel => exact ⟨i + 1, v, by go_num, rfl, by omega, hfar, by rw [HST.out, hnil, List.append_nil]; exact HO1.out, (hb1.block _ (blk_lt' HG.out)).trans HG.out, hbw.trans (hb1.mono hsw)⟩
          case measure => simp [intOf]; omega
        · go_wp2_with (first | (have _t := tok1; go_at_call 51; (with_reducible refine ((TP _).out).mono ?_); rintro e w1 ⟨v2, rfl, ho2, hn2, hb1⟩; clear tok1 _t; have hz1 := hb1.size; (try simp only [World.size_alloc, World.size_setCell, World.size_drew, World.size_drewN'] at hz1); have HO1 := Lib.hid (HO.out.below hb1); obtain ⟨a2, c2, rfl, hx2, hf2⟩ := Sx.of_owns ho2; clear ho2 hn2; obtain ⟨A2, rfl⟩ := sx_some hx2 hnil; have hs2 := hx2.row.src) | (at_builtin; refine wpList_append_own_at _ rfl _ _ 26 rfl w.heap.size 3 i0 (.int .i64 0) 1 8 Tryz.underlying26 hi iz0 iz1 iz2 rfl (by decide) v _ _ rfl HO1.out A2 _ c2 (ints (prL x.natAbs)) rfl (by simp [ints]) hs2 ints_cell (by unfold maxLen; omega) (by omega) (by omega) ?_; intro v1 w5 hv1 hg1 _ hat))
          go_roundw
          case rel =>
            have hb01 := hbw.trans (hb1.mono hsw)
            refine ⟨i + 1, v1, by go_num, rfl, by omega, (by rcases hat with e | e <;> rw [e]; exact hfar; intro e2; simp at e2; omega), ?_, ?_, ?_⟩
            · unfold OwnI
              rw [HST.out, ints_append, List.length_append]
              exact hv1
            · have h5 := (hb1.block _ (blk_lt' HG.out)).trans HG.out
              exact (hg1.block _ (blk_lt' h5) hfar).trans h5
            · exact hb01.grown hg1 hb01.size (fun j h => (HO1.out.lt _ h).1)
          case measure => simp [intOf]; omega
      · obtain rfl : i = 3 := by omega
        have hL := bpL_len D C d 3 (by omega) (by omega) (by omega)
        rcases HO.out.shape with ⟨_, h⟩ | ⟨g, cap, rfl, _⟩
        · simp [bpL] at h
        · obtain ⟨hr, -, hlc, hcm, hBg⟩ := HO.out.rowH
          have hcs : Go.Lib.compact (sortL (bpL D C d 3)) = bdL D A C := compact_sort _ HSR.out (fun x => (HML.out x).trans (by simp [bpL]))
          have TS := Lib.hid (sort_any g cap (bpL D C d 3) w.heap.size wr hr hBg (by omega))
          have tc := fun (W : World) (h : RowH W g (sortL (bpL D C d 3))) => compact_any g cap (sortL (bpL D C d 3)) w.heap.size W h hBg (by rw [sortL_len]; omega) hcm
          simp only [sortL_len] at tc
          rw [hcs] at tc
          have TC := Lib.hid tc
          clear tc hcs hL hlc hcm hr HO HML HSR hdb hb hfar hg
          go_wp2_with (first | (have _t := tok6; go_at_call 52; (with_reducible refine (TS.out).mono ?_); rintro e w6 ⟨rfl, hrs, hb6⟩; clear tok6 _t; have hz6 := hb6.size; (try simp only [World.size_alloc, World.size_setCell, World.size_drew, World.size_drewN'] at hz6); have TC' := Lib.hid (TC.out w6 hrs)) | (have _t := tok7; go_at_call 53; (with_reducible refine (TC'.out).mono ?_); rintro e w7 ⟨rfl, hsx, hb7⟩; clear tok7 _t; have hz7 := hb7.size; (try simp only [World.size_alloc, World.size_setCell, World.size_drew, World.size_drewN'] at hz7)))
          go_ret2
          exact ⟨_, _, _, rfl, hsx, (hbw.trans hb6).trans hb7⟩
end Go.Proofs.YtegiddpakocodaaGreat
