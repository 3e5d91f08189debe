/- The bad primes of a quartic: the reference. -/
import Derived.Test.YtegiddpakocodaaGreatPr6
import Derived.Test.YtegiddpakocodaaGreatBy
import Derived.Test.YtegiddpakocodaaGreatLoA
namespace Go.Proofs.YtegiddpakocodaaGreat
open Go.RowKit
set_option linter.unusedVariables false
set_option maxHeartbeats 4000000
set_option maxRecDepth 20000
set_option linter.unusedSimpArgs false
theorem OwnF.shape {W : World} {B : Nat} {v : Value} {ps : List Int} (h : OwnF W B v ps) : ∃ a c, v = .slice a ps.length c ∧ ∀ j, j < ps.length → ∃ g gj, a = some ⟨g, 0, none⟩ ∧ g < W.heap.size ∧ W.cell? ⟨g, j, none⟩ = some (.slice (some ⟨gj, 0, none⟩) 2 2) ∧ gj < W.heap.size ∧ W.cell? ⟨gj, 0, none⟩ = some (.int .i64 (ps[j]?.getD 0)) := by
  obtain ⟨gs, h1, h2, h3⟩ := h
  have hcell : ∀ g n c, v = .slice (some ⟨g, 0, none⟩) n c → ∀ j u, (gs.map slV2)[j]? = some u → W.cell? ((⟨g, 0, none⟩ : Addr).add j) = some u := fun g n c e => by subst e; exact h2.cells rfl
  rcases h2.2 with ⟨rfl, h0⟩ | ⟨g, cap, cur, rfl, hB, hg, _⟩
  · exact ⟨none, 0, by rw [h0], fun j hj => by omega⟩
  · refine ⟨_, _, rfl, fun j hj => ?_⟩
    obtain ⟨k, hk⟩ := h3 j hj
    refine ⟨g, gs[j]?.getD 0, rfl, blk_lt' hg, ?_, blk_lt' hk, blk_cell hk 0⟩
    have := hcell g _ _ rfl j (slV2 (gs[j]?.getD 0)) (by rw [List.getElem?_map, List.getElem?_eq_getElem (by omega)]; rfl)
    unfold Addr.add at this
    split at this
    · rename_i e; subst e; exact this
    · simpa [slV2] using this
/-- the bad primes when i of the three numbers are done -/
def bqL (D C d : Int) (i : Nat) : List Int := putA [2] ((if 0 < i then prL D.natAbs else []) ++ (if 1 < i then prL C.natAbs else []) ++ (if 2 < i then prL d.natAbs else []))
def bqN (D C d : Int) (i : Nat) : Int := if i = 0 then D else if i = 1 then C else d
theorem bqL_step (D C d : Int) {i : Nat} (h : i < 3) : bqL D C d (i + 1) = putA (bqL D C d i) (prL (bqN D C d i).natAbs) := by
  unfold bqL
  rw [← putA_append]
  rcases (show i = 0 ∨ i = 1 ∨ i = 2 by omega) with rfl | rfl | rfl <;> simp [bqN]
theorem bqL_end (D A C : Int) : bqL D C (dsc D A C) 3 = bdL D A C := by simp [bqL, bdL]
theorem bqL_len (D C d : Int) (i : Nat) (h1 : D.natAbs ≤ 100000000000) (h2 : C.natAbs ≤ 100000000000) (h3 : d.natAbs ≤ 100000000000) : 0 < (bqL D C d i).length ∧ (bqL D C d i).length ≤ 300000000001 := by
  have g1 := prL_len (n := D.natAbs) (by omega)
  have g2 := prL_len (n := C.natAbs) (by omega)
  have g3 := prL_len (n := d.natAbs) (by omega)
  refine ⟨List.length_pos_iff.2 fun e => ?_, ?_⟩
  · have : (2 : Int) ∈ bqL D C d i := putA_mem.2 (.inl (by simp))
    rw [e] at this; cases this
  · refine Nat.le_trans (putA_len _ _) ?_
    simp only [List.length_append, List.length_cons, List.length_nil]
    split <;> split <;> split <;> simp <;> omega
theorem putA_snoc (l m : List Int) {j : Nat} (h : j < m.length) : putA l (m.take (j + 1)) = putS (putA l (m.take j)) (m[j]?.getD 0) := by
  rw [List.take_add_one, List.getElem?_eq_getElem h, putA_append]; rfl
theorem putA_pos {l m : List Int} (h : 0 < l.length) : 0 < (putA l m).length := by
  refine List.length_pos_iff.2 fun e => ?_
  have : l[0] ∈ putA l m := putA_mem.2 (.inl (by simp))
  rw [e] at this; cases this
/-- a contract's value: a slice that holds the numbers zs -/
def NewX' (w : World) (zs : List Int) (ok : Bool) (e : Ending) (w' : World) : Prop := ∃ a n c, e = .returned (.tuple #[.slice a n c, .bool ok]) ∧ Sx w' a n c zs ∧ Below w.heap.size w w'
def LbO (w : World) (g : Nat) (D C d : Int) (ov iv : Value) (wr : World) : Prop := ∃ (i : Nat) (A : Addr) (c : Nat), iv = .int .i64 i ∧ ov = .slice (some A) (bqL D C d i).length c ∧ i ≤ 3 ∧ Sx wr (some A) (bqL D C d i).length c (bqL D C d i) ∧ wr.heap[g]? = some (.cells #[.int .i64 D, .int .i64 C, .int .i64 d] 3 (0, 0)) ∧ Below w.heap.size w wr
def LbI (w w1 : World) (l ps : List Int) (ov jv : Value) (wr : World) : Prop := ∃ (j : Nat) (A : Addr) (c : Nat), jv = .int .i64 j ∧ ov = .slice (some A) (putA l (ps.take j)).length c ∧ j ≤ ps.length ∧ Sx wr (some A) (putA l (ps.take j)).length c (putA l (ps.take j)) ∧ Below w.heap.size w wr ∧ Below w1.heap.size w1 wr
theorem loBad_any (D A C : Int) (w : World) (hq : qaB D A C = true) : Calls Tryz.prog 27 #[.agg #[.int .i64 D, .int .i64 A, .int .i64 C]] w
    (NewX' w (if dsc D A C = 0 then [] else bdL D A C) (decide (dsc D A C ≠ 0))) := by
  have hb := qaB_bd hq
  have m1 := mul_bd (a := A) (b := A) (A := 100000) (B := 100000) (by omega) (by omega)
  have m2 := mul_bd (a := 4 * D) (b := C) (A := 400000) (B := 100000) (by omega) (by omega)
  have hdd : dsc D A C = A * A - 4 * D * C := rfl
  have HBE := Lib.hid (bqL_end D A C)
  obtain ⟨d, hd⟩ : ∃ d, dsc D A C = d := ⟨_, rfl⟩
  rw [hd] at hdd HBE ⊢
  have hdb : -100000000000 ≤ d ∧ d ≤ 100000000000 := by omega
  clear hd hq
  by_cases h0 : d = 0
  · subst h0
    rw [if_pos rfl, show decide ((0 : Int) ≠ 0) = false from rfl]
    have hd0 : (A * A - 4 * D * C == 0) = true := by rw [← hdd]; rfl
    go_enter Tryz.func27, Tryz.ntmps27
    go_wp2_with fail
    go_ret2
    refine ⟨none, 0, 0, rfl, Sx.none _, ?_⟩
    repeat' first | (with_reducible first | apply zRf | assumption | apply zDn | apply zDr | apply zAl | apply zSt | refine zVi (by assumption) ?_ ?_) | go_size
  · rw [if_neg h0, show decide (d ≠ 0) = true by simpa using h0]
    have hd0 : (A * A - 4 * D * C == 0) = false := by rw [← hdd]; simpa using h0
    have tok1 : True := trivial
    have tok2 : True := trivial
    have tok3 : True := trivial
    have tok4 : True := trivial
    have tok5 : True := trivial
    have tok6 : True := trivial
    have tok7 : True := trivial
    go_enter Tryz.func27, Tryz.ntmps27
    go_wp2_with fail
    rw [← hdd]
    clear hdd hd0 m1 m2
    go_loopw [5, 32] (fun ov iv wr => LbO w (w.heap.size + 1 + 1) D C d ov iv wr) (fun _ iv _ => (3 - intOf iv).toNat)
    case atStart =>
      refine ⟨0, ⟨w.heap.size + 1, 0, none⟩, 1, rfl, rfl, by omega, ?_, bx_new (by simp), by repeat' first | (with_reducible first | apply zRf | assumption | apply zDn | apply zDr | apply zAl | apply zSt | refine zVi (by assumption) ?_ ?_) | go_size⟩
      refine Sx.of_row (cur := #[.int .i64 2]) (T := 3) (fr := (0, 0)) ?_ rfl (Nat.le_refl _) (by unfold maxLen; omega) (fun j hj => ?_)
      · (repeat' first | (with_reducible first | assumption | (apply Ne.symm; assumption) | apply Nat.le_refl | apply Nat.le_add_right | apply zL | apply zRf | apply Wx.box | apply Wx.box4 | apply zWa | apply Wx.drew | apply zWn | apply bx_drew | apply bx_drewN | apply bx_set3 | apply bx_set2 | apply bx_set4 | apply bx_set1) | ((with_reducible apply bx_new); (focus (go_size; done))) | (with_reducible first | apply zOl | apply zFa | apply zDn | apply zDr | apply zAl | apply zSt | refine zVi (by assumption) ?_ ?_) | go_size | omega)
      · obtain rfl : j = 0 := by simp [bqL, putA] at hj; omega
        simp [bqL, putA]
    case round =>
      obtain ⟨i, Ad, c, rfl, rfl, hi3, hx, hg, hbw⟩ := hrel
      have hsw := hbw.size
      by_cases hlt : i < 3
      · have hltc : (i : Int) < 3 := by omega
        have hst := bqL_step D C d hlt
        obtain ⟨x, hxe⟩ : ∃ x, bqN D C d i = x := ⟨_, rfl⟩
        have c0 : wr.cell? ⟨w.heap.size + 1 + 1, i, none⟩ = some (.int .i64 x) := by
          have hc := blk_cell hg
          rw [← hxe]
          rcases (show i = 0 ∨ i = 1 ∨ i = 2 by omega) with rfl | rfl | rfl
          · exact hc 0
          · exact hc 1
          · exact hc 2
        have hx0 : x ≠ 0 ∧ x.natAbs ≤ 100000000000 := by
          rw [← hxe]; unfold bqN
          split
          · omega
          · split <;> omega
        have TA := fun W : World => Lib.hid (l1Abs_any x W (by omega) (by omega))
        have hab : absI x = (x.natAbs : Int) := rfl
        rw [hab] at TA
        have TM := fun W : World => Lib.hid (mdFactors_any x.natAbs W (by omega) (by omega))
        have hl1 := bqL_len D C d i (by omega) (by omega) (by omega)
        have hl2 := prL_len (n := (x.natAbs : Int)) (by omega)
        rw [hxe] at hst
        have HST := Lib.hid hst
        have HG := Lib.hid hg
        have hlg := blk_lt' hg
        have HX := Lib.hid hx
        clear hst hxe hg hx hab
        generalize w0e : wr = w0 at *
        obtain ⟨N, hN⟩ : ∃ N : Int, (x.natAbs : Int) = N := ⟨_, rfl⟩
        rw [hN] at TA TM hl2 HST
        clear hN
        obtain ⟨l, hl⟩ : ∃ l, bqL D C d i = l := ⟨_, rfl⟩
        rw [hl] at HX hl1 HST ⊢
        obtain ⟨ps, hps⟩ : ∃ ps, prL N = ps := ⟨_, rfl⟩
        rw [hps] at hl2 HST
        simp only [hps] at TM
        clear hps
        go_wp2_with (first | (go_at_call 55; (with_reducible refine ((TA _).out).mono ?_); rintro e w' ⟨rfl, rfl⟩) | (have _t := tok1; go_at_call 54; (with_reducible refine ((TM _).out).mono ?_); rintro e w1 ⟨v, rfl, hof, hb1⟩; clear tok1 _t; have hz1 := hb1.size; (try simp only [World.size_alloc, World.size_setCell, World.size_drew, World.size_drewN'] at hz1); obtain ⟨a3, c3, rfl, hsh⟩ := hof.shape))
        have HSH := Lib.hid hsh
        have hs1 := hb1.size
        have HX1 := Lib.hid (HX.out.below hb1)
        have hbw1 := hbw.trans (hb1.mono hsw)
        clear hsh hof TM TA c0
        go_loopw [5, 40] (fun ov jv wr => LbI w w1 l ps ov jv wr) (fun _ jv _ => (ps.length - intOf jv).toNat)
        case atStart => exact ⟨0, Ad, c, rfl, rfl, by omega, by simpa [putA] using HX1.out, hbw1, Below.refl _ _⟩
        case round =>
          obtain ⟨j, A2, c2, rfl, rfl, hj, hx, hbr, hb1r⟩ := hrel
          have hsr := hb1r.size
          by_cases hjl : j < ps.length
          · have hjc : (j : Int) < (ps.length : Int) := by omega
            obtain ⟨g, gj, rfl, hgl, kj, hgj, pj⟩ := HSH.out j hjl
            have k0 := (hb1r.cell (p := ⟨g, j, none⟩) hgl).trans kj
            have p0 := (hb1r.cell (p := ⟨gj, 0, none⟩) hgj).trans pj
            have hsn := putA_snoc l ps hjl
            have hln := putA_len (ps.take j) l
            have hpp := putA_pos (m := ps.take j) hl1.1
            rw [List.length_take] at hln
            obtain ⟨y, hy⟩ : ∃ y, ps[j]?.getD 0 = y := ⟨_, rfl⟩
            rw [hy] at p0 hsn
            have HSN := Lib.hid hsn
            have TP := Lib.hid (l1Put_any A2 c2 (putA l (ps.take j)) y wr hx (by omega) hpp)
            rw [← HSN.out] at TP
            clear hsn hy kj pj hx hln hpp
            go_wp2_with (first | (have _t := tok2; go_at_call 56; (with_reducible refine (TP.out).mono ?_); rintro e w2 ⟨A2, c2, rfl, hx2, hb2⟩; clear tok2 _t; have hz2 := hb2.size; (try simp only [World.size_alloc, World.size_setCell, World.size_drew, World.size_drewN'] at hz2)))
            go_roundw
            case rel => exact ⟨j + 1, _, _, by go_num, rfl, by omega, hx2, hbr.trans (hb2.mono (by have := hbr.size; omega)), hb1r.trans (hb2.mono hsr)⟩
            case measure => simp [intOf]; omega
          · obtain rfl : j = ps.length := by omega
            rw [List.take_length] at hx ⊢
            rw [← HST.out] at hx ⊢
            have hg9 := (hb1r.block _ (by have := hb1.size; omega)).trans ((hb1.block _ hlg).trans HG.out)
            have HG9 := Lib.hid hg9
            have HX9 := Lib.hid hx
            clear hg9 hx
            go_wp2_with fail
            go_roundw
            case rel => exact ⟨i + 1, A2, c2, by go_num, rfl, by omega, HX9.out, HG9.out, hbr⟩
            case measure => simp [intOf]; omega
      · obtain rfl : i = 3 := by omega
        go_wp2_with fail
        go_ret2
        have := HBE.out
        exact ⟨_, _, _, rfl, by rw [← this]; exact hx, hbw⟩
end Go.Proofs.YtegiddpakocodaaGreat
