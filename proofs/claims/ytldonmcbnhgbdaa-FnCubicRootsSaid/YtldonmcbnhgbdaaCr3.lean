/- RootCells: contracts of both sides. -/
import Derived.Test.YtldonmcbnhgbdaaCr2
import Derived.Test.YtldonmcbnhgbdaaFq1
import Derived.Test.YtldonmcbnhgbdaaBy
namespace Go.Proofs.Ytldonmcbnhgbdaa
open Go.RowKit
set_option linter.unusedVariables false
set_option maxHeartbeats 4000000
set_option maxRecDepth 20000
set_option linter.unusedSimpArgs false

def rcL (a b c d : Int) : List Int := if cuB a b c d = true then rcN a b c d (-1001) 2003 else []
/-- a call returns a row of integers and a flag -/
def NewL (w : World) (l : List Int) (ok : Bool) (r : Ending) (w' : World) : Prop := ∃ a1 c1, r = .returned (.tuple #[.slice a1 l.length c1, .bool ok]) ∧ Sx w' a1 l.length c1 l ∧ Below w.heap.size w w'
def RcRel (w : World) (a b c d lo : Int) (N : Nat) (ov kv : Value) (wr : World) : Prop := ∃ (k : Nat) (v : Value), kv = .int .i64 (lo + k) ∧ v = ov ∧ k ≤ N ∧ OwnI wr (w.heap.size + 1) 3 v (rcN a b c d lo k) ∧ wr.heap[w.heap.size]? = some (.cells #[.int .i64 a, .int .i64 b, .int .i64 c, .int .i64 d] 24 (0, 0)) ∧ Below w.heap.size w wr
theorem cellB_z {a b c d x : Int} (h : cuV a b c d x 1 = 0) : cellB a b c d x = true := by simp [cellB, h]
theorem cellB_u {a b c d x : Int} (h : cuV a b c d x 1 < 0) : cellB a b c d x = decide (0 < cuV a b c d (x + 1) 1) := by
  simp [cellB, h, show ¬ (cuV a b c d x 1 = 0) by omega, show ¬ (0 < cuV a b c d x 1) by omega]
theorem cellB_d {a b c d x : Int} (h : 0 < cuV a b c d x 1) : cellB a b c d x = decide (cuV a b c d (x + 1) 1 < 0) := by
  simp [cellB, h, show ¬ (cuV a b c d x 1 = 0) by omega, show ¬ (cuV a b c d x 1 < 0) by omega]
theorem info3 : (Try.prog.info? 3).map (fun i => (i.zero, i.size, i.bytes)) = some (some (.int .i64 0), 1, 8) := by kernel_rfl
theorem RootCells_any (a b c d : Int) (w : World) : Calls Try.prog 10 #[.agg #[.int .i64 a, .int .i64 b, .int .i64 c, .int .i64 d]] w (NewL w (rcL a b c d) (cuB a b c d)) := by
  obtain ⟨i0, hi, iz0, iz1, iz2⟩ := info_parts info3
  have T1 := fun W : World => Lib.hid (isCubic_any a b c d W)
  rcases h1 : cuB a b c d with _ | _
  · rw [h1] at T1
    rw [show rcL a b c d = [] from if_neg (by simp [h1])]
    clear h1
    have tok1 : True := trivial
    have tok2 : True := trivial
    have tok3 : True := trivial
    have tok4 : True := trivial
    go_enter Try.func10, Try.ntmps10
    go_wp2_with (first | (have _t := tok1; go_at_call 25; (with_reducible refine ((T1 _).out).mono ?_); rintro e w1 ⟨rfl, hb1⟩; clear tok1 _t; have hz1 := hb1.size; (try simp only [World.size_alloc, World.size_setCell, World.size_drew, World.size_drewN'] at hz1); (try (have kq := cellAt hb1 (w.heap.size) (by go_size); have k1_w_0_0 := kq 0; have k1_w_0_1 := kq 1; have k1_w_0_2 := kq 2; have k1_w_0_3 := kq 3; clear kq; have f1_w_0 := frozAt hb1 (w.heap.size) (by go_size); simp [go_sem, *] at k1_w_0_0 k1_w_0_1 k1_w_0_2 k1_w_0_3 f1_w_0)); (try have l1_w_0 : w.heap.size < w1.heap.size := by omega); (try (have kq := cellAt hb1 (w.heap.size) (by go_size); have k1_w_0_0 := kq 0; have k1_w_0_1 := kq 1; have k1_w_0_2 := kq 2; have k1_w_0_3 := kq 3; clear kq; have f1_w_0 := frozAt hb1 (w.heap.size) (by go_size); simp [go_sem, *] at k1_w_0_0 k1_w_0_1 k1_w_0_2 k1_w_0_3 f1_w_0)); (try have l1_w_0 : w.heap.size < w1.heap.size := by omega)))
    go_ret2
    exact ⟨none, 0, rfl, Sx.none _, by repeat' first | (with_reducible first | apply zRf | assumption | apply zDn | apply zDr | apply zAl | apply zSt | refine zVi (by assumption) ?_ ?_) | go_size⟩
  · rw [h1] at T1
    rw [show rcL a b c d = rcN a b c d (-1003) 2007 from (if_pos h1).trans (rc_same h1).symm]
    obtain ⟨_, b1, b2, b3, b4⟩ := cuB_bd h1
    clear h1
    have tok1 : True := trivial
    have tok2 : True := trivial
    have tok3 : True := trivial
    have tok4 : True := trivial
    go_enter Try.func10, Try.ntmps10
    go_upto_region 1 with fail
    refine chk (fun W => Below w.heap.size w W ∧ W.heap[w.heap.size]? = some (.cells #[.int .i64 a, .int .i64 b, .int .i64 c, .int .i64 d] 24 (0, 0))) (by refine ⟨?_, ?_⟩ <;> (repeat' first | (with_reducible first | assumption | (apply Ne.symm; assumption) | apply Nat.le_refl | apply Nat.le_add_right | apply zL | apply zRf | apply Wx.box | apply Wx.box4 | apply zWa | apply Wx.drew | apply zWn | apply bx_drew | apply bx_drewN | apply bx_set3 | apply bx_set2 | apply bx_set4 | apply bx_set1) | ((with_reducible apply bx_new); (focus (go_size; done))) | (with_reducible first | apply zOl | apply zFa | apply zDn | apply zDr | apply zAl | apply zSt | refine zVi (by assumption) ?_ ?_) | go_size | omega)) ?_
    rintro w8 ⟨hB8, H_Q_8⟩
    obtain ⟨k_Q_8_0, k_Q_8_1, k_Q_8_2, k_Q_8_3, f_Q_8, l_Q_8⟩ := bk4 H_Q_8
    replace H_Q_8 := Lib.hid H_Q_8
    go_upto_region 5 with (first | (have _t := tok1; go_at_call 25; (with_reducible refine ((T1 _).out).mono ?_); rintro e w1 ⟨rfl, hb1⟩; clear tok1 _t; have hz1 := hb1.size; (try simp only [World.size_alloc, World.size_setCell, World.size_drew, World.size_drewN'] at hz1); (try (have kq := cellAt hb1 (w.heap.size) (by go_size); have k1_w_0_0 := kq 0; have k1_w_0_1 := kq 1; have k1_w_0_2 := kq 2; have k1_w_0_3 := kq 3; clear kq; have f1_w_0 := frozAt hb1 (w.heap.size) (by go_size); simp [go_sem, *] at k1_w_0_0 k1_w_0_1 k1_w_0_2 k1_w_0_3 f1_w_0)); (try have l1_w_0 : w.heap.size < w1.heap.size := by omega); (try (have kq := cellAt hb1 (w.heap.size) (by go_size); have k1_w_0_0 := kq 0; have k1_w_0_1 := kq 1; have k1_w_0_2 := kq 2; have k1_w_0_3 := kq 3; clear kq; have f1_w_0 := frozAt hb1 (w.heap.size) (by go_size); simp [go_sem, *] at k1_w_0_0 k1_w_0_1 k1_w_0_2 k1_w_0_3 f1_w_0)); (try have l1_w_0 : w.heap.size < w1.heap.size := by omega)))
    have H_Q_1 := (hb1.block (w.heap.size) (blk_lt' H_Q_8.out)).trans H_Q_8.out
    clear k_Q_8_0 k_Q_8_1 k_Q_8_2 k_Q_8_3 f_Q_8 H_Q_8
    obtain ⟨k_Q_1_0, k_Q_1_1, k_Q_1_2, k_Q_1_3, f_Q_1, l_Q_1⟩ := bk4 H_Q_1
    replace H_Q_1 := Lib.hid H_Q_1
    have hB1 : Below w.heap.size w w1 := below_via hb1 (by assumption) (by first | exact hB8.size | go_size)
    replace H_Q_1 := H_Q_1.out
    refine chk (fun W => Below w.heap.size w W ∧ W.heap[w.heap.size]? = some (.cells #[.int .i64 a, .int .i64 b, .int .i64 c, .int .i64 d] 24 (0, 0))) (by refine ⟨?_, ?_⟩ <;> (repeat' first | (with_reducible first | assumption | (apply Ne.symm; assumption) | apply Nat.le_refl | apply Nat.le_add_right | apply zL | apply zRf | apply Wx.box | apply Wx.box4 | apply zWa | apply Wx.drew | apply zWn | apply bx_drew | apply bx_drewN | apply bx_set3 | apply bx_set2 | apply bx_set4 | apply bx_set1) | ((with_reducible apply bx_new); (focus (go_size; done))) | (with_reducible first | apply zOl | apply zFa | apply zDn | apply zDr | apply zAl | apply zSt | refine zVi (by assumption) ?_ ?_) | go_size | omega)) ?_
    clear k_Q_1_0 k_Q_1_1 k_Q_1_2 k_Q_1_3 f_Q_1 H_Q_1
    clear hB1
    rintro w2 ⟨hB2, H_Q_2⟩
    obtain ⟨k_Q_2_0, k_Q_2_1, k_Q_2_2, k_Q_2_3, f_Q_2, l_Q_2⟩ := bk4 H_Q_2
    replace H_Q_2 := Lib.hid H_Q_2
    clear hb1 T1
    go_loopw [4, 5] (fun ov kv wr => RcRel w a b c d (-1003) 2007 ov kv wr) (fun _ kv _ => (1004 - intOf kv).toNat)
    case atStart => exact ⟨0, _, by first | rfl | simp, rfl, by omega, World.ownsRow_nil _ _ _ _, H_Q_2.out, hB2⟩
    case round =>
      obtain ⟨k, v, rfl, rfl, hk, ho, hQ, hb⟩ := hrel
      have hsw := hb.size
      have q0 := blk_cell hQ 0
      have q1 := blk_cell hQ 1
      have q2 := blk_cell hQ 2
      have q3 := blk_cell hQ 3
      simp at q0 q1 q2 q3
      have hql := blk_lt' hQ
      have hqf := fun o => blk_frozen hQ o
      have HQ := Lib.hid hQ
      have hle := rcN_len a b c d (-1003) k
      have hsu := rcN_succ a b c d (-1003) k
      clear hQ
      by_cases hlt : k < 2007
      · have hkc : -1003 + (k : Int) ≤ 1003 := by omega
        have hxs : -1003 + ((k + 1 : Nat) : Int) = -1003 + (k : Int) + 1 := by omega
        obtain ⟨x, hx⟩ : ∃ x : Int, -1003 + (k : Int) = x := ⟨_, rfl⟩
        rw [hx] at hkc hsu hxs ⊢
        have hx0 : -1003 ≤ x := by omega
        have T3 := fun W : World => Lib.hid (at_any a b c d x W b1 b2 b3 b4 (by omega))
        have T4 := fun W : World => Lib.hid (at_any a b c d (x + 1) W b1 b2 b3 b4 (by omega))
        obtain ⟨l, hl⟩ : ∃ l, rcN a b c d (-1003) k = l := ⟨_, rfl⟩
        rw [hl] at ho hle hsu
        obtain ⟨p, hp⟩ : ∃ p, cellB a b c d x = p := ⟨_, rfl⟩
        rw [hp] at hsu
        have HXS := Lib.hid hxs
        have HSU := Lib.hid hsu
        have HO1 := Lib.hid ho
        clear hl ho hsu hxs hx
        have hp1 := fun h => cellB_u (a := a) (b := b) (c := c) (d := d) (x := x) h
        have hp2 := fun h => cellB_z (a := a) (b := b) (c := c) (d := d) (x := x) h
        have hp3 := fun h => cellB_d (a := a) (b := b) (c := c) (d := d) (x := x) h
        rw [hp] at hp1 hp2 hp3
        clear hp
        generalize cuV a b c d x 1 = u at *
        generalize cuV a b c d (x + 1) 1 = z at *
        replace hp1 := Lib.hid hp1
        replace hp2 := Lib.hid hp2
        replace hp3 := Lib.hid hp3
        go_upto_region 8 with (first | (have _t := tok3; go_at_call 32; (with_reducible refine ((T3 _).out).mono ?_); rintro e w3 ⟨rfl, hb3⟩; clear tok3 _t; have hz3 := hb3.size; (try simp only [World.size_alloc, World.size_setCell, World.size_drew, World.size_drewN'] at hz3); (try (have kq := cellAt hb3 (w.heap.size) (by go_size); have k3_w_0_0 := kq 0; have k3_w_0_1 := kq 1; have k3_w_0_2 := kq 2; have k3_w_0_3 := kq 3; clear kq; have f3_w_0 := frozAt hb3 (w.heap.size) (by go_size); simp [go_sem, *] at k3_w_0_0 k3_w_0_1 k3_w_0_2 k3_w_0_3 f3_w_0)); (try have l3_w_0 : w.heap.size < w3.heap.size := by omega); (try (have kq := cellAt hb3 (w.heap.size) (by go_size); have k3_w_0_0 := kq 0; have k3_w_0_1 := kq 1; have k3_w_0_2 := kq 2; have k3_w_0_3 := kq 3; clear kq; have f3_w_0 := frozAt hb3 (w.heap.size) (by go_size); simp [go_sem, *] at k3_w_0_0 k3_w_0_1 k3_w_0_2 k3_w_0_3 f3_w_0)); (try have l3_w_0 : w.heap.size < w3.heap.size := by omega); (try clear k1_w_0_0 k1_w_0_1 k1_w_0_2 k1_w_0_3 f1_w_0); (try clear l1_w_0); (try clear k1_w_0_0 k1_w_0_1 k1_w_0_2 k1_w_0_3 f1_w_0); (try clear l1_w_0); (try clear k2_w_0_0 k2_w_0_1 k2_w_0_2 k2_w_0_3 f2_w_0); (try clear l2_w_0); (try clear k2_w_0_0 k2_w_0_1 k2_w_0_2 k2_w_0_3 f2_w_0); (try clear l2_w_0)))
        go_cut [40] from 10 to 44 (fun sq wx => sq = .bool p ∧ Below w3.heap.size w3 wx)
        case first =>
          as_aux_lemma =>
            rcases Int.lt_trichotomy u 0 with h | h | h
            · obtain rfl := hp1.out h
              clear hp1 hp2 hp3 HO1 HSU HXS HQ
              by_cases h2 : 0 < z
              all_goals
                go_wp2_with (first | (have _t := tok4; go_at_call 32; (with_reducible refine ((T4 _).out).mono ?_); rintro e w4 ⟨rfl, hb4⟩; clear tok4 _t; have hz4 := hb4.size; (try simp only [World.size_alloc, World.size_setCell, World.size_drew, World.size_drewN'] at hz4); (try (have kq := cellAt hb4 (w.heap.size) (by go_size); have k4_w_0_0 := kq 0; have k4_w_0_1 := kq 1; have k4_w_0_2 := kq 2; have k4_w_0_3 := kq 3; clear kq; have f4_w_0 := frozAt hb4 (w.heap.size) (by go_size); simp [go_sem, *] at k4_w_0_0 k4_w_0_1 k4_w_0_2 k4_w_0_3 f4_w_0)); (try have l4_w_0 : w.heap.size < w4.heap.size := by omega); (try (have kq := cellAt hb4 (w.heap.size) (by go_size); have k4_w_0_0 := kq 0; have k4_w_0_1 := kq 1; have k4_w_0_2 := kq 2; have k4_w_0_3 := kq 3; clear kq; have f4_w_0 := frozAt hb4 (w.heap.size) (by go_size); simp [go_sem, *] at k4_w_0_0 k4_w_0_1 k4_w_0_2 k4_w_0_3 f4_w_0)); (try have l4_w_0 : w.heap.size < w4.heap.size := by omega); (try clear k1_w_0_0 k1_w_0_1 k1_w_0_2 k1_w_0_3 f1_w_0); (try clear l1_w_0); (try clear k1_w_0_0 k1_w_0_1 k1_w_0_2 k1_w_0_3 f1_w_0); (try clear l1_w_0); (try clear k2_w_0_0 k2_w_0_1 k2_w_0_2 k2_w_0_3 f2_w_0); (try clear l2_w_0); (try clear k2_w_0_0 k2_w_0_1 k2_w_0_2 k2_w_0_3 f2_w_0); (try clear l2_w_0); (try clear k3_w_0_0 k3_w_0_1 k3_w_0_2 k3_w_0_3 f3_w_0); (try clear l3_w_0); (try clear k3_w_0_0 k3_w_0_1 k3_w_0_2 k3_w_0_3 f3_w_0); (try clear l3_w_0)))
                go_meet
                exact ⟨by have hu : ¬ u = 0 := by omega
                          simp [h2, hu], by repeat' first | (with_reducible first | apply zRf | assumption | apply zDn | apply zDr | apply zAl | apply zSt | refine zVi (by assumption) ?_ ?_) | go_size⟩
            · obtain rfl := hp2.out h
              subst h
              clear hp1 hp2 hp3 HO1 HSU HXS HQ
              go_wp2_with (first | (have _t := tok4; go_at_call 32; (with_reducible refine ((T4 _).out).mono ?_); rintro e w4 ⟨rfl, hb4⟩; clear tok4 _t; have hz4 := hb4.size; (try simp only [World.size_alloc, World.size_setCell, World.size_drew, World.size_drewN'] at hz4); (try (have kq := cellAt hb4 (w.heap.size) (by go_size); have k4_w_0_0 := kq 0; have k4_w_0_1 := kq 1; have k4_w_0_2 := kq 2; have k4_w_0_3 := kq 3; clear kq; have f4_w_0 := frozAt hb4 (w.heap.size) (by go_size); simp [go_sem, *] at k4_w_0_0 k4_w_0_1 k4_w_0_2 k4_w_0_3 f4_w_0)); (try have l4_w_0 : w.heap.size < w4.heap.size := by omega); (try (have kq := cellAt hb4 (w.heap.size) (by go_size); have k4_w_0_0 := kq 0; have k4_w_0_1 := kq 1; have k4_w_0_2 := kq 2; have k4_w_0_3 := kq 3; clear kq; have f4_w_0 := frozAt hb4 (w.heap.size) (by go_size); simp [go_sem, *] at k4_w_0_0 k4_w_0_1 k4_w_0_2 k4_w_0_3 f4_w_0)); (try have l4_w_0 : w.heap.size < w4.heap.size := by omega); (try clear k1_w_0_0 k1_w_0_1 k1_w_0_2 k1_w_0_3 f1_w_0); (try clear l1_w_0); (try clear k1_w_0_0 k1_w_0_1 k1_w_0_2 k1_w_0_3 f1_w_0); (try clear l1_w_0); (try clear k2_w_0_0 k2_w_0_1 k2_w_0_2 k2_w_0_3 f2_w_0); (try clear l2_w_0); (try clear k2_w_0_0 k2_w_0_1 k2_w_0_2 k2_w_0_3 f2_w_0); (try clear l2_w_0); (try clear k3_w_0_0 k3_w_0_1 k3_w_0_2 k3_w_0_3 f3_w_0); (try clear l3_w_0); (try clear k3_w_0_0 k3_w_0_1 k3_w_0_2 k3_w_0_3 f3_w_0); (try clear l3_w_0)))
              go_meet
              exact ⟨rfl, by repeat' first | (with_reducible first | apply zRf | assumption | apply zDn | apply zDr | apply zAl | apply zSt | refine zVi (by assumption) ?_ ?_) | go_size⟩
            · obtain rfl := hp3.out h
              clear hp1 hp2 hp3 HO1 HSU HXS HQ
              by_cases h2 : z < 0
              all_goals
                go_wp2_with (first | (have _t := tok4; go_at_call 32; (with_reducible refine ((T4 _).out).mono ?_); rintro e w4 ⟨rfl, hb4⟩; clear tok4 _t; have hz4 := hb4.size; (try simp only [World.size_alloc, World.size_setCell, World.size_drew, World.size_drewN'] at hz4); (try (have kq := cellAt hb4 (w.heap.size) (by go_size); have k4_w_0_0 := kq 0; have k4_w_0_1 := kq 1; have k4_w_0_2 := kq 2; have k4_w_0_3 := kq 3; clear kq; have f4_w_0 := frozAt hb4 (w.heap.size) (by go_size); simp [go_sem, *] at k4_w_0_0 k4_w_0_1 k4_w_0_2 k4_w_0_3 f4_w_0)); (try have l4_w_0 : w.heap.size < w4.heap.size := by omega); (try (have kq := cellAt hb4 (w.heap.size) (by go_size); have k4_w_0_0 := kq 0; have k4_w_0_1 := kq 1; have k4_w_0_2 := kq 2; have k4_w_0_3 := kq 3; clear kq; have f4_w_0 := frozAt hb4 (w.heap.size) (by go_size); simp [go_sem, *] at k4_w_0_0 k4_w_0_1 k4_w_0_2 k4_w_0_3 f4_w_0)); (try have l4_w_0 : w.heap.size < w4.heap.size := by omega); (try clear k1_w_0_0 k1_w_0_1 k1_w_0_2 k1_w_0_3 f1_w_0); (try clear l1_w_0); (try clear k1_w_0_0 k1_w_0_1 k1_w_0_2 k1_w_0_3 f1_w_0); (try clear l1_w_0); (try clear k2_w_0_0 k2_w_0_1 k2_w_0_2 k2_w_0_3 f2_w_0); (try clear l2_w_0); (try clear k2_w_0_0 k2_w_0_1 k2_w_0_2 k2_w_0_3 f2_w_0); (try clear l2_w_0); (try clear k3_w_0_0 k3_w_0_1 k3_w_0_2 k3_w_0_3 f3_w_0); (try clear l3_w_0); (try clear k3_w_0_0 k3_w_0_1 k3_w_0_2 k3_w_0_3 f3_w_0); (try clear l3_w_0)))
                go_meet
                exact ⟨by have hu : ¬ u = 0 := by omega
                          simp [h2, hu], by repeat' first | (with_reducible first | apply zRf | assumption | apply zDn | apply zDr | apply zAl | apply zSt | refine zVi (by assumption) ?_ ?_) | go_size⟩
        case rest =>
          obtain ⟨rfl, hb5⟩ := hcut
          have hb35 := hb3.trans (hb5.mono hb3.size)
          have HO := Lib.hid (HO1.out.below hb35)
          have HQ5 := Lib.hid ((hb35.block _ hql).trans HQ.out)
          have hs5 := hb35.size
          have hbc := hb.trans (hb35.mono hb.size)
          clear T3 T4 HO1 HQ q0 q1 q2 q3 hp1 hp2 hp3
          cases p
          · go_wp2_with fail
            go_roundw
            case rel =>
              have e1 : rcN a b c d (-1003) (k + 1) = l := by rw [HSU.out]; simp
              first
              | exact ⟨k + 1, v, by rw [HXS.out], rfl, by omega, by rw [e1]; exact HO.out, HQ5.out, hbc⟩
              | ((repeat (with_reducible apply Exists.intro)); exact ⟨⟨k + 1, v, by rw [HXS.out], rfl, by omega, by rw [e1]; exact HO.out, HQ5.out, hbc⟩, rfl⟩)
            case measure => simp [intOf]; omega
          · go_wp2_with (first | (at_builtin; refine wpList_append_own_at _ rfl _ _ 31 rfl (w.heap.size + 1) 3 i0 (.int .i64 0) 1 8 Try.underlying31 hi iz0 iz1 iz2 rfl (by decide) v l.length _ rfl (HO.out.alloc _) ⟨wc.heap.size, 0, none⟩ 1 1 [_] rfl rfl (cell_one_new _ _ _) (by simp [Value.oneCell']) (by unfold maxLen; omega) (by omega) (by simp; omega) ?_; intro v1 w6 hv1 hg1 _ hat))
            go_roundw
            case rel =>
              have e1 : rcN a b c d (-1003) (k + 1) = l ++ [x] := by rw [HSU.out]; simp
              have e2 : OwnI w6 (w.heap.size + 1) 3 v1 (rcN a b c d (-1003) (k + 1)) := by
                unfold OwnI
                rw [e1, ints_append, ints_one, List.length_append]
                exact hv1
              have e3 := (hg1.block w.heap.size (by simp; omega) (fun e => by have := (HO.out.lt _ e.symm).1; omega)).trans (bx_old HQ5.out _)
              have e4 := (hbc.alloc (by omega) _).grown hg1 (by simp; omega) (fun j h => by have := (HO.out.lt _ h).1; omega)
              first
              | exact ⟨k + 1, v1, by rw [HXS.out], rfl, by omega, e2, e3, e4⟩
              | ((repeat (with_reducible apply Exists.intro)); exact ⟨⟨k + 1, v1, by rw [HXS.out], rfl, by omega, e2, e3, e4⟩, rfl⟩)
            case measure => simp [intOf]; omega
      · obtain rfl : k = 2007 := by omega
        have hke : ¬ ((1004 : Int) ≤ 1003) := by omega
        obtain ⟨a1, c1, rfl, hsx, -⟩ := Sx.of_owns ho
        go_wp2_with fail
        go_ret2
        exact ⟨a1, c1, rfl, hsx, hb⟩
theorem sgn_cell {a b c d x : Int} : cellB a b c d x = (decide (sgnV (cuV a b c d x 1) = 0) || decide (sgnV (cuV a b c d x 1) * sgnV (cuV a b c d (x + 1) 1) < 0)) := by
  unfold cellB sgnV
  generalize cuV a b c d x 1 = u
  generalize cuV a b c d (x + 1) 1 = z
  rcases Int.lt_trichotomy u 0 with h | h | h <;> rcases Int.lt_trichotomy z 0 with k | k | k <;> simp [h, k, show u < 0 → ¬ 0 < u by omega, show z < 0 → ¬ 0 < z by omega] <;> (try omega)
theorem sRootCells_any (a b c d : Int) (w : World) : Calls Try.prog 11 #[.agg #[.int .i64 a, .int .i64 b, .int .i64 c, .int .i64 d]] w (NewL w (rcL a b c d) (cuB a b c d)) := by
  obtain ⟨i0, hi, iz0, iz1, iz2⟩ := info_parts info3
  have T1 := fun W : World => Lib.hid (cuGood_any a b c d W)
  rcases h1 : cuB a b c d with _ | _
  · rw [h1] at T1
    rw [show rcL a b c d = [] from if_neg (by simp [h1])]
    clear h1
    have tok1 : True := trivial
    have tok2 : True := trivial
    have tok3 : True := trivial
    have tok4 : True := trivial
    go_enter Try.func11, Try.ntmps11
    go_wp2_with (first | (have _t := tok1; go_at_call 27; (with_reducible refine ((T1 _).out).mono ?_); rintro e w1 ⟨rfl, hb1⟩; clear tok1 _t; have hz1 := hb1.size; (try simp only [World.size_alloc, World.size_setCell, World.size_drew, World.size_drewN'] at hz1); (try (have kq := cellAt hb1 (w.heap.size) (by go_size); have k1_w_0_0 := kq 0; have k1_w_0_1 := kq 1; have k1_w_0_2 := kq 2; have k1_w_0_3 := kq 3; clear kq; have f1_w_0 := frozAt hb1 (w.heap.size) (by go_size); simp [go_sem, *] at k1_w_0_0 k1_w_0_1 k1_w_0_2 k1_w_0_3 f1_w_0)); (try have l1_w_0 : w.heap.size < w1.heap.size := by omega); (try (have kq := cellAt hb1 (w.heap.size) (by go_size); have k1_w_0_0 := kq 0; have k1_w_0_1 := kq 1; have k1_w_0_2 := kq 2; have k1_w_0_3 := kq 3; clear kq; have f1_w_0 := frozAt hb1 (w.heap.size) (by go_size); simp [go_sem, *] at k1_w_0_0 k1_w_0_1 k1_w_0_2 k1_w_0_3 f1_w_0)); (try have l1_w_0 : w.heap.size < w1.heap.size := by omega)))
    go_ret2
    exact ⟨none, 0, rfl, Sx.none _, by repeat' first | (with_reducible first | apply zRf | assumption | apply zDn | apply zDr | apply zAl | apply zSt | refine zVi (by assumption) ?_ ?_) | go_size⟩
  · rw [h1] at T1
    rw [show rcL a b c d = rcN a b c d (-1001) 2003 from if_pos h1]
    obtain ⟨_, b1, b2, b3, b4⟩ := cuB_bd h1
    clear h1
    have tok1 : True := trivial
    have tok2 : True := trivial
    have tok3 : True := trivial
    have tok4 : True := trivial
    go_enter Try.func11, Try.ntmps11
    go_upto_region 1 with fail
    refine chk (fun W => Below w.heap.size w W ∧ W.heap[w.heap.size]? = some (.cells #[.int .i64 a, .int .i64 b, .int .i64 c, .int .i64 d] 24 (0, 0))) (by refine ⟨?_, ?_⟩ <;> (repeat' first | (with_reducible first | assumption | (apply Ne.symm; assumption) | apply Nat.le_refl | apply Nat.le_add_right | apply zL | apply zRf | apply Wx.box | apply Wx.box4 | apply zWa | apply Wx.drew | apply zWn | apply bx_drew | apply bx_drewN | apply bx_set3 | apply bx_set2 | apply bx_set4 | apply bx_set1) | ((with_reducible apply bx_new); (focus (go_size; done))) | (with_reducible first | apply zOl | apply zFa | apply zDn | apply zDr | apply zAl | apply zSt | refine zVi (by assumption) ?_ ?_) | go_size | omega)) ?_
    rintro w8 ⟨hB8, H_Q_8⟩
    obtain ⟨k_Q_8_0, k_Q_8_1, k_Q_8_2, k_Q_8_3, f_Q_8, l_Q_8⟩ := bk4 H_Q_8
    replace H_Q_8 := Lib.hid H_Q_8
    go_upto_region 5 with (first | (have _t := tok1; go_at_call 27; (with_reducible refine ((T1 _).out).mono ?_); rintro e w1 ⟨rfl, hb1⟩; clear tok1 _t; have hz1 := hb1.size; (try simp only [World.size_alloc, World.size_setCell, World.size_drew, World.size_drewN'] at hz1); (try (have kq := cellAt hb1 (w.heap.size) (by go_size); have k1_w_0_0 := kq 0; have k1_w_0_1 := kq 1; have k1_w_0_2 := kq 2; have k1_w_0_3 := kq 3; clear kq; have f1_w_0 := frozAt hb1 (w.heap.size) (by go_size); simp [go_sem, *] at k1_w_0_0 k1_w_0_1 k1_w_0_2 k1_w_0_3 f1_w_0)); (try have l1_w_0 : w.heap.size < w1.heap.size := by omega); (try (have kq := cellAt hb1 (w.heap.size) (by go_size); have k1_w_0_0 := kq 0; have k1_w_0_1 := kq 1; have k1_w_0_2 := kq 2; have k1_w_0_3 := kq 3; clear kq; have f1_w_0 := frozAt hb1 (w.heap.size) (by go_size); simp [go_sem, *] at k1_w_0_0 k1_w_0_1 k1_w_0_2 k1_w_0_3 f1_w_0)); (try have l1_w_0 : w.heap.size < w1.heap.size := by omega)))
    have H_Q_1 := (hb1.block (w.heap.size) (blk_lt' H_Q_8.out)).trans H_Q_8.out
    clear k_Q_8_0 k_Q_8_1 k_Q_8_2 k_Q_8_3 f_Q_8 H_Q_8
    obtain ⟨k_Q_1_0, k_Q_1_1, k_Q_1_2, k_Q_1_3, f_Q_1, l_Q_1⟩ := bk4 H_Q_1
    replace H_Q_1 := Lib.hid H_Q_1
    have hB1 : Below w.heap.size w w1 := below_via hb1 (by assumption) (by first | exact hB8.size | go_size)
    replace H_Q_1 := H_Q_1.out
    refine chk (fun W => Below w.heap.size w W ∧ W.heap[w.heap.size]? = some (.cells #[.int .i64 a, .int .i64 b, .int .i64 c, .int .i64 d] 24 (0, 0))) (by refine ⟨?_, ?_⟩ <;> (repeat' first | (with_reducible first | assumption | (apply Ne.symm; assumption) | apply Nat.le_refl | apply Nat.le_add_right | apply zL | apply zRf | apply Wx.box | apply Wx.box4 | apply zWa | apply Wx.drew | apply zWn | apply bx_drew | apply bx_drewN | apply bx_set3 | apply bx_set2 | apply bx_set4 | apply bx_set1) | ((with_reducible apply bx_new); (focus (go_size; done))) | (with_reducible first | apply zOl | apply zFa | apply zDn | apply zDr | apply zAl | apply zSt | refine zVi (by assumption) ?_ ?_) | go_size | omega)) ?_
    clear k_Q_1_0 k_Q_1_1 k_Q_1_2 k_Q_1_3 f_Q_1 H_Q_1
    clear hB1
    rintro w2 ⟨hB2, H_Q_2⟩
    obtain ⟨k_Q_2_0, k_Q_2_1, k_Q_2_2, k_Q_2_3, f_Q_2, l_Q_2⟩ := bk4 H_Q_2
    replace H_Q_2 := Lib.hid H_Q_2
    clear hb1 T1
    go_loopw [4, 5] (fun ov kv wr => RcRel w a b c d (-1001) 2003 ov kv wr) (fun _ kv _ => (1002 - intOf kv).toNat)
    case atStart => exact ⟨0, _, by first | rfl | simp, rfl, by omega, World.ownsRow_nil _ _ _ _, H_Q_2.out, hB2⟩
    case round =>
      obtain ⟨k, v, rfl, rfl, hk, ho, hQ, hb⟩ := hrel
      rename World => w7
      have hsw := hb.size
      have HQ := Lib.hid hQ
      have hql := blk_lt' hQ
      have hle := rcN_len a b c d (-1001) k
      have hsu := rcN_succ a b c d (-1001) k
      by_cases hlt : k < 2003
      · have hkc : -1001 + (k : Int) ≤ 1001 := by omega
        have hxs : -1001 + ((k + 1 : Nat) : Int) = -1001 + (k : Int) + 1 := by omega
        obtain ⟨x, hx⟩ : ∃ x : Int, -1001 + (k : Int) = x := ⟨_, rfl⟩
        rw [hx] at hkc hsu hxs ⊢
        have hx0 : -1001 ≤ x := by omega
        have T3 := fun W : World => Lib.hid (cuValue_any a b c d x 1 W b1 b2 b3 b4 (by omega) (by omega))
        have T4 := fun W : World => Lib.hid (cuValue_any a b c d (x + 1) 1 W b1 b2 b3 b4 (by omega) (by omega))
        obtain ⟨l, hl⟩ : ∃ l, rcN a b c d (-1001) k = l := ⟨_, rfl⟩
        rw [hl] at ho hle hsu
        obtain ⟨p, hp⟩ : ∃ p, cellB a b c d x = p := ⟨_, rfl⟩
        have hpv := sgn_cell (a := a) (b := b) (c := c) (d := d) (x := x)
        rw [hp] at hsu hpv
        clear hp
        generalize cuV a b c d x 1 = u at *
        generalize cuV a b c d (x + 1) 1 = z at *
        have T5 := fun W : World => Lib.hid (l1Sign_any u W)
        have T6 := fun W : World => Lib.hid (l1Sign_any z W)
        have hu : sgnV u = -1 ∨ sgnV u = 0 ∨ sgnV u = 1 := by unfold sgnV; (repeat' split) <;> omega
        have hz : sgnV z = -1 ∨ sgnV z = 0 ∨ sgnV z = 1 := by unfold sgnV; (repeat' split) <;> omega
        generalize sgnV u = su at *
        generalize sgnV z = sz at *
        have HXS := Lib.hid hxs
        have HSU := Lib.hid hsu
        replace hpv := Lib.hid hpv
        clear hl hsu hxs hx
        go_upto_region 7 with fail
        replace H_Q_2 := H_Q_2.out
        refine chk (fun W => Below w.heap.size w W ∧ W.heap[w.heap.size]? = some (.cells #[.int .i64 a, .int .i64 b, .int .i64 c, .int .i64 d] 24 (0, 0)) ∧ OwnI W (w.heap.size + 1) 3 v l) (by refine ⟨?_, ?_, ?_⟩ <;> (repeat' first | (with_reducible first | assumption | (apply Ne.symm; assumption) | apply Nat.le_refl | apply Nat.le_add_right | apply zL | apply zRf | apply Wx.box | apply Wx.box4 | apply zWa | apply Wx.drew | apply zWn | apply bx_drew | apply bx_drewN | apply bx_set3 | apply bx_set2 | apply bx_set4 | apply bx_set1) | ((with_reducible apply bx_new); (focus (go_size; done))) | (with_reducible first | apply zOl | apply zFa | apply zDn | apply zDr | apply zAl | apply zSt | refine zVi (by assumption) ?_ ?_) | go_size | omega)) ?_
        clear k_Q_2_0 k_Q_2_1 k_Q_2_2 k_Q_2_3 f_Q_2 H_Q_2
        clear hB2
        rintro w9 ⟨hB9, H_Q_9, HO9⟩
        obtain ⟨k_Q_9_0, k_Q_9_1, k_Q_9_2, k_Q_9_3, f_Q_9, l_Q_9⟩ := bk4 H_Q_9
        replace H_Q_9 := Lib.hid H_Q_9
        refine wp_drawn' (n := 10) (by kernel_rfl) (by kernel_rfl) (by kernel_rfl) ?_
        apply Exists.intro
        refine ⟨?_, ?_⟩
        · intro W hW
          try (have kx_w_0_0 := fun x => xcell hW (w.heap.size) (by go_size) x 0; simp [go_sem, *] at kx_w_0_0)
          try (have kx_w_0_1 := fun x => xcell hW (w.heap.size) (by go_size) x 1; simp [go_sem, *] at kx_w_0_1)
          try (have kx_w_0_2 := fun x => xcell hW (w.heap.size) (by go_size) x 2; simp [go_sem, *] at kx_w_0_2)
          try (have kx_w_0_3 := fun x => xcell hW (w.heap.size) (by go_size) x 3; simp [go_sem, *] at kx_w_0_3)
          try (have kx_w_0_0 := fun x => xcell hW (w.heap.size) (by go_size) x 0; simp [go_sem, *] at kx_w_0_0)
          try (have kx_w_0_1 := fun x => xcell hW (w.heap.size) (by go_size) x 1; simp [go_sem, *] at kx_w_0_1)
          try (have kx_w_0_2 := fun x => xcell hW (w.heap.size) (by go_size) x 2; simp [go_sem, *] at kx_w_0_2)
          try (have kx_w_0_3 := fun x => xcell hW (w.heap.size) (by go_size) x 3; simp [go_sem, *] at kx_w_0_3)
          simp only [List.take_succ_cons, List.take_zero]
          repeat (go_big_quiet_step ((first | (go_at_call 34; (with_reducible exact draw_of _ ((T3 _).out))) | (go_at_call 34; (with_reducible exact draw_of _ ((T4 _).out))) | (go_at_call 33; (with_reducible exact draw_of_same _ ((T5 _).out))) | (go_at_call 33; (with_reducible exact draw_of_same _ ((T6 _).out))))))
          exact wpQuiet_nil rfl
        intro w3 hb3
        simp only [List.drop_succ_cons, List.drop_zero, Act.put, List.setIfInBounds_toArray, List.set_cons_succ, List.set_cons_zero]
        have hz3 := hb3.size
        (try simp only [World.size_alloc, World.size_setCell, World.size_drew, World.size_drewN'] at hz3)
        (try (have kq := cellAt hb3 (w.heap.size) (by go_size); have k3_w_0_0 := kq 0; have k3_w_0_1 := kq 1; have k3_w_0_2 := kq 2; have k3_w_0_3 := kq 3; clear kq; have f3_w_0 := frozAt hb3 (w.heap.size) (by go_size); simp [go_sem, *] at k3_w_0_0 k3_w_0_1 k3_w_0_2 k3_w_0_3 f3_w_0))
        (try have l3_w_0 : w.heap.size < w3.heap.size := by omega)
        (try (have kq := cellAt hb3 (w.heap.size) (by go_size); have k3_w_0_0 := kq 0; have k3_w_0_1 := kq 1; have k3_w_0_2 := kq 2; have k3_w_0_3 := kq 3; clear kq; have f3_w_0 := frozAt hb3 (w.heap.size) (by go_size); simp [go_sem, *] at k3_w_0_0 k3_w_0_1 k3_w_0_2 k3_w_0_3 f3_w_0))
        (try have l3_w_0 : w.heap.size < w3.heap.size := by omega)
        (try clear k1_w_0_0 k1_w_0_1 k1_w_0_2 k1_w_0_3 f1_w_0)
        (try clear l1_w_0)
        (try clear k1_w_0_0 k1_w_0_1 k1_w_0_2 k1_w_0_3 f1_w_0)
        (try clear l1_w_0)
        (try clear k2_w_0_0 k2_w_0_1 k2_w_0_2 k2_w_0_3 f2_w_0)
        (try clear l2_w_0)
        (try clear k2_w_0_0 k2_w_0_1 k2_w_0_2 k2_w_0_3 f2_w_0)
        (try clear l2_w_0)
        go_upto_region 8 with fail
        go_cut [31] from 11 to 35 (fun sq wx => sq = .bool p ∧ wx = w3)
        case first =>
          as_aux_lemma =>
            have hpv := hpv.out
            clear T3 T4 T5 T6 HSU HXS
            rcases hu with rfl | rfl | rfl <;> rcases hz with rfl | rfl | rfl
            all_goals
              obtain rfl := hpv
              go_wp2_with fail
              go_meet
              exact ⟨by first | rfl | simp, rfl⟩
        case rest =>
          obtain ⟨rfl, hcw⟩ := hcut
          subst hcw
          have HO := Lib.hid (HO9.below hb3)
          have HQ5 := Lib.hid ((hb3.block _ l_Q_9).trans H_Q_9.out)
          have hbc := hB9.trans (hb3.mono hB9.size)
          have hs5 := hbc.size
          clear T3 T4 T5 T6 hpv hu hz
          cases p
          · go_wp2_with fail
            go_roundw
            case rel =>
              have e1 : rcN a b c d (-1001) (k + 1) = l := by rw [HSU.out]; simp
              first
              | exact ⟨k + 1, v, by rw [HXS.out], rfl, by omega, by rw [e1]; exact HO.out, HQ5.out, hbc⟩
              | ((repeat (with_reducible apply Exists.intro)); exact ⟨⟨k + 1, v, by rw [HXS.out], rfl, by omega, by rw [e1]; exact HO.out, HQ5.out, hbc⟩, rfl⟩)
            case measure => simp [intOf]; omega
          · go_wp2_with (first | (at_builtin; refine wpList_append_own_at _ rfl _ _ 31 rfl (w.heap.size + 1) 3 i0 (.int .i64 0) 1 8 Try.underlying31 hi iz0 iz1 iz2 rfl (by decide) v l.length _ rfl (HO.out.alloc _) ⟨wc.heap.size, 0, none⟩ 1 1 [_] rfl rfl (cell_one_new _ _ _) (by simp [Value.oneCell']) (by unfold maxLen; omega) (by omega) (by simp; omega) ?_; intro v1 w6 hv1 hg1 _ hat))
            go_roundw
            case rel =>
              have e1 : rcN a b c d (-1001) (k + 1) = l ++ [x] := by rw [HSU.out]; simp
              have e2 : OwnI w6 (w.heap.size + 1) 3 v1 (rcN a b c d (-1001) (k + 1)) := by
                unfold OwnI
                rw [e1, ints_append, ints_one, List.length_append]
                exact hv1
              have e3 := (hg1.block w.heap.size (by simp; omega) (fun e => by have := (HO.out.lt _ e.symm).1; omega)).trans (bx_old HQ5.out _)
              have e4 := (hbc.alloc (by omega) _).grown hg1 (by simp; omega) (fun j h => by have := (HO.out.lt _ h).1; omega)
              first
              | exact ⟨k + 1, v1, by rw [HXS.out], rfl, by omega, e2, e3, e4⟩
              | ((repeat (with_reducible apply Exists.intro)); exact ⟨⟨k + 1, v1, by rw [HXS.out], rfl, by omega, e2, e3, e4⟩, rfl⟩)
            case measure => simp [intOf]; omega
      · obtain rfl : k = 2003 := by omega
        have hke : ¬ ((1002 : Int) ≤ 1001) := by omega
        obtain ⟨a1, c1, rfl, hsx, -⟩ := Sx.of_owns ho
        go_wp2_with fail
        go_ret2
        exact ⟨a1, c1, rfl, hsx, hb⟩
end Go.Proofs.Ytldonmcbnhgbdaa
