/- The primes at which a quartic fails: the reference; FailingPrimes, IsEverywhereSoluble: both sides. -/
import Derived.Test.YtegiddpakocodaaGreatPr4
import Derived.Test.YtegiddpakocodaaGreatPr7
namespace Go.Proofs.YtegiddpakocodaaGreat
open Go.RowKit
set_option linter.unusedVariables false
set_option maxHeartbeats 4000000
set_option maxRecDepth 20000
set_option linter.unusedSimpArgs false
theorem loFailing_any (D A C : Int) (w : World) (hq : qaB D A C = true) : Calls Tryz.prog 25 #[.agg #[.int .i64 D, .int .i64 A, .int .i64 C]] w (NewJ w (flV D A C).1 (flV D A C).2) := by
  obtain ⟨i0, hi, iz0, iz1, iz2⟩ := info_parts infoI
  have TB := fun W : World => Lib.hid (loBad_any D A C W hq)
  unfold NewX' at TB
  have hll := bdL_len (qaB_bd hq)
  have h2 := bdL_two D A C
  have hne := bdL_ne D A C
  unfold flV
  by_cases h0 : dsc D A C = 0
  · rw [if_pos h0]
    simp only [h0, if_true, ne_eq, not_true_eq_false, decide_false] at TB
    clear h0 h2 hne hll
    have tok1 : True := trivial
    have tok2 : True := trivial
    go_enter Tryz.func25, Tryz.ntmps25
    go_upto_region 1 with fail
    refine chk (fun W => Below w.heap.size w W ∧ W.heap[w.heap.size]? = some (.cells #[.int .i64 D, .int .i64 A, .int .i64 C] 24 (0, 0))) (by refine ⟨?_, ?_⟩ <;> (repeat' first | (with_reducible first | assumption | (apply Ne.symm; assumption) | apply Nat.le_refl | apply Nat.le_add_right | apply zL | apply zRf | apply Wx.box | apply Wx.box4 | apply zWa | apply Wx.drew | apply zWn | apply bx_drew | apply bx_drewN | apply bx_set3 | apply bx_set2 | apply bx_set4 | apply bx_set1) | ((with_reducible apply bx_new); (focus (go_size; done))) | (with_reducible first | apply zOl | apply zFa | apply zDn | apply zDr | apply zAl | apply zSt | refine zVi (by assumption) ?_ ?_) | go_size | omega)) ?_
    rintro w1 ⟨hB1, H_Q_1⟩
    obtain ⟨k_Q_1_0, k_Q_1_1, k_Q_1_2, f_Q_1, l_Q_1⟩ := bk3 H_Q_1
    replace H_Q_1 := Lib.hid H_Q_1
    go_wp2_with (first | (have _t := tok2; go_at_call 27; (with_reducible refine ((TB _).out).mono ?_); rintro e w2 ⟨a, n, c, rfl, hx, hb2⟩; clear tok2 _t; have hz2 := hb2.size; (try simp only [World.size_alloc, World.size_setCell, World.size_drew, World.size_drewN'] at hz2)))
    go_ret2
    exact ⟨_, w.heap.size, rfl, ownI_nil _ _ _, Nat.le_refl _, below_via hb2 hB1 (by go_size)⟩
  · rw [if_neg h0]
    simp only [h0, if_false, ne_eq, not_false_eq_true, decide_true] at TB
    obtain ⟨L, hL⟩ : ∃ L, bdL D A C = L := ⟨_, rfl⟩
    rw [hL] at TB h2 hne hll ⊢
    clear h0 hL
    have hlp : 0 < L.length := List.length_pos_iff.2 hne
    · have H2 := Lib.hid h2
      obtain ⟨R, hR⟩ : ∃ R, flF D A C L [] = R := ⟨_, rfl⟩
      rw [hR]
      have HR := Lib.hid hR
      clear h2 hR
      have tok1 : True := trivial
      have tok2 : True := trivial
      have tok3 : True := trivial
      have tok4 : True := trivial
      have tok5 : True := trivial
      have tok6 : True := trivial
      have tok7 : True := trivial
      have tok8 : True := trivial
      go_enter Tryz.func25, Tryz.ntmps25
      go_upto_region 1 with fail
      refine chk (fun W => Below w.heap.size w W ∧ W.heap[w.heap.size]? = some (.cells #[.int .i64 D, .int .i64 A, .int .i64 C] 24 (0, 0))) (by refine ⟨?_, ?_⟩ <;> (repeat' first | (with_reducible first | assumption | (apply Ne.symm; assumption) | apply Nat.le_refl | apply Nat.le_add_right | apply zL | apply zRf | apply Wx.box | apply Wx.box4 | apply zWa | apply Wx.drew | apply zWn | apply bx_drew | apply bx_drewN | apply bx_set3 | apply bx_set2 | apply bx_set4 | apply bx_set1) | ((with_reducible apply bx_new); (focus (go_size; done))) | (with_reducible first | apply zOl | apply zFa | apply zDn | apply zDr | apply zAl | apply zSt | refine zVi (by assumption) ?_ ?_) | go_size | omega)) ?_
      rintro w1 ⟨hB1, H_Q_1⟩
      obtain ⟨k_Q_1_0, k_Q_1_1, k_Q_1_2, f_Q_1, l_Q_1⟩ := bk3 H_Q_1
      replace H_Q_1 := Lib.hid H_Q_1
      go_upto_region 2 with (first | (have _t := tok2; go_at_call 27; (with_reducible refine ((TB _).out).mono ?_); rintro e w2 ⟨a, n, c, rfl, hx, hb2⟩; clear tok2 _t; have hz2 := hb2.size; (try simp only [World.size_alloc, World.size_setCell, World.size_drew, World.size_drewN'] at hz2)))
      have H_Q_2 := (hb2.block (w.heap.size) (blk_lt' H_Q_1.out)).trans H_Q_1.out
      clear k_Q_1_0 k_Q_1_1 k_Q_1_2 f_Q_1 H_Q_1
      obtain ⟨k_Q_2_0, k_Q_2_1, k_Q_2_2, f_Q_2, l_Q_2⟩ := bk3 H_Q_2
      replace H_Q_2 := Lib.hid H_Q_2
      have hB2 : Below w.heap.size w w2 := below_via hb2 (by assumption) (by first | exact hB1.size | go_size)
      have hw2 := hB2.size
      have hxn := hx.at (by have := hx.len; omega)
      obtain ⟨b, off, rfl, hbb, hcs⟩ := hxn
      have hn := hx.len
      subst hn
      have HCS := Lib.hid hcs
      clear hcs hx
      go_wp2_with fail
      go_loopw [6, 20] (fun ov iv wr => FgRel w w2 D A C L R ov iv wr) (fun _ iv _ => (L.length - intOf iv).toNat)
      case atStart => exact ⟨0, [], _, rfl, rfl, by omega, by simp, by simpa using HR.out, ownI_nil _ _ _, H_Q_2.out, hB2, Below.refl _ _⟩
      case round =>
        obtain ⟨k, out, v, rfl, rfl, hk, hol, hres, ho, hQ, hbw, hb2w⟩ := hrel
        have hsw := hbw.size
        have HO := Lib.hid ho
        clear ho
        by_cases hlt : k < L.length
        · have hltc : (k : Int) < (L.length : Int) := by omega
          have hmem : (L[k]?.getD 0) ∈ L := by rw [List.getElem?_eq_getElem hlt]; simp
          have hx2 := H2.out _ hmem
          have c1 := (hb2w.cell (p := ⟨b, off + k, none⟩) hbb).trans (HCS.out k hlt)
          rw [drop_at hlt] at hres
          obtain ⟨x, hxe⟩ : ∃ x, L[k]?.getD 0 = x := ⟨_, rfl⟩
          rw [hxe] at hres hx2 c1
          clear hmem hxe
          unfold flF at hres
          by_cases hx9 : 997 < x
          · rw [if_pos hx9] at hres
            subst hres
            clear hQ
            go_wp2_with fail
            go_ret2
            exact ⟨_, w.heap.size, rfl, ownI_nil _ _ _, Nat.le_refl _, hbw⟩
          have TS := fun W : World => Lib.hid (loSolves_any D A C x W hx2 (by omega))
          rw [if_neg hx9] at hres
          obtain ⟨⟨s1, s2⟩, hsl⟩ : ∃ s, slV D A C x = s := ⟨_, rfl⟩
          rw [hsl] at hres TS
          clear hsl
          dsimp only at hres TS
          go_upto_region 10 with fail
          replace H_Q_2 := H_Q_2.out
          refine chk (fun W => Below w.heap.size w W ∧ W.heap[w.heap.size]? = some (.cells #[.int .i64 D, .int .i64 A, .int .i64 C] 24 (0, 0)) ∧ wr = W) (by refine ⟨?_, ?_, ?_⟩ <;> (repeat' first | (with_reducible first | assumption | (apply Ne.symm; assumption) | apply Nat.le_refl | apply Nat.le_add_right | apply zL | apply zRf | apply Wx.box | apply Wx.box4 | apply zWa | apply Wx.drew | apply zWn | apply bx_drew | apply bx_drewN | apply bx_set3 | apply bx_set2 | apply bx_set4 | apply bx_set1) | ((with_reducible apply bx_new); (focus (go_size; done))) | (with_reducible first | apply zOl | apply zFa | apply zDn | apply zDr | apply zAl | apply zSt | refine zVi (by assumption) ?_ ?_) | go_size | omega)) ?_
          clear k_Q_2_0 k_Q_2_1 k_Q_2_2 f_Q_2 H_Q_2
          clear hB2
          rintro w3 ⟨hB3, H_Q_3, HE⟩
          obtain ⟨k_Q_3_0, k_Q_3_1, k_Q_3_2, f_Q_3, l_Q_3⟩ := bk3 H_Q_3
          replace H_Q_3 := Lib.hid H_Q_3
          subst HE
          clear hQ c1
          cases s2
          · simp only [if_true] at hres
            subst hres
            go_upto_region 11 with (first | (have _t := tok4; go_at_call 50; (with_reducible refine ((TS _).out).mono ?_); rintro e w4 ⟨rfl, hb4⟩; clear tok4 _t; have hz4 := hb4.size; (try simp only [World.size_alloc, World.size_setCell, World.size_drew, World.size_drewN'] at hz4)))
            have H_Q_4 := (hb4.block (w.heap.size) (blk_lt' H_Q_3.out)).trans H_Q_3.out
            clear k_Q_3_0 k_Q_3_1 k_Q_3_2 f_Q_3 H_Q_3
            obtain ⟨k_Q_4_0, k_Q_4_1, k_Q_4_2, f_Q_4, l_Q_4⟩ := bk3 H_Q_4
            replace H_Q_4 := Lib.hid H_Q_4
            have hB4 : Below w.heap.size w w4 := below_via hb4 (by assumption) (by first | exact hB3.size | go_size)
            go_wp2_with fail
            go_ret2
            exact ⟨_, w.heap.size, rfl, ownI_nil _ _ _, Nat.le_refl _, hB4⟩
          · simp only [Bool.true_eq_false, if_false] at hres
            have HRS := Lib.hid hres
            clear hres
            cases s1
            · have _t := trivial
              go_upto_region 14 with (first | (have _t := tok4; go_at_call 50; (with_reducible refine ((TS _).out).mono ?_); rintro e w4 ⟨rfl, hb4⟩; clear tok4 _t; have hz4 := hb4.size; (try simp only [World.size_alloc, World.size_setCell, World.size_drew, World.size_drewN'] at hz4)))
              have H_Q_4 := (hb4.block (w.heap.size) (blk_lt' H_Q_3.out)).trans H_Q_3.out
              clear k_Q_3_0 k_Q_3_1 k_Q_3_2 f_Q_3 H_Q_3
              obtain ⟨k_Q_4_0, k_Q_4_1, k_Q_4_2, f_Q_4, l_Q_4⟩ := bk3 H_Q_4
              replace H_Q_4 := Lib.hid H_Q_4
              have hB4 : Below w.heap.size w w4 := below_via hb4 (by assumption) (by first | exact hB3.size | go_size)
              replace H_Q_4 := H_Q_4.out
              refine chk (fun W => Below w.heap.size w W ∧ W.heap[w.heap.size]? = some (.cells #[.int .i64 D, .int .i64 A, .int .i64 C] 24 (0, 0)) ∧ Below wr.heap.size wr W) (by refine ⟨?_, ?_, ?_⟩ <;> (repeat' first | (with_reducible first | assumption | (apply Ne.symm; assumption) | apply Nat.le_refl | apply Nat.le_add_right | apply zL | apply zRf | apply Wx.box | apply Wx.box4 | apply zWa | apply Wx.drew | apply zWn | apply bx_drew | apply bx_drewN | apply bx_set3 | apply bx_set2 | apply bx_set4 | apply bx_set1) | ((with_reducible apply bx_new); (focus (go_size; done))) | (with_reducible first | apply zOl | apply zFa | apply zDn | apply zDr | apply zAl | apply zSt | refine zVi (by assumption) ?_ ?_) | go_size | omega)) ?_
              clear k_Q_4_0 k_Q_4_1 k_Q_4_2 f_Q_4 H_Q_4
              clear hB4
              rintro w5 ⟨hB5, H_Q_5, hbr⟩
              obtain ⟨k_Q_5_0, k_Q_5_1, k_Q_5_2, f_Q_5, l_Q_5⟩ := bk3 H_Q_5
              replace H_Q_5 := Lib.hid H_Q_5
              have hs5 := hbr.size
              have HO4 := Lib.hid (HO.out.below hbr)
              have q1 := H_Q_5.out
              have hb25 := hb2w.trans (hbr.mono hb2w.size)
              have hs25 := hb25.size
              go_wp2_with (first | (at_builtin; refine wpList_append_own_at _ rfl _ _ 26 rfl w2.heap.size 3 i0 (.int .i64 0) 1 8 Tryz.underlying26 hi iz0 iz1 iz2 rfl (by decide) v out.length _ rfl (HO4.out.alloc _) ⟨w5.heap.size, 0, none⟩ 1 1 [_] rfl rfl (cell_one_new _ _ _) (by simp [Value.oneCell']) (by unfold maxLen; omega) (by omega) (by simp; omega) ?_; intro v1 w6 hv1 hg1 _ hat))
              go_roundw
              case rel =>
                refine ⟨k + 1, out ++ [x], v1, by go_num, rfl, by omega, by simp; omega, by have := HRS.out; simpa using this, ?_, ?_, ?_, ?_⟩
                · unfold OwnI
                  rw [ints_append, ints_one, List.length_append]
                  exact hv1
                · have h5 : (w5.alloc (.cells #[.int .i64 x] 3 (0, 0))).heap[w.heap.size]? = some (.cells #[.int .i64 D, .int .i64 A, .int .i64 C] 24 (0, 0)) := bx_old q1 _
                  exact (hg1.block _ (blk_lt' h5) (row_type4 HO4.out q1 (by decide))).trans h5
                · exact (hB5.alloc (by have := hB5.size; omega) _).grown hg1 (by simp; have := hB5.size; omega) (fun j h => by have := (HO4.out.lt _ h).1; omega)
                · exact (hb25.alloc (by have := hb25.size; omega) _).grown hg1 (by simp; have := hb25.size; omega) (fun j h => (HO4.out.lt _ h).1)
              case measure => simp [intOf]; omega
            · have _t := trivial
              go_upto_region 15 with (first | (have _t := tok4; go_at_call 50; (with_reducible refine ((TS _).out).mono ?_); rintro e w4 ⟨rfl, hb4⟩; clear tok4 _t; have hz4 := hb4.size; (try simp only [World.size_alloc, World.size_setCell, World.size_drew, World.size_drewN'] at hz4)))
              have H_Q_4 := (hb4.block (w.heap.size) (blk_lt' H_Q_3.out)).trans H_Q_3.out
              clear k_Q_3_0 k_Q_3_1 k_Q_3_2 f_Q_3 H_Q_3
              obtain ⟨k_Q_4_0, k_Q_4_1, k_Q_4_2, f_Q_4, l_Q_4⟩ := bk3 H_Q_4
              replace H_Q_4 := Lib.hid H_Q_4
              have hB4 : Below w.heap.size w w4 := below_via hb4 (by assumption) (by first | exact hB3.size | go_size)
              have q1 := H_Q_4.out
              have hb24 := hb2w.trans (hb4.mono hb2w.size)
              go_wp2_with fail
              go_roundw
              case rel => exact ⟨k + 1, out, v, by go_num, rfl, by omega, by omega, by have := HRS.out; simpa using this, HO.out.below hb4, q1, hB4, hb24⟩
              case measure => simp [intOf]; omega
        · obtain rfl : k = L.length := by omega
          rw [List.drop_length] at hres
          unfold flF at hres
          subst hres
          go_wp2_with fail
          go_ret2
          exact ⟨_, w2.heap.size, rfl, HO.out, hw2, hbw⟩
end Go.Proofs.YtegiddpakocodaaGreat
