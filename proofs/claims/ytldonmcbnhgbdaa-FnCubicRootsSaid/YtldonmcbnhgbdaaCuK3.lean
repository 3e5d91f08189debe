/- The rational roots of a cubic: the reference, with two coefficients 0. -/
import Derived.Test.YtldonmcbnhgbdaaCuK
namespace Go.Proofs.Ytldonmcbnhgbdaa
open Go.RowKit
set_option linter.unusedVariables false
set_option maxHeartbeats 4000000
set_option maxRecDepth 20000
set_option linter.unusedSimpArgs false
theorem cuRoots_b (a b c d : Int) (w : World) (hcu : cuB a b c d = true) (hd0 : d = 0) (hc0 : c = 0) : Calls Try.prog 28 #[.agg #[.int .i64 a, .int .i64 b, .int .i64 c, .int .i64 d]] w fun r w' => ∃ v, r = .returned v ∧ SlR w' w.heap.size v (spL a b c d) ∧ Below w.heap.size w w' := by
  obtain ⟨i0, hi, iz0, iz1, iz2⟩ := info_parts infoFr
  obtain ⟨h0, ha, hb, hc, hd⟩ := cuB_bd hcu
  have H0 := Lib.hid h0
  clear hcu h0
  have hdd : (d == 0) = true := by simpa using hd0
  have HD0 := Lib.hid hd0
  clear hd0
  have hcc : (c == 0) = true := by simpa using hc0
  have HC0 := Lib.hid hc0
  clear hc0
  have tok1 : True := trivial
  have tok2 : True := trivial
  have tok3 : True := trivial
  have tok4 : True := trivial
  have tok5 : True := trivial
  have tok6 : True := trivial
  have tok7 : True := trivial
  have tok8 : True := trivial
  have tok9 : True := trivial
  go_enter Try.func28, Try.ntmps28
  go_upto_region 3 with fail
  refine chk (fun W => Below w.heap.size w W ∧ W.heap[w.heap.size]? = some (.cells #[.int .i64 a, .int .i64 b, .int .i64 c, .int .i64 d] 24 (0, 0))) (by refine ⟨?_, ?_⟩ <;> (repeat' first | (with_reducible first | assumption | (apply Ne.symm; assumption) | apply Nat.le_refl | apply Nat.le_add_right | apply zL | apply zRf | apply Wx.box | apply Wx.box4 | apply zWa | apply Wx.drew | apply zWn | apply bx_drew | apply bx_drewN | apply bx_set3 | apply bx_set2 | apply bx_set4 | apply bx_set1) | ((with_reducible apply bx_new); (focus (go_size; done))) | (with_reducible first | apply zOl | apply zFa | apply zDn | apply zDr | apply zAl | apply zSt | refine zVi (by assumption) ?_ ?_) | go_size | omega)) ?_
  rintro w1 ⟨hB1, H_Q_1⟩
  obtain ⟨k_Q_1_0, k_Q_1_1, k_Q_1_2, k_Q_1_3, f_Q_1, l_Q_1⟩ := bk4 H_Q_1
  replace H_Q_1 := Lib.hid H_Q_1
  have hs1 := hB1.size
  have HQ := Lib.hid H_Q_1.out
  go_upto_region 5 with (first | (have _t := tok9; go_at_call 51; (with_reducible refine ((frInt_any _ _)).mono ?_); rintro e w9 ⟨rfl, hb9⟩; clear tok9 _t; have hz9 := hb9.size; (try simp only [World.size_alloc, World.size_setCell, World.size_drew, World.size_drewN'] at hz9)) | (at_builtin; refine wpList_append_own_at _ rfl _ _ 26 rfl w.heap.size 37 i0 (.agg #[.int .i64 0, .int .i64 0]) 2 16 Try.underlying26 hi iz0 iz1 iz2 rfl (by decide) (.slice none 0 0) 0 [] rfl (World.ownsRow_nil _ _ _ _) ⟨w9.heap.size, 0, none⟩ 1 1 [_, _] rfl rfl (cells2_new _ _ _ _) (by simp [Value.oneCell']) (by unfold maxLen; omega) (by omega) (by simp; omega) ?_; intro v1 w6 hv1 hg1 _ hat))
  have hs9 := hb9.size
  have ho6 : SlR w6 w.heap.size v1 (spB d) := by
    refine OwnR.sl ?_
    unfold spB OwnR; rw [if_pos HD0.out]; exact hv1
  have hb16 : Below w.heap.size w w6 := (Below.alloc (below_via hb9 hB1 hs1) (by omega) _).grown hg1 (by simp; omega) (fun j h => by simp [Value.ownBlock] at h)
  have hQ6 : w6.heap[w.heap.size]? = some (.cells #[.int .i64 a, .int .i64 b, .int .i64 c, .int .i64 d] 24 (0, 0)) := (hg1.block _ (by simp; have := blk_lt' HQ.out; omega) (by simp [Value.ownBlock])).trans (bx_old (keepR hb9 HQ.out) _)
  have HO6 := Lib.hid ho6
  clear ho6 hv1 hg1 hat
  replace H_Q_1 := H_Q_1.out
  refine chk (fun W => Below w.heap.size w W ∧ W.heap[w.heap.size]? = some (.cells #[.int .i64 a, .int .i64 b, .int .i64 c, .int .i64 d] 24 (0, 0)) ∧ w6 = W) (by refine ⟨?_, ?_, ?_⟩ <;> (repeat' first | (with_reducible first | assumption | (apply Ne.symm; assumption) | apply Nat.le_refl | apply Nat.le_add_right | apply zL | apply zRf | apply Wx.box | apply Wx.box4 | apply zWa | apply Wx.drew | apply zWn | apply bx_drew | apply bx_drewN | apply bx_set3 | apply bx_set2 | apply bx_set4 | apply bx_set1) | ((with_reducible apply bx_new); (focus (go_size; done))) | (with_reducible first | apply zOl | apply zFa | apply zDn | apply zDr | apply zAl | apply zSt | refine zVi (by assumption) ?_ ?_) | go_size | omega)) ?_
  clear k_Q_1_0 k_Q_1_1 k_Q_1_2 k_Q_1_3 f_Q_1 H_Q_1
  clear hB1
  rintro w2 ⟨hB2, H_Q_2, HE⟩
  obtain ⟨k_Q_2_0, k_Q_2_1, k_Q_2_2, k_Q_2_3, f_Q_2, l_Q_2⟩ := bk4 H_Q_2
  replace H_Q_2 := Lib.hid H_Q_2
  subst HE
  have HQ6 := Lib.hid hQ6
  clear hQ6 hb16
  have HB6 := Lib.hid hB2
  have hs6 := hB2.size
  have HST0 := Lib.hid (show CrIn w a b c d v1 (spB d) 1 w6 from ⟨HO6.out, RoL.base a b c d, by unfold spB; rw [if_pos HD0.out]; simp, HQ6.out, HB6.out⟩)
  clear HO6
  by_cases hb0 : b = 0
  · have hbb : (b == 0) = true := by simpa using hb0
    have HX := Lib.hid (show spL a b c d = spB d by unfold spL; rw [if_pos (by unfold laV; rw [if_neg (fun q => q HD0.out), if_neg (fun q => q HC0.out)]; exact hb0)])
    clear hb0
    go_wp2_with fail
    go_ret
    exact ⟨_, rfl, by rw [HX.out]; exact HST0.out.1, HB6.out⟩
  · have hbb : (b == 0) = false := by simpa using hb0
    have HL0 := Lib.hid hb0
    have HL := Lib.hid (show laV b c d = b by unfold laV; rw [if_neg (fun q => q HD0.out), if_neg (fun q => q HC0.out)])
    clear hb0
    go_upto_region 10 with fail
    obtain ⟨N, hN⟩ : ∃ N, Int.natAbs b = N := ⟨_, rfl⟩
    obtain ⟨M, hM⟩ : ∃ M, Int.natAbs a = M := ⟨_, rfl⟩
    have hN1 : 1 ≤ N ∧ N ≤ 1000 := by have := HL0.out; omega
    have hM1 : 1 ≤ M ∧ M ≤ 1000 := by have := H0.out; omega
    have TA1 := fun W : World => Lib.hid (l1Abs_any b W (by omega) (by omega))
    rw [absN, hN] at TA1
    have TA2 := fun W : World => Lib.hid (l1Abs_any a W (by omega) (by omega))
    rw [absN, hM] at TA2
    have TD1 := fun W : World => Lib.hid (cuDivisors_any N W (by omega))
    have TD2 := fun W : World => Lib.hid (cuDivisors_any M W (by omega))
    have hD1l := cdV_len N N
    have hD2l := cdV_len M M
    have HD2P := Lib.hid (fun e (he : e ∈ cdV M M) => (cdV_mem.1 he))
    have HD1P := Lib.hid (fun e (he : e ∈ cdV N N) => (cdV_mem.1 he))
    have hD1n := cdV_ne hN1.1
    have hD2n := cdV_ne hM1.1
    have HSL := Lib.hid (show spL a b c d = (cdV N N).foldl (spN a b c d (cdV M M)) (spB d) by unfold spL; rw [HL.out, if_neg HL0.out, hN, hM])
    have HE := Lib.hid (fun e (he : e ∈ cdV M M) => (cdV_mem.1 he).1)
    obtain ⟨D1, hD1⟩ : ∃ D, cdV N N = D := ⟨_, rfl⟩
    obtain ⟨D2, hD2⟩ : ∃ D, cdV M M = D := ⟨_, rfl⟩
    rw [hD1] at hD1l hD1n HSL TD1 HD1P
    rw [hD2] at hD2l hD2n HSL TD2 HD2P HE
    have HDN := Lib.hid (And.intro hD1n hD2n)
    clear hN hM hD1 hD2 hD1n hD2n
    go_wp2_with (first | (go_at_call 43; (with_reducible refine ((TA1 _).out).mono ?_); rintro e w' ⟨rfl, rfl⟩) | (have _t := tok2; go_at_call 52; (with_reducible refine ((TD1 _).out).mono ?_); rintro e w2 ⟨v1, rfl, ho1, hb2⟩; clear tok2 _t; have hz2 := hb2.size; (try simp only [World.size_alloc, World.size_setCell, World.size_drew, World.size_drewN'] at hz2); obtain ⟨g1, c1, rfl, hc1, hm1, hr1⟩ := ownI_row ho1 HDN.out.1; unfold maxLen at hm1))
    have hs2 := hb2.size
    have HST1 := Lib.hid (CrIn.via HST0.out hb2)
    have HR1 := Lib.hid hr1
    clear HST0 ho1 hr1 TA1 TD1
    go_loopw [3, 34] (fun ov iv wr => C1Rel w a b c d g1 D1 D2 (spB d) ov iv wr) (fun _ iv _ => (D1.length - intOf iv).toNat)
    case atStart => exact ⟨0, _, rfl, rfl, by omega, HR1.out, HST1.out⟩
    case round =>
      obtain ⟨i, v, rfl, rfl, hi1, hr1, ho1, hrl1, hln1, hQ1, hb1w⟩ := hrel
      have hs1 := hb1w.size
      have HCR1 := Lib.hid (show CrIn w a b c d v ((D1.take i).foldl (spN a b c d D2) (spB d)) (1 + i * 2000) wr from ⟨ho1, hrl1, hln1, hQ1, hb1w⟩)
      have q0 : wr.cell? ⟨w.heap.size, 0, none⟩ = some (.int .i64 a) := blk_cell hQ1 0
      have lq := blk_lt' hQ1
      have hgl1 := hr1.1
      have HRR1 := Lib.hid hr1
      clear ho1 hrl1 hln1 hQ1
      by_cases hil : i < D1.length
      · have hilc : (i : Int) < (D1.length : Int) := by omega
        have c0 := hr1.2 i hil
        obtain ⟨n1, hn1⟩ : ∃ n1, D1[i]?.getD 0 = n1 := ⟨_, rfl⟩
        have hnb := HD1P.out n1 (by rw [← hn1]; exact getD_mem hil)
        have HTK := Lib.hid (by have := take_foldl (spN a b c d D2) D1 (spB d) hil; rw [hn1] at this; exact this)
        rw [hn1] at c0
        obtain ⟨l1, hl1⟩ : ∃ l1, (D1.take i).foldl (spN a b c d D2) (spB d) = l1 := ⟨_, rfl⟩
        rw [hl1] at HCR1 HTK
        have hi1000 : i < 1000 := by omega
        clear hl1 hn1 hr1
        go_wp2_with (first | (go_at_call 43; (with_reducible refine ((TA2 _).out).mono ?_); rintro e w' ⟨rfl, rfl⟩) | (have _t := tok3; go_at_call 52; (with_reducible refine ((TD2 _).out).mono ?_); rintro e w3 ⟨v2, rfl, ho2, hb3⟩; clear tok3 _t; have hz3 := hb3.size; (try simp only [World.size_alloc, World.size_setCell, World.size_drew, World.size_drewN'] at hz3); obtain ⟨g2, c2, rfl, hc2, hm2, hr2⟩ := ownI_row ho2 HDN.out.2; unfold maxLen at hm2))
        have hs3 := hb3.size
        have HRR13 := Lib.hid (HRR1.out.via hb3)
        have HCR13 := Lib.hid (CrIn.via HCR1.out hb3)
        have HR2 := Lib.hid hr2
        clear HRR1 HCR1 ho2 hr2 q0 c0 TA2 TD2 hb3
        go_loopw [3, 43] (fun ov jv wr => C2Rel w a b c d n1 g1 g2 D1 D2 l1 (1 + i * 2000) ov jv wr) (fun _ jv _ => (D2.length - intOf jv).toNat)
        case atStart => exact ⟨0, v, rfl, rfl, by omega, HRR13.out, HR2.out, HCR13.out⟩
        case round =>
          obtain ⟨j, v, rfl, rfl, hj1, hr1, hr2, ho2, hrl2, hln2, hQ2, hb2w⟩ := hrel
          have hs2' := hb2w.size
          have HCR2 := Lib.hid (show CrIn w a b c d v ((D2.take j).foldl (spE a b c d n1) l1) (1 + i * 2000 + 2 * j) wr from ⟨ho2, hrl2, hln2, hQ2, hb2w⟩)
          have HRR1 := Lib.hid hr1
          have HRR2 := Lib.hid hr2
          have lq2 := blk_lt' hQ2
          clear ho2 hrl2 hln2 hQ2 hr1
          by_cases hjl : j < D2.length
          · have hjlc : (j : Int) < (D2.length : Int) := by omega
            have d0 := hr2.2 j hjl
            have hgl2 := hr2.1
            obtain ⟨e1, he1⟩ : ∃ e1, D2[j]?.getD 0 = e1 := ⟨_, rfl⟩
            have heb := HD2P.out e1 (by rw [← he1]; exact getD_mem hjl)
            have HTK2 := Lib.hid (by have := take_foldl (spE a b c d n1) D2 l1 hjl; rw [he1] at this; exact this)
            rw [he1] at d0
            obtain ⟨l2, hl2⟩ : ∃ l2, (D2.take j).foldl (spE a b c d n1) l1 = l2 := ⟨_, rfl⟩
            rw [hl2] at HCR2 HTK2
            have hj1000 : j < 1000 := by omega
            obtain ⟨wz, hwz⟩ : ∃ wz, wz = wr := ⟨_, rfl⟩
            subst hwz
            have hln2 := HCR2.out.2.2.1
            clear hl2 he1 hr2
            go_wp2_with fail
            go_loopw [3, 52] (fun ov tv W => C3Rel w a b c d n1 e1 g1 g2 wz.heap.size D1 D2 l2 (1 + i * 2000 + 2 * j) ov tv W) (fun _ tv _ => (2 - intOf tv).toNat)
            case atStart => exact ⟨0, v, rfl, rfl, by omega, HRR1.out.via ((Below.refl _ _).alloc (Nat.le_refl _) _), HRR2.out.via ((Below.refl _ _).alloc (Nat.le_refl _) _), heap_alloc_new _ _, CrIn.more (CrIn.via HCR2.out ((Below.refl _ _).alloc (Nat.le_refl _) _)) (by omega)⟩
            case round =>
              obtain ⟨t, v, rfl, rfl, ht, hr1, hr2, hR4, ho4, hrl4, hln4, hQ4, hb4w⟩ := hrel
              have hs4 := hb4w.size
              by_cases htl : t < 2
              · have htc : (t : Int) < 2 := by omega
                have hst := spX_step a b c d n1 e1 l2 htl
                have hle := spX_len a b c d n1 e1 l2 (t + 1)
                obtain ⟨x, hx⟩ : ∃ x, spY n1 t = x := ⟨_, rfl⟩
                have c0 : wr.cell? ⟨wz.heap.size, t, none⟩ = some (.int .i64 x) := by
                  have hcc := blk_cell hR4
                  rw [← hx]
                  rcases (show t = 0 ∨ t = 1 by omega) with rfl | rfl
                  · exact hcc 0
                  · exact hcc 1
                have hxb : -1000 ≤ x ∧ x ≤ 1000 := by rw [← hx]; unfold spY; split <;> omega
                have p0 : wr.cell? ⟨w.heap.size, 0, none⟩ = some (.int .i64 a) := blk_cell hQ4 0
                have p1 : wr.cell? ⟨w.heap.size, 1, none⟩ = some (.int .i64 b) := blk_cell hQ4 1
                have p2 : wr.cell? ⟨w.heap.size, 2, none⟩ = some (.int .i64 c) := blk_cell hQ4 2
                have p3 : wr.cell? ⟨w.heap.size, 3, none⟩ = some (.int .i64 d) := blk_cell hQ4 3
                have hlr := blk_lt' hR4
                have hlq := blk_lt' hQ4
                have TV := fun W : World => Lib.hid (cuValue_any a b c d x e1 W ha hb hc hd (by omega) (by omega))
                rw [hx] at hst
                have hro := hrl4.put (n := x) (e := e1) heb.1
                rw [← hst] at hro
                rw [hst] at hle
                have hst1 := hst
                unfold spP at hst1
                have hmk := mkF_red (n := x) (e := e1) heb.1 hxb (by omega)
                have hrt := fun hz => redF_root (a := a) (b := b) (c := c) (d := d) (n := x) (e := e1) heb.1 hz
                obtain ⟨z, hz⟩ : ∃ z, cuV a b c d x e1 = z := ⟨_, rfl⟩
                rw [hz] at TV hst1
                obtain ⟨l3, hl3⟩ : ∃ l3, spX a b c d n1 e1 l2 t = l3 := ⟨_, rfl⟩
                rw [hl3] at hst1 ho4 hln4 hrl4
                rw [← hst] at hle
                have HRO := Lib.hid hro
                have HLE := Lib.hid hle
                have HO4 := Lib.hid ho4
                have HRL := Lib.hid hrl4
                have HQ4 := Lib.hid hQ4
                have HR4 := Lib.hid hR4
                have HRR1 := Lib.hid hr1
                have HRR2 := Lib.hid hr2
                clear hst hx hl3 ho4 hrl4 hQ4 hR4 hr1 hr2 hro hle
                by_cases hz0 : z = 0
                · rw [if_pos hz0] at hst1
                  have hrt := hrt (by rw [hz]; exact hz0)
                  have hfx := rt_fx ha hb hc hd H0.out hrt
                  obtain ⟨⟨n5, e5⟩, hre⟩ : ∃ y, redF x e1 = y := ⟨_, rfl⟩
                  rw [hre] at hst1 hfx hmk
                  simp only at hfx hmk
                  have TM := fun W : World => Lib.hid (frMake_any x e1 W (by omega) (by omega) (by omega) (by omega) (by omega))
                  rw [hmk] at TM
                  have HST := Lib.hid hst1
                  have hzz : (z == 0) = true := by simpa using hz0
                  have hfs : FrS (n5, e5) := by unfold FrS; simp only; omega
                  have HFS := Lib.hid (fun y (hy : y ∈ l3) => (show FrS y by have := rt_fx ha hb hc hd H0.out (HRL.out.all y hy); unfold FrS; omega))
                  clear hst1 hrt hz hre hmk hz0 hfx
                  go_upto_region 20 with (first | (have _t := tok4; go_at_call 34; (with_reducible refine ((TV _).out).mono ?_); rintro e w4 ⟨rfl, hb4⟩; clear tok4 _t; have hz4 := hb4.size; (try simp only [World.size_alloc, World.size_setCell, World.size_drew, World.size_drewN'] at hz4)))
                  have HRR14 := Lib.hid (HRR1.out.via hb4)
                  have HRR24 := Lib.hid (HRR2.out.via hb4)
                  have HQ44 := Lib.hid (keepR hb4 HQ4.out)
                  have HR44 := Lib.hid (keepR hb4 HR4.out)
                  have HO44 := Lib.hid (HO4.out.via hb4)
                  have hb44w := hb4w.trans (hb4.mono hs4)
                  have hs44 := hb44w.size
                  clear HRR1 HRR2 HQ4 HR4 HO4 p0 p1 p2 p3 c0 TV hb4w hb4
                  go_upto_region 21 with (first | (have _t := tok5; go_at_call 53; (with_reducible refine ((TM _).out).mono ?_); rintro e w5 ⟨rfl, hb5⟩; clear tok5 _t; have hz5 := hb5.size; (try simp only [World.size_alloc, World.size_setCell, World.size_drew, World.size_drewN'] at hz5)))
                  have HRR15 := Lib.hid (HRR14.out.via hb5)
                  have HRR25 := Lib.hid (HRR24.out.via hb5)
                  have HQ45 := Lib.hid (keepR hb5 HQ44.out)
                  have HR45 := Lib.hid (keepR hb5 HR44.out)
                  have HO45 := Lib.hid (HO44.out.via hb5)
                  have hb45w := hb44w.trans (hb5.mono hs44)
                  have hs45 := hb45w.size
                  have TP := fun (W : World) (hW : Below w5.heap.size w5 W) => Lib.hid (cuPut_any v w.heap.size l3 n5 e5 W (HO45.out.via hW) (Nat.le_trans hs45 hW.size) HFS.out hfs (by omega))
                  clear HRR14 HRR24 HQ44 HR44 HO44 TM hb44w hb5
                  go_wp2_with (first | (have _t := tok6; go_at_call 54; (with_reducible refine ((TP _ (by repeat' first | (with_reducible first | apply zRf | assumption | apply zDn | apply zDr | apply zAl | apply zSt | refine zVi (by assumption) ?_ ?_) | go_size)).out).mono ?_); rintro e w6 ⟨v6, rfl, hs6, hb6⟩; clear tok6 _t; have hz6 := hb6.size; (try simp only [World.size_alloc, World.size_setCell, World.size_drew, World.size_drewN'] at hz6)))
                  have hb56 : Below w5.heap.size w5 w6 := below_via hb6 (by repeat' first | (with_reducible first | apply zRf | assumption | apply zDn | apply zDr | apply zAl | apply zSt | refine zVi (by assumption) ?_ ?_) | go_size) (by simp)
                  have hst := HST.out
                  go_roundw
                  case rel => exact ⟨t + 1, v6, by go_num, rfl, by omega, HRR15.out.via hb56, HRR25.out.via hb56, keepR hb56 HR45.out, (by rw [HST.out]; exact hs6), HRO.out, Nat.le_trans HLE.out (by omega), keepR hb56 HQ45.out, hb45w.trans (hb56.mono hs45)⟩
                  case measure => simp [intOf]; omega
                · rw [if_neg hz0] at hst1
                  have HST := Lib.hid hst1
                  have hzz : (z == 0) = false := by simpa using hz0
                  clear hst1 hrt hz hmk hz0
                  go_wp2_with (first | (have _t := tok4; go_at_call 34; (with_reducible refine ((TV _).out).mono ?_); rintro e w4 ⟨rfl, hb4⟩; clear tok4 _t; have hz4 := hb4.size; (try simp only [World.size_alloc, World.size_setCell, World.size_drew, World.size_drewN'] at hz4)))
                  go_roundw
                  case rel => exact ⟨t + 1, v, by go_num, rfl, by omega, HRR1.out.via hb4, HRR2.out.via hb4, keepR hb4 HR4.out, (by rw [HST.out]; exact HO4.out.via hb4), HRO.out, Nat.le_trans HLE.out (by omega), keepR hb4 HQ4.out, hb4w.trans (hb4.mono hs4)⟩
                  case measure => simp [intOf]; omega
              · obtain rfl : t = 2 := by omega
                have HX := (show CrIn w a b c d v (spX a b c d n1 e1 l2 2) (1 + i * 2000 + 2 * j + 2) wr from ⟨ho4, hrl4, hln4, hQ4, hb4w⟩)
                rw [spX_end, ← HTK2.out] at HX
                have HX2 := Lib.hid (CrIn.more (Y := 1 + i * 2000 + 2 * (j + 1)) HX (by omega))
                have HRR1 := Lib.hid hr1
                have HRR2 := Lib.hid hr2
                clear HX ho4 hrl4 hln4 hQ4 hR4 hr1 hr2
                go_wp2_with fail
                go_roundw
                case rel =>
                  first
                  | exact ⟨j + 1, v, by go_num, rfl, by omega, HRR1.out, HRR2.out, HX2.out⟩
                  | ((repeat (with_reducible apply Exists.intro)); exact ⟨⟨j + 1, v, by go_num, rfl, by omega, HRR1.out, HRR2.out, HX2.out⟩, rfl⟩)
                case measure => simp [intOf]; omega
          · obtain rfl : j = D2.length := by omega
            have HX := HCR2.out
            rw [List.take_length, show D2.foldl (spE a b c d n1) l1 = spN a b c d D2 l1 n1 from rfl, ← HTK.out] at HX
            have HX2 := Lib.hid (CrIn.more (Y := 1 + (i + 1) * 2000) HX (by omega))
            clear HX HCR2
            go_wp2_with fail
            go_roundw
            case rel =>
              first
              | exact ⟨i + 1, v, by go_num, rfl, by omega, HRR1.out, HX2.out⟩
              | ((repeat (with_reducible apply Exists.intro)); exact ⟨⟨i + 1, v, by go_num, rfl, by omega, HRR1.out, HX2.out⟩, rfl⟩)
            case measure => simp [intOf]; omega
      · obtain rfl : i = D1.length := by omega
        have HX := HCR1.out
        rw [List.take_length, ← HSL.out] at HX
        have HX2 := Lib.hid HX
        clear HX HCR1 hr1
        go_wp2_with fail
        go_ret
        exact ⟨_, rfl, HX2.out.1, hb1w⟩
end Go.Proofs.Ytldonmcbnhgbdaa
