/- The first pair that lifts: the program. -/
import Derived.Test.YtegiddpakocodaaGreatLp2
import Derived.Test.YtegiddpakocodaaGreatCp7
namespace Go.Proofs.YtegiddpakocodaaGreat
open Go.RowKit
set_option linter.unusedVariables false
set_option maxHeartbeats 4000000
set_option maxRecDepth 20000
set_option linter.unusedSimpArgs false
theorem find_take {α : Type} {q : α → Bool} {l : List α} {i : Nat} {d : α} (hi : i < l.length) (h : (l.take i).find? q = none) : ((l.take (i + 1)).find? q = if q (l.getD i d) = true then some (l.getD i d) else none) ∧ (q (l.getD i d) = true → l.find? q = some (l.getD i d)) := by
  have e : l.take (i + 1) = l.take i ++ [l.getD i d] := by
    rw [List.take_add_one, List.getElem?_eq_getElem hi, List.getD_eq_getElem?_getD, List.getElem?_eq_getElem hi]; rfl
  generalize l.getD i d = y at *
  have h1 : (l.take (i + 1)).find? q = if q y = true then some y else none := by
    rw [e, List.find?_append, h]
    cases hq : q y <;> simp [hq]
  refine ⟨h1, fun hq => ?_⟩
  rw [if_pos hq] at h1
  have h2 : ((l.take (i + 1)) ++ l.drop (i + 1)).find? q = some y := by rw [List.find?_append, h1]; rfl
  rwa [List.take_append_drop] at h2
def LlR (w : World) (D A C : Int) (p d : Nat) (R : (Int × Int) × (Int × Bool)) (vv kv : Value) (wr : World) : Prop := ∃ (k B : Nat) (v : Value), kv = .int .i64 k ∧ v = vv ∧ 1 ≤ k ∧ k ≤ d ∧ lpF D A C p (d - k) k = R ∧ OwnQ wr B v (pl D A C p k) ∧
  wr.heap[w.heap.size]? = some (.cells #[.int .i64 D, .int .i64 A, .int .i64 C] 24 (0, 0)) ∧ Below w.heap.size w wr
def LlI (w w0 : World) (D A C : Int) (p k : Nat) (L : List (Int × Int)) (iv : Value) (wr : World) : Prop := ∃ i : Nat, iv = .int .i64 i ∧ i ≤ L.length ∧ (L.take i).find? (fun x => liB D A C x.1 x.2 p k) = none ∧
  wr.heap[w.heap.size]? = some (.cells #[.int .i64 D, .int .i64 A, .int .i64 C] 24 (0, 0)) ∧ Below w.heap.size w wr ∧ Below w0.heap.size w0 wr
theorem localPair_any (D A C : Int) (p : Nat) (w : World) (hp : 2 ≤ (p : Int)) (hp2 : (p : Int) ≤ 1000) :
    Calls Tryz.prog 69 #[.agg #[.int .i64 D, .int .i64 A, .int .i64 C], .int .i64 p] w fun r w' =>
      r = .returned (lpT (lpV D A C p)) ∧ Below w.heap.size w w' := by
  have hd1 := dp_one hp hp2
  have hd2 := dp_lt hp
  have TD := fun W : World => Lib.hid (depth_any p W hp hp2)
  have T7 := Lib.hid (fun W : World => firstPairs_any D A C p W hp hp2)
  have T8 := Lib.hid (fun (j : Nat) (v : Value) (B : Nat) (W : World) (h1 : 1 ≤ j) (h2 : j + 1 ≤ dp p) (ho : OwnQ W B v (pl D A C p j)) => nextPairs_any D A C p j v B W (by omega) (by omega) h1 (by omega) (dp_pow hp h2) ho)
  have T9 := Lib.hid (fun (j : Nat) (v : Value) (B : Nat) (W : World) (h1 : 1 ≤ j) (h2 : j + 1 ≤ dp p) (ho : OwnQ W B v (pl D A C p j)) => firstLift_any D A C p j v B W (by omega) (by omega) h1 (by omega) (dp_pow hp h2) ho)
  have TL := Lib.hid (fun (m e : Int) (k : Nat) (W : World) (h1 : 1 ≤ k) (h2 : k ≤ dp p) => lifts_any D A C m e p k W hp hp2 h1 (by omega) (dp_pow hp h2))
  have HLN := Lib.hid (fun k : Nat => (pl_len (D := D) (A := A) (C := C) (p := p) (k := k)))
  have HPW := Lib.hid (fun (k : Nat) (h : k ≤ dp p) => dp_pow hp h)
  obtain ⟨R, hR⟩ : ∃ R, lpV D A C p = R := ⟨_, rfl⟩
  have hst : lpF D A C p (dp p - 1) 1 = R := hR
  rw [hR]
  clear hR
  generalize dp p = d at *
  unfold lpT
  have tok1 : True := trivial
  have tok2 : True := trivial
  have tok3 : True := trivial
  have tok4 : True := trivial
  have tok5 : True := trivial
  have tok6 : True := trivial
  have tok7 : True := trivial
  have tok8 : True := trivial
  have tok9 : True := trivial
  have tok10 : True := trivial
  have tok11 : True := trivial
  have tok12 : True := trivial
  go_enter Tryz.func69, Tryz.ntmps69
  go_upto_region 1 with fail
  refine chk (fun W => Below w.heap.size w W ∧ W.heap[w.heap.size]? = some (.cells #[.int .i64 D, .int .i64 A, .int .i64 C] 24 (0, 0))) (by refine ⟨?_, ?_⟩ <;> (repeat' first | (with_reducible first | assumption | (apply Ne.symm; assumption) | apply Nat.le_refl | apply Nat.le_add_right | apply zL | apply zRf | apply Wx.box | apply Wx.box4 | apply zWa | apply Wx.drew | apply zWn | apply bx_drew | apply bx_drewN | apply bx_set3 | apply bx_set2 | apply bx_set4 | apply bx_set1) | ((with_reducible apply bx_new); (focus (go_size; done))) | (with_reducible first | apply zOl | apply zFa | apply zDn | apply zDr | apply zAl | apply zSt | refine zVi (by assumption) ?_ ?_) | go_size | omega)) ?_
  rintro w1 ⟨hB1, H_Q_1⟩
  obtain ⟨k_Q_1_0, k_Q_1_1, k_Q_1_2, f_Q_1, l_Q_1⟩ := bk3 H_Q_1
  replace H_Q_1 := Lib.hid H_Q_1
  go_upto_region 2 with (first | (have _t := tok2; go_at_call 78; (with_reducible refine ((T7.out _)).mono ?_); rintro e w2 ⟨v, Bq, rfl, ho, hBq, hb2⟩; clear tok2 _t; have hz2 := hb2.size; (try simp only [World.size_alloc, World.size_setCell, World.size_drew, World.size_drewN'] at hz2)))
  have H_Q_2 := (hb2.block (w.heap.size) (blk_lt' H_Q_1.out)).trans H_Q_1.out
  clear k_Q_1_0 k_Q_1_1 k_Q_1_2 f_Q_1 H_Q_1
  obtain ⟨k_Q_2_0, k_Q_2_1, k_Q_2_2, f_Q_2, l_Q_2⟩ := bk3 H_Q_2
  replace H_Q_2 := Lib.hid H_Q_2
  have hB2 : Below w.heap.size w w2 := below_via hb2 (by assumption) (by first | exact hB1.size | go_size)
  have ho2 := Lib.hid ho
  clear ho T7
  go_wp2_with fail
  go_loopw [8, 9] (fun vv kv wr => LlR w D A C p d R vv kv wr) (fun _ kv _ => (d - intOf kv).toNat)
  case atStart => exact ⟨1, Bq, v, rfl, rfl, by omega, hd1, hst, ho2.out, H_Q_2.out, hB2⟩
  case round =>
    generalize wr = w0 at *
    obtain ⟨k, B, v, rfl, rfl, hk1, hkd, hres, ho, hQ, hbw⟩ := hrel
    clear ho2
    have hlen : (pl D A C p k).length ≤ 2 * 1000000000 := by have := HLN.out k; have := HPW.out k hkd; omega
    have HO := Lib.hid ho
    obtain ⟨g, c, a, cur, rfl, hcur, hgl, hrow⟩ := ho.row
    have HCU := Lib.hid hcur
    have HRO := Lib.hid hrow
    clear ho hcur hrow
    have hfd : fdL D A C p k = (pl D A C p k).find? fun x => liB D A C x.1 x.2 p k := rfl
    obtain ⟨L, hL⟩ : ∃ L, pl D A C p k = L := ⟨_, rfl⟩
    rw [hL] at HO HCU HRO hfd hlen hgl ⊢
    have HL := Lib.hid hL
    have HFD := Lib.hid hfd
    have HRS := Lib.hid hres
    clear hL hfd hres
    go_upto_region 4 with fail
    go_wp2_with fail
    go_loopw [21] (fun iv wi => LlI w w0 D A C p k L iv wi) (fun iv _ => (L.length - intOf iv).toNat)
    case atStart => exact ⟨0, rfl, by omega, by simp, hQ, hbw, Below.refl _ _⟩
    case round =>
      obtain ⟨i, rfl, hi, hf0, hQi, hbi, hb0⟩ := hrel
      have hsi := hbi.size
      by_cases hil : i < L.length
      · have hic : (i : Int) < (L.length : Int) := by omega
        have hne : L ≠ [] := by intro e; subst e; simp at hil
        obtain ⟨rfl, hgb⟩ := HRO.out.resolve_left hne
        have hgw := (hb0.block _ (hgl hne).1).trans hgb
        have c0 := (cell_of_row wr g (i * 2) cur 75 (0, 0) hgw).trans (HCU.out i hil).1
        have c1 := (cell_of_row wr g (i * 2 + 1) cur 75 (0, 0) hgw).trans (HCU.out i hil).2
        have hft := find_take (d := (0, 0)) hil hf0
        obtain ⟨⟨x1, x2⟩, hx⟩ : ∃ x, L.getD i (0, 0) = x := ⟨_, rfl⟩
        rw [hx] at c0 c1 hft
        dsimp only at c0 c1 hft
        have TX := fun W : World => Lib.hid (TL.out x1 x2 k W hk1 hkd)
        obtain ⟨b, hb⟩ : ∃ b, liB D A C x1 x2 p k = b := ⟨_, rfl⟩
        rw [hb] at TX hft
        have HFT := Lib.hid hft
        clear hft hb hf0 hgb hx
        go_upto_region 7 with fail
        replace H_Q_2 := H_Q_2.out
        refine chk (fun W => Below w.heap.size w W ∧ W.heap[w.heap.size]? = some (.cells #[.int .i64 D, .int .i64 A, .int .i64 C] 24 (0, 0)) ∧ W.heap[wr.heap.size]? = some (.cells #[.int .i64 x1, .int .i64 x2] 75 (0, 0)) ∧ Below wr.heap.size wr W) (by refine ⟨?_, ?_, ?_, ?_⟩ <;> (repeat' first | (with_reducible first | assumption | (apply Ne.symm; assumption) | apply Nat.le_refl | apply Nat.le_add_right | apply zL | apply zRf | apply Wx.box | apply Wx.box4 | apply zWa | apply Wx.drew | apply zWn | apply bx_drew | apply bx_drewN | apply bx_set3 | apply bx_set2 | apply bx_set4 | apply bx_set1) | ((with_reducible apply bx_new); (focus (go_size; done))) | (with_reducible first | apply zOl | apply zFa | apply zDn | apply zDr | apply zAl | apply zSt | refine zVi (by assumption) ?_ ?_) | go_size | omega)) ?_
        clear k_Q_2_0 k_Q_2_1 k_Q_2_2 f_Q_2 H_Q_2
        clear hB2
        rintro w3 ⟨hB3, H_Q_3, H_X_3, hbr⟩
        obtain ⟨k_Q_3_0, k_Q_3_1, k_Q_3_2, f_Q_3, l_Q_3⟩ := bk3 H_Q_3
        replace H_Q_3 := Lib.hid H_Q_3
        obtain ⟨k_X_3_0, k_X_3_1, f_X_3, l_X_3⟩ := bk2 H_X_3
        replace H_X_3 := Lib.hid H_X_3
        clear hQi c0 c1 hgw
        cases b
        · go_upto_region 9 with (first | (have _t := tok4; go_at_call 79; (with_reducible refine ((TX _).out).mono ?_); rintro e w4 ⟨rfl, hb4⟩; clear tok4 _t; have hz4 := hb4.size; (try simp only [World.size_alloc, World.size_setCell, World.size_drew, World.size_drewN'] at hz4)))
          have H_Q_4 := (hb4.block (w.heap.size) (blk_lt' H_Q_3.out)).trans H_Q_3.out
          clear k_Q_3_0 k_Q_3_1 k_Q_3_2 f_Q_3 H_Q_3
          obtain ⟨k_Q_4_0, k_Q_4_1, k_Q_4_2, f_Q_4, l_Q_4⟩ := bk3 H_Q_4
          replace H_Q_4 := Lib.hid H_Q_4
          have H_X_4 := (hb4.block (wr.heap.size) (blk_lt' H_X_3.out)).trans H_X_3.out
          clear k_X_3_0 k_X_3_1 f_X_3 H_X_3
          obtain ⟨k_X_4_0, k_X_4_1, f_X_4, l_X_4⟩ := bk2 H_X_4
          replace H_X_4 := Lib.hid H_X_4
          have hB4 : Below w.heap.size w w4 := below_via hb4 (by assumption) (by first | exact hB3.size | go_size)
          have hb04 := (hb0.trans (hbr.mono hb0.size)).trans (hb4.mono (by have := hbr.size; have := hb0.size; omega))
          have q1 := H_Q_4.out
          go_wp2_with fail
          go_roundw
          case rel => exact ⟨i + 1, by go_num, by omega, by rw [HFT.out.1]; simp, q1, hB4, hb04⟩
          case measure => simp [intOf]; omega
        · have hfs : fdL D A C p k = some (x1, x2) := by rw [HFD.out]; exact HFT.out.2 rfl
          have hre := HRS.out
          rw [lpF_some hfs] at hre
          subst hre
          clear hfs
          go_upto_region 8 with (first | (have _t := tok4; go_at_call 79; (with_reducible refine ((TX _).out).mono ?_); rintro e w4 ⟨rfl, hb4⟩; clear tok4 _t; have hz4 := hb4.size; (try simp only [World.size_alloc, World.size_setCell, World.size_drew, World.size_drewN'] at hz4)))
          have H_Q_4 := (hb4.block (w.heap.size) (blk_lt' H_Q_3.out)).trans H_Q_3.out
          clear k_Q_3_0 k_Q_3_1 k_Q_3_2 f_Q_3 H_Q_3
          obtain ⟨k_Q_4_0, k_Q_4_1, k_Q_4_2, f_Q_4, l_Q_4⟩ := bk3 H_Q_4
          replace H_Q_4 := Lib.hid H_Q_4
          have H_X_4 := (hb4.block (wr.heap.size) (blk_lt' H_X_3.out)).trans H_X_3.out
          clear k_X_3_0 k_X_3_1 f_X_3 H_X_3
          obtain ⟨k_X_4_0, k_X_4_1, f_X_4, l_X_4⟩ := bk2 H_X_4
          replace H_X_4 := Lib.hid H_X_4
          have hB4 : Below w.heap.size w w4 := below_via hb4 (by assumption) (by first | exact hB3.size | go_size)
          clear TX TL T8 T9 TD HLN HPW HL HFD HRS HFT HO HRO HCU
          go_region
          go_wp2_with fail
          (try simp only [Exit.inBlock, Exit.then]); refine bodyPost_ret (results_tmp4 rfl _ _ _) rfl ?_
          exact ⟨rfl, hB4.drew⟩
      · obtain rfl : i = L.length := by omega
        rw [List.take_length] at hf0
        have hfn : fdL D A C p k = none := by rw [HFD.out]; exact hf0
        have HFN := Lib.hid hfn
        clear hfn hf0
        by_cases hnil : L = []
        · have hre := HRS.out
          rw [lpF_nil HFN.out (by rw [HL.out, hnil]; rfl)] at hre
          subst hre
          subst hnil
          clear HRS HL HFD HFN HCU HRO HO TL T8 T9 HLN HPW
          by_cases hkd2 : k = d
          · subst hkd2
            go_wp2_with (first | (go_at_call 37; (with_reducible refine ((TD _).out).mono ?_); rintro e w' ⟨rfl, rfl⟩))
            (try simp only [Exit.inBlock, Exit.then]); refine bodyPost_ret (results_tmp4 rfl _ _ _) rfl ?_
            exact ⟨rfl, hbi⟩
          · have hkd3 : ((k : Int) == (d : Int)) = false := by simp; omega
            go_wp2_with (first | (go_at_call 37; (with_reducible refine ((TD _).out).mono ?_); rintro e w' ⟨rfl, rfl⟩))
            (try simp only [Exit.inBlock, Exit.then]); refine bodyPost_ret (results_tmp4 rfl _ _ _) rfl ?_
            exact ⟨rfl, hbi⟩
        · have hll : 0 < L.length := List.length_pos_iff.2 hnil
          have hll2 : (0 : Int) < (L.length : Int) := by omega
          have hle0 : ((L.length : Int) == 0) = false := by simp; omega
          have hie : (pl D A C p k).isEmpty = false := by rw [HL.out]; simpa using hnil
          by_cases hkd2 : k = d
          · have hre := HRS.out
            rw [show d - k = 0 by omega, lpF_end HFN.out, hie] at hre
            subst hre
            subst hkd2
            clear HRS HL HFD HFN HCU HRO HO TL T8 T9 HLN HPW
            go_wp2_with (first | (go_at_call 37; (with_reducible refine ((TD _).out).mono ?_); rintro e w' ⟨rfl, rfl⟩))
            (try simp only [Exit.inBlock, Exit.then]); refine bodyPost_ret (results_tmp4 rfl _ _ _) rfl ?_
            exact ⟨rfl, hbi⟩
          · have hkd3 : ((k : Int) == (d : Int)) = false := by simp; omega
            have hre := HRS.out
            rw [show d - k = d - (k + 1) + 1 by omega, lpF_next HFN.out hie] at hre
            have HRE := Lib.hid hre
            have ho' := HO.out.below hb0
            have hst9 : ((k + 1 : Nat) : Int) = (k : Int) + 1 := by omega
            have hLL := HL.out
            have T10 := T9.out k _ B wr hk1 (by omega) (by rw [hLL]; exact ho')
            have T11 := Lib.hid (fun (W : World) (ho : OwnQ W B (.slice a L.length c) L) => T8.out k _ B W hk1 (by omega) (by rw [hLL]; exact ho))
            rw [hst9] at T10 T11
            have HO' := Lib.hid ho'
            have HST := Lib.hid hst9
            clear HRS HFD HFN HCU HRO HO TL T8 T9 HLN HPW hre ho' hst9 hie hLL HL
            obtain ⟨o, hof⟩ : ∃ o, fdL D A C p (k + 1) = o := ⟨_, rfl⟩
            rw [hof] at T10
            have hk1000 : (k : Int) ≤ 1000 := by omega
            go_upto_region 12 with (first | (go_at_call 37; (with_reducible refine ((TD _).out).mono ?_); rintro e w' ⟨rfl, rfl⟩))
            replace H_Q_2 := H_Q_2.out
            refine chk (fun W => Below w.heap.size w W ∧ W.heap[w.heap.size]? = some (.cells #[.int .i64 D, .int .i64 A, .int .i64 C] 24 (0, 0)) ∧ wr = W) (by refine ⟨?_, ?_, ?_⟩ <;> (repeat' first | (with_reducible first | assumption | (apply Ne.symm; assumption) | apply Nat.le_refl | apply Nat.le_add_right | apply zL | apply zRf | apply Wx.box | apply Wx.box4 | apply zWa | apply Wx.drew | apply zWn | apply bx_drew | apply bx_drewN | apply bx_set3 | apply bx_set2 | apply bx_set4 | apply bx_set1) | ((with_reducible apply bx_new); (focus (go_size; done))) | (with_reducible first | apply zOl | apply zFa | apply zDn | apply zDr | apply zAl | apply zSt | refine zVi (by assumption) ?_ ?_) | go_size | omega)) ?_
            clear k_Q_2_0 k_Q_2_1 k_Q_2_2 f_Q_2 H_Q_2
            clear hB2
            rintro w5 ⟨hB5, H_Q_5, HE⟩
            obtain ⟨k_Q_5_0, k_Q_5_1, k_Q_5_2, f_Q_5, l_Q_5⟩ := bk3 H_Q_5
            replace H_Q_5 := Lib.hid H_Q_5
            subst HE
            clear hQi
            have T10' := Lib.hid T10
            clear T10
            cases o with
            | some y =>
              obtain ⟨y1, y2⟩ := y
              have hre := HRE.out
              rw [lpF_some hof] at hre
              subst hre
              clear hof HRE T11
              have T10x := T10'.out
              dsimp only [opV] at T10x
              replace T10' := Lib.hid T10x
              clear T10x
              go_upto_region 13 with (first | (have _t := tok6; go_at_call 80; (with_reducible refine (T10'.out).mono ?_); rintro e w6 ⟨rfl, hb6⟩; clear tok6 _t; have hz6 := hb6.size; (try simp only [World.size_alloc, World.size_setCell, World.size_drew, World.size_drewN'] at hz6)))
              have H_Q_6 := (hb6.block (w.heap.size) (blk_lt' H_Q_5.out)).trans H_Q_5.out
              clear k_Q_5_0 k_Q_5_1 k_Q_5_2 f_Q_5 H_Q_5
              obtain ⟨k_Q_6_0, k_Q_6_1, k_Q_6_2, f_Q_6, l_Q_6⟩ := bk3 H_Q_6
              replace H_Q_6 := Lib.hid H_Q_6
              have hB6 : Below w.heap.size w w6 := below_via hb6 (by assumption) (by first | exact hB5.size | go_size)
              replace H_Q_6 := H_Q_6.out
              refine chk (fun W => Below w.heap.size w W ∧ W.heap[w.heap.size]? = some (.cells #[.int .i64 D, .int .i64 A, .int .i64 C] 24 (0, 0)) ∧ W.heap[w6.heap.size]? = some (.cells #[.int .i64 y1, .int .i64 y2] 75 (0, 0)) ∧ Below wr.heap.size wr W) (by refine ⟨?_, ?_, ?_, ?_⟩ <;> (repeat' first | (with_reducible first | assumption | (apply Ne.symm; assumption) | apply Nat.le_refl | apply Nat.le_add_right | apply zL | apply zRf | apply Wx.box | apply Wx.box4 | apply zWa | apply Wx.drew | apply zWn | apply bx_drew | apply bx_drewN | apply bx_set3 | apply bx_set2 | apply bx_set4 | apply bx_set1) | ((with_reducible apply bx_new); (focus (go_size; done))) | (with_reducible first | apply zOl | apply zFa | apply zDn | apply zDr | apply zAl | apply zSt | refine zVi (by assumption) ?_ ?_) | go_size | omega)) ?_
              clear k_Q_6_0 k_Q_6_1 k_Q_6_2 f_Q_6 H_Q_6
              clear hB6
              rintro w7 ⟨hB7, H_Q_7, H_Y_7, hbr7⟩
              obtain ⟨k_Q_7_0, k_Q_7_1, k_Q_7_2, f_Q_7, l_Q_7⟩ := bk3 H_Q_7
              replace H_Q_7 := Lib.hid H_Q_7
              obtain ⟨k_Y_7_0, k_Y_7_1, f_Y_7, l_Y_7⟩ := bk2 H_Y_7
              replace H_Y_7 := Lib.hid H_Y_7
              clear T10'
              go_upto_region 14 with fail
              go_region
              go_wp2_with fail
              (try simp only [Exit.inBlock, Exit.then]); refine bodyPost_ret (results_tmp4 rfl _ _ _) rfl ?_
              exact ⟨rfl, hB7.drew⟩
            | none =>
              have T10x := T10'.out
              dsimp only [opV] at T10x
              replace T10' := Lib.hid T10x
              clear T10x
              go_upto_region 13 with (first | (have _t := tok6; go_at_call 80; (with_reducible refine (T10'.out).mono ?_); rintro e w6 ⟨rfl, hb6⟩; clear tok6 _t; have hz6 := hb6.size; (try simp only [World.size_alloc, World.size_setCell, World.size_drew, World.size_drewN'] at hz6)))
              have H_Q_6 := (hb6.block (w.heap.size) (blk_lt' H_Q_5.out)).trans H_Q_5.out
              clear k_Q_5_0 k_Q_5_1 k_Q_5_2 f_Q_5 H_Q_5
              obtain ⟨k_Q_6_0, k_Q_6_1, k_Q_6_2, f_Q_6, l_Q_6⟩ := bk3 H_Q_6
              replace H_Q_6 := Lib.hid H_Q_6
              have hB6 : Below w.heap.size w w6 := below_via hb6 (by assumption) (by first | exact hB5.size | go_size)
              replace H_Q_6 := H_Q_6.out
              refine chk (fun W => Below w.heap.size w W ∧ W.heap[w.heap.size]? = some (.cells #[.int .i64 D, .int .i64 A, .int .i64 C] 24 (0, 0)) ∧ W.heap[w6.heap.size]? = some (.cells #[.int .i64 0, .int .i64 0] 75 (0, 0)) ∧ Below wr.heap.size wr W) (by refine ⟨?_, ?_, ?_, ?_⟩ <;> (repeat' first | (with_reducible first | assumption | (apply Ne.symm; assumption) | apply Nat.le_refl | apply Nat.le_add_right | apply zL | apply zRf | apply Wx.box | apply Wx.box4 | apply zWa | apply Wx.drew | apply zWn | apply bx_drew | apply bx_drewN | apply bx_set3 | apply bx_set2 | apply bx_set4 | apply bx_set1) | ((with_reducible apply bx_new); (focus (go_size; done))) | (with_reducible first | apply zOl | apply zFa | apply zDn | apply zDr | apply zAl | apply zSt | refine zVi (by assumption) ?_ ?_) | go_size | omega)) ?_
              clear k_Q_6_0 k_Q_6_1 k_Q_6_2 f_Q_6 H_Q_6
              clear hB6
              rintro w7 ⟨hB7, H_Q_7, H_Y_7, hbr7⟩
              obtain ⟨k_Q_7_0, k_Q_7_1, k_Q_7_2, f_Q_7, l_Q_7⟩ := bk3 H_Q_7
              replace H_Q_7 := Lib.hid H_Q_7
              obtain ⟨k_Y_7_0, k_Y_7_1, f_Y_7, l_Y_7⟩ := bk2 H_Y_7
              replace H_Y_7 := Lib.hid H_Y_7
              clear T10'
              have ho7 := HO'.out.below hbr7
              have HO7 := Lib.hid ho7
              clear ho7 hbr7
              have q1 := H_Q_7.out
              go_wp2_with (first | (have _t := tok8; go_at_call 81; (with_reducible refine ((T11.out _ HO7.out)).mono ?_); rintro e w8 ⟨v8, B8, rfl, ho8, hB8, hb8⟩; clear tok8 _t; have hz8 := hb8.size; (try simp only [World.size_alloc, World.size_setCell, World.size_drew, World.size_drewN'] at hz8)))
              go_roundw
              case rel => exact ⟨k + 1, B8, v8, by rw [HST.out], rfl, by omega, by omega, HRE.out, ho8, (hb8.block _ (blk_lt' q1)).trans q1, below_via hb8 hB7 (by go_size)⟩
              case measure => simp [intOf]; omega
end Go.Proofs.YtegiddpakocodaaGreat
