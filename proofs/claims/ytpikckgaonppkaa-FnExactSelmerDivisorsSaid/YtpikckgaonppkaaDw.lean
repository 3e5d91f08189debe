/- The Selmer group of a side: both sides. -/
import Derived.Test.YtpikckgaonppkaaDt
namespace Go.Proofs.Ytpikckgaonppkaa
open Go.RowKit
set_option linter.unusedVariables false
set_option maxHeartbeats 4000000
set_option maxRecDepth 20000
set_option linter.unusedSimpArgs false
def seF (f : Int → Int × Bool) : List Int → List Int → List Int × Bool
  | [], out => (out, true)
  | d :: l, out => if (f d).2 = false then ([], false) else seF f l (if (f d).1 = 0 then out ++ [d] else out)
def seV (a b : Int) (dual : Bool) : List Int × Bool := seF (rdV a b dual) (ddL a b dual) []
theorem seF_len {f : Int → Int × Bool} : ∀ {l out : List Int}, (seF f l out).1.length ≤ out.length + l.length
  | [], out => by simp [seF]
  | d :: l, out => by
    unfold seF
    split
    · simp
    · refine Nat.le_trans seF_len ?_
      split <;> simp <;> omega
theorem seV_len {a b : Int} {dual : Bool} (h : tcB a b = true) : (seV a b dual).1.length ≤ 182400 := by
  have h1 := ddL_len (dual := dual) h
  have h2 := seF_len (f := rdV a b dual) (l := ddL a b dual) (out := [])
  simp at h2
  unfold seV
  omega
def SeRel (w w1 : World) (a b : Int) (f : Int → Int × Bool) (L : List Int) (R : List Int × Bool) (ov iv : Value) (wr : World) : Prop := ∃ (k : Nat) (out : List Int) (v : Value), iv = .int .i64 k ∧ v = ov ∧ k ≤ L.length ∧ out.length ≤ k ∧ seF f (L.drop k) out = R ∧ OwnI wr w1.heap.size 3 v out ∧
  wr.heap[w.heap.size]? = some (.cells #[.int .i64 a, .int .i64 b] 42 (0, 0)) ∧ Below w.heap.size w wr ∧ Below w1.heap.size w1 wr
theorem selmer_any (a b : Int) (dual : Bool) (w : World) (h : tcB a b = true) : Calls Try.prog 53 #[.agg #[.int .i64 a, .int .i64 b], .bool dual] w (NewJ w (seV a b dual).1 (seV a b dual).2) := by
  obtain ⟨i0, hi, iz0, iz1, iz2⟩ := info_parts infoI
  have TB := fun W : World => Lib.hid (descentDivisors_any a b dual W h)
  have TR := Lib.hid (fun (d : Int) (hd : d ∈ ddL a b dual) (W : World) => reasonAgainst_any a b d dual W h hd)
  have hll := ddL_len (dual := dual) h
  unfold seV
  obtain ⟨f, hf⟩ : ∃ f, rdV a b dual = f := ⟨_, rfl⟩
  rw [hf] at TR ⊢
  generalize ddL a b dual = L at *
  obtain ⟨R, hR⟩ : ∃ R, seF f L [] = R := ⟨_, rfl⟩
  rw [hR]
  have HR := Lib.hid hR
  clear hR hf h
  have tok1 : True := trivial
  have tok2 : True := trivial
  have tok3 : True := trivial
  have tok4 : True := trivial
  have tok5 : True := trivial
  have tok6 : True := trivial
  have tok7 : True := trivial
  have tok8 : True := trivial
  go_enter Try.func53, Try.ntmps53
  go_upto_region 1 with fail
  refine chk (fun W => Below w.heap.size w W ∧ W.heap[w.heap.size]? = some (.cells #[.int .i64 a, .int .i64 b] 42 (0, 0))) (by refine ⟨?_, ?_⟩ <;> (repeat' first | (with_reducible first | assumption | (apply Ne.symm; assumption) | apply Nat.le_refl | apply Nat.le_add_right | apply zL | apply zRf | apply Wx.box | apply Wx.box4 | apply zWa | apply Wx.drew | apply zWn | apply bx_drew | apply bx_drewN | apply bx_set3 | apply bx_set2 | apply bx_set4 | apply bx_set1) | ((with_reducible apply bx_new); (focus (go_size; done))) | (with_reducible first | apply zOl | apply zFa | apply zDn | apply zDr | apply zAl | apply zSt | refine zVi (by assumption) ?_ ?_) | go_size | omega)) ?_
  rintro w1 ⟨hB1, H_E_1⟩
  obtain ⟨k_E_1_0, k_E_1_1, f_E_1, l_E_1⟩ := bk2 H_E_1
  replace H_E_1 := Lib.hid H_E_1
  go_upto_region 3 with (first | (have _t := tok2; go_at_call 49; (with_reducible refine ((TB _).out).mono ?_); rintro e w2 ⟨A, c, rfl, hx, hb2⟩; clear tok2 _t; have hz2 := hb2.size; (try simp only [World.size_alloc, World.size_setCell, World.size_drew, World.size_drewN'] at hz2)))
  have H_E_2 := (hb2.block (w.heap.size) (blk_lt' H_E_1.out)).trans H_E_1.out
  clear k_E_1_0 k_E_1_1 f_E_1 H_E_1
  obtain ⟨k_E_2_0, k_E_2_1, f_E_2, l_E_2⟩ := bk2 H_E_2
  replace H_E_2 := Lib.hid H_E_2
  have hB2 : Below w.heap.size w w2 := below_via hb2 (by assumption) (by go_size)
  have hw2 := hB2.size
  have HX := Lib.hid hx
  clear hx
  go_loopw [6, 15] (fun ov iv wr => SeRel w w2 a b f L R ov iv wr) (fun _ iv _ => (L.length - intOf iv).toNat)
  case atStart => exact ⟨0, [], _, rfl, rfl, by omega, by simp, by simpa using HR.out, ownI_nil _ _ _, H_E_2.out, hB2, Below.refl _ _⟩
  case round =>
    obtain ⟨k, out, v, rfl, rfl, hk, hol, hres, ho, hQ, hbw, hb2w⟩ := hrel
    have hsw := hbw.size
    have HO := Lib.hid ho
    clear ho
    by_cases hlt : k < L.length
    · have hltc : (k : Int) < (L.length : Int) := by omega
      obtain ⟨b9, off, hA9, hbb, hcs⟩ := HX.out.at (by omega)
      cases hA9
      have c1 := (hb2w.cell (p := ⟨b9, off + k, none⟩) hbb).trans (hcs k hlt)
      have hmem : (L[k]?.getD 0) ∈ L := has_at hlt
      rw [drop_at hlt] at hres
      obtain ⟨x, hxe⟩ : ∃ x, L[k]?.getD 0 = x := ⟨_, rfl⟩
      rw [hxe] at hres hmem c1
      have TS := fun W : World => Lib.hid (TR.out x hmem W)
      clear hmem hxe hcs
      unfold seF at hres
      obtain ⟨⟨s1, s2⟩, hsl⟩ : ∃ s, f x = s := ⟨_, rfl⟩
      rw [hsl] at hres TS
      clear hsl
      dsimp only at hres TS
      go_upto_region 5 with fail
      replace H_E_2 := H_E_2.out
      refine chk (fun W => Below w.heap.size w W ∧ W.heap[w.heap.size]? = some (.cells #[.int .i64 a, .int .i64 b] 42 (0, 0)) ∧ wr = W) (by refine ⟨?_, ?_, ?_⟩ <;> (repeat' first | (with_reducible first | assumption | (apply Ne.symm; assumption) | apply Nat.le_refl | apply Nat.le_add_right | apply zL | apply zRf | apply Wx.box | apply Wx.box4 | apply zWa | apply Wx.drew | apply zWn | apply bx_drew | apply bx_drewN | apply bx_set3 | apply bx_set2 | apply bx_set4 | apply bx_set1) | ((with_reducible apply bx_new); (focus (go_size; done))) | (with_reducible first | apply zOl | apply zFa | apply zDn | apply zDr | apply zAl | apply zSt | refine zVi (by assumption) ?_ ?_) | go_size | omega)) ?_
      clear k_E_2_0 k_E_2_1 f_E_2 H_E_2
      clear hB2
      rintro w3 ⟨hB3, H_E_3, HE⟩
      obtain ⟨k_E_3_0, k_E_3_1, f_E_3, l_E_3⟩ := bk2 H_E_3
      replace H_E_3 := Lib.hid H_E_3
      subst HE
      clear hQ c1
      cases s2
      · simp only [if_true] at hres
        subst hres
        go_upto_region 6 with (first | (have _t := tok4; go_at_call 50; (with_reducible refine ((TS _).out).mono ?_); rintro e w4 ⟨rfl, hb4⟩; clear tok4 _t; have hz4 := hb4.size; (try simp only [World.size_alloc, World.size_setCell, World.size_drew, World.size_drewN'] at hz4)))
        have H_E_4 := (hb4.block (w.heap.size) (blk_lt' H_E_3.out)).trans H_E_3.out
        clear k_E_3_0 k_E_3_1 f_E_3 H_E_3
        obtain ⟨k_E_4_0, k_E_4_1, f_E_4, l_E_4⟩ := bk2 H_E_4
        replace H_E_4 := Lib.hid H_E_4
        have hB4 : Below w.heap.size w w4 := below_via hb4 (by assumption) (by go_size)
        go_wp2_with fail
        go_ret2
        exact ⟨_, w.heap.size, rfl, ownI_nil _ _ _, Nat.le_refl _, hB4⟩
      · simp only [Bool.true_eq_false, if_false] at hres
        by_cases hs0 : s1 = 0
        · subst hs0
          rw [if_pos rfl] at hres
          have HRS := Lib.hid hres
          have hz9 : ((0 : Int) == 0) = true := rfl
          clear hres
          go_upto_region 9 with (first | (have _t := tok4; go_at_call 50; (with_reducible refine ((TS _).out).mono ?_); rintro e w4 ⟨rfl, hb4⟩; clear tok4 _t; have hz4 := hb4.size; (try simp only [World.size_alloc, World.size_setCell, World.size_drew, World.size_drewN'] at hz4)))
          have H_E_4 := (hb4.block (w.heap.size) (blk_lt' H_E_3.out)).trans H_E_3.out
          clear k_E_3_0 k_E_3_1 f_E_3 H_E_3
          obtain ⟨k_E_4_0, k_E_4_1, f_E_4, l_E_4⟩ := bk2 H_E_4
          replace H_E_4 := Lib.hid H_E_4
          have hB4 : Below w.heap.size w w4 := below_via hb4 (by assumption) (by go_size)
          replace H_E_4 := H_E_4.out
          refine chk (fun W => Below w.heap.size w W ∧ W.heap[w.heap.size]? = some (.cells #[.int .i64 a, .int .i64 b] 42 (0, 0)) ∧ Below wr.heap.size wr W) (by refine ⟨?_, ?_, ?_⟩ <;> (repeat' first | (with_reducible first | assumption | (apply Ne.symm; assumption) | apply Nat.le_refl | apply Nat.le_add_right | apply zL | apply zRf | apply Wx.box | apply Wx.box4 | apply zWa | apply Wx.drew | apply zWn | apply bx_drew | apply bx_drewN | apply bx_set3 | apply bx_set2 | apply bx_set4 | apply bx_set1) | ((with_reducible apply bx_new); (focus (go_size; done))) | (with_reducible first | apply zOl | apply zFa | apply zDn | apply zDr | apply zAl | apply zSt | refine zVi (by assumption) ?_ ?_) | go_size | omega)) ?_
          clear k_E_4_0 k_E_4_1 f_E_4 H_E_4
          clear hB4
          rintro w5 ⟨hB5, H_E_5, hbr⟩
          obtain ⟨k_E_5_0, k_E_5_1, f_E_5, l_E_5⟩ := bk2 H_E_5
          replace H_E_5 := Lib.hid H_E_5
          have hs5 := hbr.size
          have HO4 := Lib.hid (HO.out.below hbr)
          have q1 := H_E_5.out
          have hb25 := hb2w.trans (hbr.mono hb2w.size)
          have hs25 := hb25.size
          go_wp2_with (first | (at_builtin; refine wpList_append_own_at _ rfl _ _ 31 rfl w2.heap.size 3 i0 (.int .i64 0) 1 8 Try.underlying31 hi iz0 iz1 iz2 rfl (by decide) v out.length _ rfl (HO4.out.alloc _) ⟨w5.heap.size, 0, none⟩ 1 1 [_] rfl rfl (cell_one_new _ _ _) (by simp [Value.oneCell']) (by unfold maxLen; omega) (by omega) (by simp; omega) ?_; intro v1 w6 hv1 hg1 _ hat))
          go_roundw
          case rel =>
            refine ⟨k + 1, out ++ [x], v1, by go_num, rfl, by omega, by simp; omega, HRS.out, ?_, ?_, ?_, ?_⟩
            · unfold OwnI
              rw [ints_append, ints_one, List.length_append]
              exact hv1
            · have h5 : (w5.alloc (.cells #[.int .i64 x] 3 (0, 0))).heap[w.heap.size]? = some (.cells #[.int .i64 a, .int .i64 b] 42 (0, 0)) := bx_old q1 _
              exact (hg1.block _ (blk_lt' h5) (row_type4 HO4.out q1 (by decide))).trans h5
            · exact (hB5.alloc (by have := hB5.size; omega) _).grown hg1 (by simp; have := hB5.size; omega) (fun j h => by have := (HO4.out.lt _ h).1; omega)
            · exact (hb25.alloc (by have := hb25.size; omega) _).grown hg1 (by simp; have := hb25.size; omega) (fun j h => (HO4.out.lt _ h).1)
          case measure => simp [intOf]; omega
        · rw [if_neg hs0] at hres
          have hz9 : (s1 == 0) = false := by simpa using hs0
          have HRS := Lib.hid hres
          clear hres hs0
          go_upto_region 10 with (first | (have _t := tok4; go_at_call 50; (with_reducible refine ((TS _).out).mono ?_); rintro e w4 ⟨rfl, hb4⟩; clear tok4 _t; have hz4 := hb4.size; (try simp only [World.size_alloc, World.size_setCell, World.size_drew, World.size_drewN'] at hz4)))
          have H_E_4 := (hb4.block (w.heap.size) (blk_lt' H_E_3.out)).trans H_E_3.out
          clear k_E_3_0 k_E_3_1 f_E_3 H_E_3
          obtain ⟨k_E_4_0, k_E_4_1, f_E_4, l_E_4⟩ := bk2 H_E_4
          replace H_E_4 := Lib.hid H_E_4
          have hB4 : Below w.heap.size w w4 := below_via hb4 (by assumption) (by go_size)
          have q1 := H_E_4.out
          have hb24 := hb2w.trans (hb4.mono hb2w.size)
          go_wp2_with fail
          go_roundw
          case rel => exact ⟨k + 1, out, v, by go_num, rfl, by omega, by omega, HRS.out, HO.out.below hb4, q1, hB4, hb24⟩
          case measure => simp [intOf]; omega
    · obtain rfl : k = L.length := by omega
      rw [List.drop_length] at hres
      unfold seF at hres
      subst hres
      go_wp2_with fail
      go_ret2
      exact ⟨_, w2.heap.size, rfl, HO.out, hw2, hbw⟩
theorem dsSelmer_any (a b : Int) (dual : Bool) (w : World) (h : tcB a b = true) : Calls Try.prog 52 #[.agg #[.int .i64 a, .int .i64 b], .bool dual] w (NewJ w (seV a b dual).1 (seV a b dual).2) := by
  obtain ⟨i0, hi, iz0, iz1, iz2⟩ := info_parts infoI
  have TB := fun W : World => Lib.hid (dsDivisors_any a b dual W h)
  have TR := Lib.hid (fun (d : Int) (hd : d ∈ ddL a b dual) (W : World) => dsReason_any a b d dual W h hd)
  have hll := ddL_len (dual := dual) h
  unfold seV
  obtain ⟨f, hf⟩ : ∃ f, rdV a b dual = f := ⟨_, rfl⟩
  rw [hf] at TR ⊢
  generalize ddL a b dual = L at *
  obtain ⟨R, hR⟩ : ∃ R, seF f L [] = R := ⟨_, rfl⟩
  rw [hR]
  have HR := Lib.hid hR
  clear hR hf h
  have tok1 : True := trivial
  have tok2 : True := trivial
  have tok3 : True := trivial
  have tok4 : True := trivial
  have tok5 : True := trivial
  have tok6 : True := trivial
  have tok7 : True := trivial
  have tok8 : True := trivial
  go_enter Try.func52, Try.ntmps52
  go_upto_region 1 with fail
  refine chk (fun W => Below w.heap.size w W ∧ W.heap[w.heap.size]? = some (.cells #[.int .i64 a, .int .i64 b] 42 (0, 0))) (by refine ⟨?_, ?_⟩ <;> (repeat' first | (with_reducible first | assumption | (apply Ne.symm; assumption) | apply Nat.le_refl | apply Nat.le_add_right | apply zL | apply zRf | apply Wx.box | apply Wx.box4 | apply zWa | apply Wx.drew | apply zWn | apply bx_drew | apply bx_drewN | apply bx_set3 | apply bx_set2 | apply bx_set4 | apply bx_set1) | ((with_reducible apply bx_new); (focus (go_size; done))) | (with_reducible first | apply zOl | apply zFa | apply zDn | apply zDr | apply zAl | apply zSt | refine zVi (by assumption) ?_ ?_) | go_size | omega)) ?_
  rintro w1 ⟨hB1, H_E_1⟩
  obtain ⟨k_E_1_0, k_E_1_1, f_E_1, l_E_1⟩ := bk2 H_E_1
  replace H_E_1 := Lib.hid H_E_1
  go_upto_region 3 with (first | (have _t := tok2; go_at_call 71; (with_reducible refine ((TB _).out).mono ?_); rintro e w2 ⟨A, c, rfl, hx, hb2⟩; clear tok2 _t; have hz2 := hb2.size; (try simp only [World.size_alloc, World.size_setCell, World.size_drew, World.size_drewN'] at hz2)))
  have H_E_2 := (hb2.block (w.heap.size) (blk_lt' H_E_1.out)).trans H_E_1.out
  clear k_E_1_0 k_E_1_1 f_E_1 H_E_1
  obtain ⟨k_E_2_0, k_E_2_1, f_E_2, l_E_2⟩ := bk2 H_E_2
  replace H_E_2 := Lib.hid H_E_2
  have hB2 : Below w.heap.size w w2 := below_via hb2 (by assumption) (by go_size)
  have hw2 := hB2.size
  have HX := Lib.hid hx
  clear hx
  go_loopw [6, 15] (fun ov iv wr => SeRel w w2 a b f L R ov iv wr) (fun _ iv _ => (L.length - intOf iv).toNat)
  case atStart => exact ⟨0, [], _, rfl, rfl, by omega, by simp, by simpa using HR.out, ownI_nil _ _ _, H_E_2.out, hB2, Below.refl _ _⟩
  case round =>
    obtain ⟨k, out, v, rfl, rfl, hk, hol, hres, ho, hQ, hbw, hb2w⟩ := hrel
    have hsw := hbw.size
    have HO := Lib.hid ho
    clear ho
    by_cases hlt : k < L.length
    · have hltc : (k : Int) < (L.length : Int) := by omega
      obtain ⟨b9, off, hA9, hbb, hcs⟩ := HX.out.at (by omega)
      cases hA9
      have c1 := (hb2w.cell (p := ⟨b9, off + k, none⟩) hbb).trans (hcs k hlt)
      have hmem : (L[k]?.getD 0) ∈ L := has_at hlt
      rw [drop_at hlt] at hres
      obtain ⟨x, hxe⟩ : ∃ x, L[k]?.getD 0 = x := ⟨_, rfl⟩
      rw [hxe] at hres hmem c1
      have TS := fun W : World => Lib.hid (TR.out x hmem W)
      clear hmem hxe hcs
      unfold seF at hres
      obtain ⟨⟨s1, s2⟩, hsl⟩ : ∃ s, f x = s := ⟨_, rfl⟩
      rw [hsl] at hres TS
      clear hsl
      dsimp only at hres TS
      go_upto_region 5 with fail
      replace H_E_2 := H_E_2.out
      refine chk (fun W => Below w.heap.size w W ∧ W.heap[w.heap.size]? = some (.cells #[.int .i64 a, .int .i64 b] 42 (0, 0)) ∧ wr = W) (by refine ⟨?_, ?_, ?_⟩ <;> (repeat' first | (with_reducible first | assumption | (apply Ne.symm; assumption) | apply Nat.le_refl | apply Nat.le_add_right | apply zL | apply zRf | apply Wx.box | apply Wx.box4 | apply zWa | apply Wx.drew | apply zWn | apply bx_drew | apply bx_drewN | apply bx_set3 | apply bx_set2 | apply bx_set4 | apply bx_set1) | ((with_reducible apply bx_new); (focus (go_size; done))) | (with_reducible first | apply zOl | apply zFa | apply zDn | apply zDr | apply zAl | apply zSt | refine zVi (by assumption) ?_ ?_) | go_size | omega)) ?_
      clear k_E_2_0 k_E_2_1 f_E_2 H_E_2
      clear hB2
      rintro w3 ⟨hB3, H_E_3, HE⟩
      obtain ⟨k_E_3_0, k_E_3_1, f_E_3, l_E_3⟩ := bk2 H_E_3
      replace H_E_3 := Lib.hid H_E_3
      subst HE
      clear hQ c1
      cases s2
      · simp only [if_true] at hres
        subst hres
        go_upto_region 6 with (first | (have _t := tok4; go_at_call 46; (with_reducible refine ((TS _).out).mono ?_); rintro e w4 ⟨rfl, hb4⟩; clear tok4 _t; have hz4 := hb4.size; (try simp only [World.size_alloc, World.size_setCell, World.size_drew, World.size_drewN'] at hz4)))
        have H_E_4 := (hb4.block (w.heap.size) (blk_lt' H_E_3.out)).trans H_E_3.out
        clear k_E_3_0 k_E_3_1 f_E_3 H_E_3
        obtain ⟨k_E_4_0, k_E_4_1, f_E_4, l_E_4⟩ := bk2 H_E_4
        replace H_E_4 := Lib.hid H_E_4
        have hB4 : Below w.heap.size w w4 := below_via hb4 (by assumption) (by go_size)
        go_wp2_with fail
        go_ret2
        exact ⟨_, w.heap.size, rfl, ownI_nil _ _ _, Nat.le_refl _, hB4⟩
      · simp only [Bool.true_eq_false, if_false] at hres
        by_cases hs0 : s1 = 0
        · subst hs0
          rw [if_pos rfl] at hres
          have HRS := Lib.hid hres
          have hz9 : ((0 : Int) == 0) = true := rfl
          clear hres
          go_upto_region 9 with (first | (have _t := tok4; go_at_call 46; (with_reducible refine ((TS _).out).mono ?_); rintro e w4 ⟨rfl, hb4⟩; clear tok4 _t; have hz4 := hb4.size; (try simp only [World.size_alloc, World.size_setCell, World.size_drew, World.size_drewN'] at hz4)))
          have H_E_4 := (hb4.block (w.heap.size) (blk_lt' H_E_3.out)).trans H_E_3.out
          clear k_E_3_0 k_E_3_1 f_E_3 H_E_3
          obtain ⟨k_E_4_0, k_E_4_1, f_E_4, l_E_4⟩ := bk2 H_E_4
          replace H_E_4 := Lib.hid H_E_4
          have hB4 : Below w.heap.size w w4 := below_via hb4 (by assumption) (by go_size)
          replace H_E_4 := H_E_4.out
          refine chk (fun W => Below w.heap.size w W ∧ W.heap[w.heap.size]? = some (.cells #[.int .i64 a, .int .i64 b] 42 (0, 0)) ∧ Below wr.heap.size wr W) (by refine ⟨?_, ?_, ?_⟩ <;> (repeat' first | (with_reducible first | assumption | (apply Ne.symm; assumption) | apply Nat.le_refl | apply Nat.le_add_right | apply zL | apply zRf | apply Wx.box | apply Wx.box4 | apply zWa | apply Wx.drew | apply zWn | apply bx_drew | apply bx_drewN | apply bx_set3 | apply bx_set2 | apply bx_set4 | apply bx_set1) | ((with_reducible apply bx_new); (focus (go_size; done))) | (with_reducible first | apply zOl | apply zFa | apply zDn | apply zDr | apply zAl | apply zSt | refine zVi (by assumption) ?_ ?_) | go_size | omega)) ?_
          clear k_E_4_0 k_E_4_1 f_E_4 H_E_4
          clear hB4
          rintro w5 ⟨hB5, H_E_5, hbr⟩
          obtain ⟨k_E_5_0, k_E_5_1, f_E_5, l_E_5⟩ := bk2 H_E_5
          replace H_E_5 := Lib.hid H_E_5
          have hs5 := hbr.size
          have HO4 := Lib.hid (HO.out.below hbr)
          have q1 := H_E_5.out
          have hb25 := hb2w.trans (hbr.mono hb2w.size)
          have hs25 := hb25.size
          go_wp2_with (first | (at_builtin; refine wpList_append_own_at _ rfl _ _ 31 rfl w2.heap.size 3 i0 (.int .i64 0) 1 8 Try.underlying31 hi iz0 iz1 iz2 rfl (by decide) v out.length _ rfl (HO4.out.alloc _) ⟨w5.heap.size, 0, none⟩ 1 1 [_] rfl rfl (cell_one_new _ _ _) (by simp [Value.oneCell']) (by unfold maxLen; omega) (by omega) (by simp; omega) ?_; intro v1 w6 hv1 hg1 _ hat))
          go_roundw
          case rel =>
            refine ⟨k + 1, out ++ [x], v1, by go_num, rfl, by omega, by simp; omega, HRS.out, ?_, ?_, ?_, ?_⟩
            · unfold OwnI
              rw [ints_append, ints_one, List.length_append]
              exact hv1
            · have h5 : (w5.alloc (.cells #[.int .i64 x] 3 (0, 0))).heap[w.heap.size]? = some (.cells #[.int .i64 a, .int .i64 b] 42 (0, 0)) := bx_old q1 _
              exact (hg1.block _ (blk_lt' h5) (row_type4 HO4.out q1 (by decide))).trans h5
            · exact (hB5.alloc (by have := hB5.size; omega) _).grown hg1 (by simp; have := hB5.size; omega) (fun j h => by have := (HO4.out.lt _ h).1; omega)
            · exact (hb25.alloc (by have := hb25.size; omega) _).grown hg1 (by simp; have := hb25.size; omega) (fun j h => (HO4.out.lt _ h).1)
          case measure => simp [intOf]; omega
        · rw [if_neg hs0] at hres
          have hz9 : (s1 == 0) = false := by simpa using hs0
          have HRS := Lib.hid hres
          clear hres hs0
          go_upto_region 10 with (first | (have _t := tok4; go_at_call 46; (with_reducible refine ((TS _).out).mono ?_); rintro e w4 ⟨rfl, hb4⟩; clear tok4 _t; have hz4 := hb4.size; (try simp only [World.size_alloc, World.size_setCell, World.size_drew, World.size_drewN'] at hz4)))
          have H_E_4 := (hb4.block (w.heap.size) (blk_lt' H_E_3.out)).trans H_E_3.out
          clear k_E_3_0 k_E_3_1 f_E_3 H_E_3
          obtain ⟨k_E_4_0, k_E_4_1, f_E_4, l_E_4⟩ := bk2 H_E_4
          replace H_E_4 := Lib.hid H_E_4
          have hB4 : Below w.heap.size w w4 := below_via hb4 (by assumption) (by go_size)
          have q1 := H_E_4.out
          have hb24 := hb2w.trans (hb4.mono hb2w.size)
          go_wp2_with fail
          go_roundw
          case rel => exact ⟨k + 1, out, v, by go_num, rfl, by omega, by omega, HRS.out, HO.out.below hb4, q1, hB4, hb24⟩
          case measure => simp [intOf]; omega
    · obtain rfl : k = L.length := by omega
      rw [List.drop_length] at hres
      unfold seF at hres
      subst hres
      go_wp2_with fail
      go_ret2
      exact ⟨_, w2.heap.size, rfl, HO.out, hw2, hbw⟩
def sdW (a b : Int) (dual : Bool) : List Int × Bool := if tcB a b = true then seV a b dual else ([], false)
theorem sdW_len (a b : Int) (dual : Bool) : (sdW a b dual).1.length ≤ 182400 := by
  unfold sdW; split
  · rename_i h; exact seV_len h
  · simp
theorem SelmerDivisors_any (a b : Int) (dual : Bool) (w : World) : Calls Try.prog 27 #[.agg #[.int .i64 a, .int .i64 b], .bool dual] w (NewJ w (sdW a b dual).1 (sdW a b dual).2) := by
  have T1 := fun W : World => Lib.hid (isTwoCurve_any a b W)
  have hnot : ∀ (x : Bool) (w : World), (Op.unary .not (.bool x)).run Try.prog w = .ok (.bool (!x)) w := fun _ _ => rfl
  unfold sdW
  cases h1 : tcB a b
  · rw [h1] at T1
    have T2 := T1
    clear h1
    simp only [Bool.false_eq_true, if_false]
    have tok1 : True := trivial
    have tok2 : True := trivial
    go_enter Try.func27, Try.ntmps27
    go_wp2_with (first | (have _t := tok1; go_at_call 47; (with_reducible refine ((T1 _).out).mono ?_); rintro e w1 ⟨rfl, hb1⟩; clear tok1 _t; have hz1 := hb1.size; (try simp only [World.size_alloc, World.size_setCell, World.size_drew, World.size_drewN'] at hz1); (try (have kq := cellAt hb1 (w.heap.size) (by go_size); have k1_w_0_0 := kq 0; have k1_w_0_1 := kq 1; clear kq; have f1_w_0 := frozAt hb1 (w.heap.size) (by go_size); simp [go_sem, *] at k1_w_0_0 k1_w_0_1 f1_w_0)); (try have l1_w_0 : w.heap.size < w1.heap.size := by omega)) | (have _t := tok2; go_at_call 53; (with_reducible refine ((T2 _).out).mono ?_); rintro e w2 ⟨u, B, rfl, hu, hBu, hb2⟩; clear tok2 _t; have hz2 := hb2.size; (try simp only [World.size_alloc, World.size_setCell, World.size_drew, World.size_drewN'] at hz2); (try (have kq := cellAt hb2 (w.heap.size) (by go_size); have k2_w_0_0 := kq 0; have k2_w_0_1 := kq 1; clear kq; have f2_w_0 := frozAt hb2 (w.heap.size) (by go_size); simp [go_sem, *] at k2_w_0_0 k2_w_0_1 f2_w_0)); (try have l2_w_0 : w.heap.size < w2.heap.size := by omega); (try clear k1_w_0_0 k1_w_0_1 f1_w_0); (try clear l1_w_0)))
    go_ret2
    refine ⟨_, w.heap.size, rfl, ownI_nil _ _ _, Nat.le_refl _, ?_⟩
    repeat' first | (with_reducible first | apply zRf | assumption | apply zDn | apply zDr | apply zAl | apply zSt | refine zVi (by assumption) ?_ ?_) | go_size
  · have T2 := fun W : World => Lib.hid (selmer_any a b dual W h1)
    rw [h1] at T1
    clear h1
    simp only [if_true]
    unfold NewJ at T2
    have tok1 : True := trivial
    have tok2 : True := trivial
    go_enter Try.func27, Try.ntmps27
    go_wp2_with (first | (have _t := tok1; go_at_call 47; (with_reducible refine ((T1 _).out).mono ?_); rintro e w1 ⟨rfl, hb1⟩; clear tok1 _t; have hz1 := hb1.size; (try simp only [World.size_alloc, World.size_setCell, World.size_drew, World.size_drewN'] at hz1); (try (have kq := cellAt hb1 (w.heap.size) (by go_size); have k1_w_0_0 := kq 0; have k1_w_0_1 := kq 1; clear kq; have f1_w_0 := frozAt hb1 (w.heap.size) (by go_size); simp [go_sem, *] at k1_w_0_0 k1_w_0_1 f1_w_0)); (try have l1_w_0 : w.heap.size < w1.heap.size := by omega)) | (have _t := tok2; go_at_call 53; (with_reducible refine ((T2 _).out).mono ?_); rintro e w2 ⟨u, B, rfl, hu, hBu, hb2⟩; clear tok2 _t; have hz2 := hb2.size; (try simp only [World.size_alloc, World.size_setCell, World.size_drew, World.size_drewN'] at hz2); (try (have kq := cellAt hb2 (w.heap.size) (by go_size); have k2_w_0_0 := kq 0; have k2_w_0_1 := kq 1; clear kq; have f2_w_0 := frozAt hb2 (w.heap.size) (by go_size); simp [go_sem, *] at k2_w_0_0 k2_w_0_1 f2_w_0)); (try have l2_w_0 : w.heap.size < w2.heap.size := by omega); (try clear k1_w_0_0 k1_w_0_1 f1_w_0); (try clear l1_w_0)))
    go_ret2
    refine ⟨_, B, rfl, hu, Nat.le_trans (below_size_le hb1 (by simp)) hBu, ?_⟩
    repeat' first | (with_reducible first | apply zRf | assumption | apply zDn | apply zDr | apply zAl | apply zSt | refine zVi (by assumption) ?_ ?_) | go_size
theorem sSelmerDivisors_any (a b : Int) (dual : Bool) (w : World) : Calls Try.prog 26 #[.agg #[.int .i64 a, .int .i64 b], .bool dual] w (NewJ w (sdW a b dual).1 (sdW a b dual).2) := by
  have T1 := fun W : World => Lib.hid (tcGood_any a b W)
  have hnot : ∀ (x : Bool) (w : World), (Op.unary .not (.bool x)).run Try.prog w = .ok (.bool (!x)) w := fun _ _ => rfl
  unfold sdW
  cases h1 : tcB a b
  · rw [h1] at T1
    have T2 := T1
    clear h1
    simp only [Bool.false_eq_true, if_false]
    have tok1 : True := trivial
    have tok2 : True := trivial
    go_enter Try.func26, Try.ntmps26
    go_wp2_with (first | (have _t := tok1; go_at_call 51; (with_reducible refine ((T1 _).out).mono ?_); rintro e w1 ⟨rfl, hb1⟩; clear tok1 _t; have hz1 := hb1.size; (try simp only [World.size_alloc, World.size_setCell, World.size_drew, World.size_drewN'] at hz1); (try (have kq := cellAt hb1 (w.heap.size) (by go_size); have k1_w_0_0 := kq 0; have k1_w_0_1 := kq 1; clear kq; have f1_w_0 := frozAt hb1 (w.heap.size) (by go_size); simp [go_sem, *] at k1_w_0_0 k1_w_0_1 f1_w_0)); (try have l1_w_0 : w.heap.size < w1.heap.size := by omega)) | (have _t := tok2; go_at_call 52; (with_reducible refine ((T2 _).out).mono ?_); rintro e w2 ⟨u, B, rfl, hu, hBu, hb2⟩; clear tok2 _t; have hz2 := hb2.size; (try simp only [World.size_alloc, World.size_setCell, World.size_drew, World.size_drewN'] at hz2); (try (have kq := cellAt hb2 (w.heap.size) (by go_size); have k2_w_0_0 := kq 0; have k2_w_0_1 := kq 1; clear kq; have f2_w_0 := frozAt hb2 (w.heap.size) (by go_size); simp [go_sem, *] at k2_w_0_0 k2_w_0_1 f2_w_0)); (try have l2_w_0 : w.heap.size < w2.heap.size := by omega); (try clear k1_w_0_0 k1_w_0_1 f1_w_0); (try clear l1_w_0)))
    go_ret2
    refine ⟨_, w.heap.size, rfl, ownI_nil _ _ _, Nat.le_refl _, ?_⟩
    repeat' first | (with_reducible first | apply zRf | assumption | apply zDn | apply zDr | apply zAl | apply zSt | refine zVi (by assumption) ?_ ?_) | go_size
  · have T2 := fun W : World => Lib.hid (dsSelmer_any a b dual W h1)
    rw [h1] at T1
    clear h1
    simp only [if_true]
    unfold NewJ at T2
    have tok1 : True := trivial
    have tok2 : True := trivial
    go_enter Try.func26, Try.ntmps26
    go_wp2_with (first | (have _t := tok1; go_at_call 51; (with_reducible refine ((T1 _).out).mono ?_); rintro e w1 ⟨rfl, hb1⟩; clear tok1 _t; have hz1 := hb1.size; (try simp only [World.size_alloc, World.size_setCell, World.size_drew, World.size_drewN'] at hz1); (try (have kq := cellAt hb1 (w.heap.size) (by go_size); have k1_w_0_0 := kq 0; have k1_w_0_1 := kq 1; clear kq; have f1_w_0 := frozAt hb1 (w.heap.size) (by go_size); simp [go_sem, *] at k1_w_0_0 k1_w_0_1 f1_w_0)); (try have l1_w_0 : w.heap.size < w1.heap.size := by omega)) | (have _t := tok2; go_at_call 52; (with_reducible refine ((T2 _).out).mono ?_); rintro e w2 ⟨u, B, rfl, hu, hBu, hb2⟩; clear tok2 _t; have hz2 := hb2.size; (try simp only [World.size_alloc, World.size_setCell, World.size_drew, World.size_drewN'] at hz2); (try (have kq := cellAt hb2 (w.heap.size) (by go_size); have k2_w_0_0 := kq 0; have k2_w_0_1 := kq 1; clear kq; have f2_w_0 := frozAt hb2 (w.heap.size) (by go_size); simp [go_sem, *] at k2_w_0_0 k2_w_0_1 f2_w_0)); (try have l2_w_0 : w.heap.size < w2.heap.size := by omega); (try clear k1_w_0_0 k1_w_0_1 f1_w_0); (try clear l1_w_0)))
    go_ret2
    refine ⟨_, B, rfl, hu, Nat.le_trans (below_size_le hb1 (by simp)) hBu, ?_⟩
    repeat' first | (with_reducible first | apply zRf | assumption | apply zDn | apply zDr | apply zAl | apply zSt | refine zVi (by assumption) ?_ ?_) | go_size
theorem sx_keepAll {W W2 : World} {a : Option Addr} {n c : Nat} {zs : List Int} (h : Sx W a n c zs) (hs : W.heap.size ≤ W2.heap.size) (hk : ∀ i, i < W.heap.size → W2.heap[i]? = W.heap[i]?) : Sx W2 a n c zs :=
  ⟨h.len, h.cap, h.max, h.nil, fun h0 => by
    obtain ⟨b, off, h1, h2, h3⟩ := h.row h0
    exact ⟨b, off, h1, Nat.lt_of_lt_of_le h2 hs, fun j hj => (World.cell?_of_block (a := ⟨b, off + j, Option.none⟩) (hk b h2)).trans (h3 j hj)⟩⟩
theorem FnExactSelmerDivisors_any (a b : Int) (dual : Bool) (w : World) : Calls Try.prog 8 #[.agg #[.int .i64 a, .int .i64 b], .bool dual] w fun e w' => e = .returned (.bool true) ∧ Below w.heap.size w w' := by
  have CS := fun W : World => Lib.hid (sSelmerDivisors_any a b dual W)
  have CI := fun W : World => Lib.hid (SelmerDivisors_any a b dual W)
  unfold NewJ at CS CI
  have hzl := sdW_len a b dual
  generalize (sdW a b dual).1 = zs at *
  generalize (sdW a b dual).2 = ok at *
  have hbb : (ok != ok) = false := by simp
  have hn0 : decide ((1 : Int) + (zs.length : Int) < 0) = false := by simp; omega
  have hqq : ((1 : Int) + (zs.length : Int) != (1 : Int) + (zs.length : Int)) = false := by simp
  have tok1 : True := trivial
  have tok2 : True := trivial
  have tok3 : True := trivial
  have tok4 : True := trivial
  have tok5 : True := trivial
  have tok6 : True := trivial
  have tok7 : True := trivial
  have tok8 : True := trivial
  have tok9 : True := trivial
  have tok10 : True := trivial
  have tok11 : True := trivial
  have tok12 : True := trivial
  have tok13 : True := trivial
  go_enter Try.func8, Try.ntmps8
  go_upto_region 1 with fail
  refine chk (fun W => Below w.heap.size w W ∧ W.heap[w.heap.size]? = some (.cells #[.int .i64 a, .int .i64 b] 39 (0, 0))) (by refine ⟨?_, ?_⟩ <;> (repeat' first | (with_reducible first | assumption | (apply Ne.symm; assumption) | apply Nat.le_refl | apply Nat.le_add_right | apply zL | apply zRf | apply Wx.box | apply Wx.box4 | apply zWa | apply Wx.drew | apply zWn | apply bx_drew | apply bx_drewN | apply bx_set3 | apply bx_set2 | apply bx_set4 | apply bx_set1) | ((with_reducible apply bx_new); (focus (go_size; done))) | (with_reducible first | apply zOl | apply zFa | apply zDn | apply zDr | apply zAl | apply zSt | refine zVi (by assumption) ?_ ?_) | go_size | omega)) ?_
  rintro w20 ⟨hB20, H_Q_20⟩
  obtain ⟨k_Q_20_0, k_Q_20_1, f_Q_20, l_Q_20⟩ := bk2 H_Q_20
  replace H_Q_20 := Lib.hid H_Q_20
  go_upto_region 2 with (first | (have _t := tok1; go_at_call 24; refine (toTwoCurve_any _ _ _).mono ?_; rintro e w1 ⟨rfl, hb1⟩; clear tok1 _t; have hz1 := hb1.size; (try simp only [World.size_alloc, World.size_setCell, World.size_drew, World.size_drewN'] at hz1)) | (have _t := tok2; go_at_call 26; (with_reducible refine ((CS _).out).mono ?_); rintro e w2 ⟨u1, B1, rfl, hu1, hB1, hb2⟩; clear tok2 _t; have hz2 := hb2.size; (try simp only [World.size_alloc, World.size_setCell, World.size_drew, World.size_drewN'] at hz2)))
  have hQ2 := keepB (Below.two hb1 hb2) H_Q_20.out
  have hW2 : Below w.heap.size w w2 := below_via (Below.two hb1 hb2) hB20 (by have := hB20.size; omega)
  replace H_Q_20 := H_Q_20.out
  refine chk (fun W => Below w.heap.size w W ∧ W.heap[w.heap.size]? = some (.cells #[.int .i64 a, .int .i64 b] 39 (0, 0)) ∧ w2 = W) (by refine ⟨?_, ?_, ?_⟩ <;> (repeat' first | (with_reducible first | assumption | (apply Ne.symm; assumption) | apply Nat.le_refl | apply Nat.le_add_right | apply zL | apply zRf | apply Wx.box | apply Wx.box4 | apply zWa | apply Wx.drew | apply zWn | apply bx_drew | apply bx_drewN | apply bx_set3 | apply bx_set2 | apply bx_set4 | apply bx_set1) | ((with_reducible apply bx_new); (focus (go_size; done))) | (with_reducible first | apply zOl | apply zFa | apply zDn | apply zDr | apply zAl | apply zSt | refine zVi (by assumption) ?_ ?_) | go_size | omega)) ?_
  clear k_Q_20_0 k_Q_20_1 f_Q_20 H_Q_20
  clear hB20
  rintro w3 ⟨hB3, H_Q_3, HE⟩
  obtain ⟨k_Q_3_0, k_Q_3_1, f_Q_3, l_Q_3⟩ := bk2 H_Q_3
  replace H_Q_3 := Lib.hid H_Q_3
  subst HE
  have hlQ2 := blk_lt' hQ2
  clear hQ2 hW2 hb1
  obtain ⟨a1, c1, rfl, hx1, hf1⟩ := Sx.of_owns hu1
  clear hu1
  go_upto_region 3 with (first | (have _t := tok4; go_at_call 24; refine (toTwoCurve_any _ _ _).mono ?_; rintro e w4 ⟨rfl, hb4⟩; clear tok4 _t; have hz4 := hb4.size; (try simp only [World.size_alloc, World.size_setCell, World.size_drew, World.size_drewN'] at hz4)) | (have _t := tok5; go_at_call 27; (with_reducible refine ((CI _).out).mono ?_); rintro e w5 ⟨u2, B2, rfl, hu2, hB2, hb5⟩; clear tok5 _t; have hz5 := hb5.size; (try simp only [World.size_alloc, World.size_setCell, World.size_drew, World.size_drewN'] at hz5)))
  have hb25 := Below.two hb4 hb5
  have hQ5 := keepB hb25 H_Q_3.out
  have hW5 : Below w.heap.size w w5 := below_via hb25 hB3 (by have := hB3.size; omega)
  have hx15 := hx1.below hb25
  have s25 := hb25.size
  have HU := Lib.hid hu2
  obtain ⟨a2, c2, rfl, hx2, hf2⟩ := Sx.of_owns hu2
  clear hu2 hb4 hb5
  replace H_Q_3 := H_Q_3.out
  refine chk (fun W => Below w.heap.size w W ∧ W.heap[w.heap.size]? = some (.cells #[.int .i64 a, .int .i64 b] 39 (0, 0)) ∧ w5 = W) (by refine ⟨?_, ?_, ?_⟩ <;> (repeat' first | (with_reducible first | assumption | (apply Ne.symm; assumption) | apply Nat.le_refl | apply Nat.le_add_right | apply zL | apply zRf | apply Wx.box | apply Wx.box4 | apply zWa | apply Wx.drew | apply zWn | apply bx_drew | apply bx_drewN | apply bx_set3 | apply bx_set2 | apply bx_set4 | apply bx_set1) | ((with_reducible apply bx_new); (focus (go_size; done))) | (with_reducible first | apply zOl | apply zFa | apply zDn | apply zDr | apply zAl | apply zSt | refine zVi (by assumption) ?_ ?_) | go_size | omega)) ?_
  clear k_Q_3_0 k_Q_3_1 f_Q_3 H_Q_3
  clear hB3
  rintro w6 ⟨hB6, H_Q_6, HE⟩
  obtain ⟨k_Q_6_0, k_Q_6_1, f_Q_6, l_Q_6⟩ := bk2 H_Q_6
  replace H_Q_6 := Lib.hid H_Q_6
  subst HE
  clear hQ5 hW5
  have hx16 := hx15
  go_upto_region 6 with (first | (have _t := tok7; go_at_call 18; refine (eqIntS_same hx2 hx16).mono ?_; rintro e w7 ⟨rfl, hb7⟩; clear tok7 _t; have hz7 := hb7.size; (try simp only [World.size_alloc, World.size_setCell, World.size_drew, World.size_drewN'] at hz7)))
  have H_Q_7 := (hb7.block (w.heap.size) (blk_lt' H_Q_6.out)).trans H_Q_6.out
  clear k_Q_6_0 k_Q_6_1 f_Q_6 H_Q_6
  obtain ⟨k_Q_7_0, k_Q_7_1, f_Q_7, l_Q_7⟩ := bk2 H_Q_7
  replace H_Q_7 := Lib.hid H_Q_7
  have hB7 : Below w.heap.size w w7 := below_via hb7 (by assumption) (by go_size)
  have HU2 := Lib.hid (HU.out.below hb7)
  have hx17 := hx16.below hb7
  have s57 := hb7.size
  have hQ7 := H_Q_7.out
  have hfr : ∀ i, i < w2.heap.size → some i ≠ Value.ownBlock (.slice a2 zs.length c2) := fun i hi h => by
    cases a2 with
    | none => cases h
    | some D =>
      have h5 : i = D.block := by simpa [Value.ownBlock] using h
      have := hf2 D rfl
      have := hz4
      omega
  have hl2 : w.heap.size < w2.heap.size := hlQ2
  go_upto_region 8 with (first | (go_at_call 19; (with_reducible refine ((markIntS_any HU2.out (by omega) (by omega) (by omega))).mono ?_); rintro e w8 ⟨rfl, hmk, hgr⟩))
  have hold : ∀ i, i < w2.heap.size → w8.heap[i]? = w7.heap[i]? := fun i hi => hgr.block i (by omega) (hfr i hi)
  have h27 : Below w2.heap.size w2 w7 := Below.two hb25 hb7
  have hk8 : ∀ i, i < w2.heap.size → w8.heap[i]? = w2.heap[i]? := fun i hi => (hold i hi).trans (h27.block i hi)
  have hx18 := sx_keepAll hx1 (Nat.le_trans h27.size hgr.size) hk8
  have hB8 : Below w.heap.size w w8 := hB7.grown hgr hB7.size (fun k e => by
    rcases Nat.lt_or_ge k w2.heap.size with h | h
    · exact absurd e.symm (hfr k h)
    · omega)
  have hQ8 := (hold w.heap.size hl2).trans hQ7
  obtain ⟨a8, c8, ev, hx8, -⟩ := Sx.of_owns hmk
  rw [marks_len] at ev hx8
  simp only [Value.slice.injEq, true_and] at ev
  obtain ⟨rfl, rfl⟩ := ev
  clear hold hk8 hfr hgr hmk h27 hx1 hx2 hx15 hx16 hx17 HU HU2 hQ7 hb25 hb7
  replace H_Q_7 := H_Q_7.out
  refine chk (fun W => Below w.heap.size w W ∧ W.heap[w.heap.size]? = some (.cells #[.int .i64 a, .int .i64 b] 39 (0, 0)) ∧ w8 = W) (by refine ⟨?_, ?_, ?_⟩ <;> (repeat' first | (with_reducible first | assumption | (apply Ne.symm; assumption) | apply Nat.le_refl | apply Nat.le_add_right | apply zL | apply zRf | apply Wx.box | apply Wx.box4 | apply zWa | apply Wx.drew | apply zWn | apply bx_drew | apply bx_drewN | apply bx_set3 | apply bx_set2 | apply bx_set4 | apply bx_set1) | ((with_reducible apply bx_new); (focus (go_size; done))) | (with_reducible first | apply zOl | apply zFa | apply zDn | apply zDr | apply zAl | apply zSt | refine zVi (by assumption) ?_ ?_) | go_size | omega)) ?_
  clear k_Q_7_0 k_Q_7_1 f_Q_7 H_Q_7
  clear hB7
  rintro w14 ⟨hB14, H_Q_14, HE⟩
  obtain ⟨k_Q_14_0, k_Q_14_1, f_Q_14, l_Q_14⟩ := bk2 H_Q_14
  replace H_Q_14 := Lib.hid H_Q_14
  subst HE
  clear hQ8 hB8
  go_upto_region 13 with (first | (have _t := tok9; go_at_call 20; refine (heldIntS_any hx8 (by omega) (by omega) (by omega)).mono ?_; rintro e w9 ⟨rfl, hb9⟩; clear tok9 _t; have hz9 := hb9.size; (try simp only [World.size_alloc, World.size_setCell, World.size_drew, World.size_drewN'] at hz9)))
  have H_Q_9 := (hb9.block (w.heap.size) (blk_lt' H_Q_14.out)).trans H_Q_14.out
  clear k_Q_14_0 k_Q_14_1 f_Q_14 H_Q_14
  obtain ⟨k_Q_9_0, k_Q_9_1, f_Q_9, l_Q_9⟩ := bk2 H_Q_9
  replace H_Q_9 := Lib.hid H_Q_9
  have hB9 : Below w.heap.size w w9 := below_via hb9 (by assumption) (by go_size)
  have hx19 := hx18.below hb9
  have hx89 := hx8.below hb9
  go_upto_region 14 with (first | (have _t := tok10; go_at_call 24; refine (toTwoCurve_any _ _ _).mono ?_; rintro e w10 ⟨rfl, hb10⟩; clear tok10 _t; have hz10 := hb10.size; (try simp only [World.size_alloc, World.size_setCell, World.size_drew, World.size_drewN'] at hz10)) | (have _t := tok11; go_at_call 27; (with_reducible refine ((CI _).out).mono ?_); rintro e w11 ⟨u3, B3, rfl, hu3, hB3, hb11⟩; clear tok11 _t; have hz11 := hb11.size; (try simp only [World.size_alloc, World.size_setCell, World.size_drew, World.size_drewN'] at hz11)))
  have hb911 := Below.two hb10 hb11
  have hW11 : Below w.heap.size w w11 := below_via hb911 hB9 (by have := hB9.size; omega)
  have hx112 := hx19.below hb911
  have hx812 := hx89.below hb911
  obtain ⟨a3, c3, rfl, hx3, -⟩ := Sx.of_owns hu3
  clear hu3
  go_wp2_with (first | (have _t := tok12; go_at_call 18; refine (eqIntS_same hx3 hx112).mono ?_; rintro e w12 ⟨rfl, hb12⟩; clear tok12 _t; have hz12 := hb12.size; (try simp only [World.size_alloc, World.size_setCell, World.size_drew, World.size_drewN'] at hz12)) | (have _t := tok13; go_at_call 20; refine (heldIntS_any (hx812.below hb12) (by omega) (by omega) (by omega)).mono ?_; rintro e w13 ⟨rfl, hb13⟩; clear tok13 _t; have hz13 := hb13.size; (try simp only [World.size_alloc, World.size_setCell, World.size_drew, World.size_drewN'] at hz13)))
  go_ret
  exact ⟨rfl, below_via hb13 (below_via hb12 hW11 (by have := hW11.size; omega)) (by have := hW11.size; have := hb12.size; omega)⟩
end Go.Proofs.Ytpikckgaonppkaa
