/- The primes at which a quartic fails: the program. -/
import Derived.Test.YtegiddpakocodaaGreatPr3
import Derived.Test.YtegiddpakocodaaGreatLp4
namespace Go.Proofs.YtegiddpakocodaaGreat
open Go.RowKit
set_option linter.unusedVariables false
set_option maxHeartbeats 4000000
set_option maxRecDepth 20000
set_option linter.unusedSimpArgs false
/-- what comes of the primes l when out is there already -/
def flF (D A C : Int) : List Int → List Int → List Int × Bool
  | [], out => (out, true)
  | p :: l, out => if 997 < p then ([], false) else if (slV D A C p).2 = false then ([], false) else flF D A C l (if (slV D A C p).1 = true then out else out ++ [p])
def flV (D A C : Int) : List Int × Bool := if dsc D A C = 0 then ([], false) else flF D A C (bdL D A C) []
theorem flF_big {D A C : Int} : ∀ {l out : List Int}, (∃ p, p ∈ l ∧ 997 < p) → flF D A C l out = ([], false)
  | [], out, h => by obtain ⟨p, h, _⟩ := h; cases h
  | q :: l, out, h => by
    unfold flF
    by_cases h1 : 997 < q
    · rw [if_pos h1]
    · rw [if_neg h1]
      split
      · rfl
      · obtain ⟨p, h2, h3⟩ := h
        rcases List.mem_cons.1 h2 with rfl | h2
        · exact (h1 h3).elim
        · exact flF_big ⟨p, h2, h3⟩
theorem flF_len {D A C : Int} : ∀ {l out : List Int}, (flF D A C l out).1.length ≤ out.length + l.length
  | [], out => by simp [flF]
  | q :: l, out => by
    unfold flF
    split
    · simp
    · split
      · simp
      · refine Nat.le_trans flF_len ?_
        split <;> simp <;> omega
theorem drop_at {l : List Int} {k : Nat} (h : k < l.length) : l.drop k = (l[k]?.getD 0) :: l.drop (k + 1) := by
  rw [List.drop_eq_getElem_cons h, List.getElem?_eq_getElem h]; rfl
theorem sorted_last {l : List Int} (hs : l.Pairwise (· < ·)) (h0 : l ≠ []) : ∀ x ∈ l, x ≤ (l[l.length - 1]?.getD 0) := by
  intro x hx
  obtain ⟨j, hj, rfl⟩ := List.getElem_of_mem hx
  have hl : 0 < l.length := List.length_pos_iff.2 h0
  rw [List.getElem?_eq_getElem (by omega)]
  by_cases e : j = l.length - 1
  · subst e; exact Int.le_refl _
  · have := List.pairwise_iff_getElem.1 hs j (l.length - 1) hj (by omega) (by omega)
    simp only [Option.getD_some]; omega
theorem bdL_len {D A C : Int} (hb : (-100000 ≤ D ∧ D ≤ 100000) ∧ (-100000 ≤ A ∧ A ≤ 100000) ∧ (-100000 ≤ C ∧ C ≤ 100000) ∧ D ≠ 0 ∧ C ≠ 0) : (bdL D A C).length ≤ 300000000001 := by
  have m1 := mul_bd (a := A) (b := A) (A := 100000) (B := 100000) (by omega) (by omega)
  have m2 := mul_bd (a := 4 * D) (b := C) (A := 400000) (B := 100000) (by omega) (by omega)
  have hdd : dsc D A C = A * A - 4 * D * C := rfl
  unfold bdL
  have h := putA_len (prL D.natAbs ++ prL C.natAbs ++ prL (dsc D A C).natAbs) [2]
  have g1 := prL_len (n := D.natAbs) (by omega)
  have g2 := prL_len (n := C.natAbs) (by omega)
  have g3 := prL_len (n := (dsc D A C).natAbs) (by omega)
  simp only [List.length_append, List.length_cons, List.length_nil] at h ⊢
  omega
theorem bdL_ne (D A C : Int) : bdL D A C ≠ [] := by
  have : (2 : Int) ∈ bdL D A C := putA_mem.2 (.inl (by simp))
  intro e; rw [e] at this; cases this
theorem row_type4 {W : World} {B t t2 i : Nat} {v : Value} {zs : List Int} {c : Array Value} (h : OwnI W B t v zs) (hi : W.heap[i]? = some (Obj.cells c t2 (0, 0))) (hte : t2 ≠ t) : some i ≠ v.ownBlock := row_type h hi hte
/-- a contract's value: a row that the call has made, which holds the numbers zs; and a flag -/
def NewJ (w : World) (zs : List Int) (ok : Bool) (e : Ending) (w' : World) : Prop := ∃ v B, e = .returned (.tuple #[v, .bool ok]) ∧ OwnI w' B 3 v zs ∧ w.heap.size ≤ B ∧ Below w.heap.size w w'
def FgRel (w w1 : World) (D A C : Int) (L : List Int) (R : List Int × Bool) (ov iv : Value) (wr : World) : Prop := ∃ (k : Nat) (out : List Int) (v : Value), iv = .int .i64 k ∧ v = ov ∧ k ≤ L.length ∧ out.length ≤ k ∧ flF D A C (L.drop k) out = R ∧ OwnI wr w1.heap.size 3 v out ∧
  wr.heap[w.heap.size]? = some (.cells #[.int .i64 D, .int .i64 A, .int .i64 C] 24 (0, 0)) ∧ Below w.heap.size w wr ∧ Below w1.heap.size w1 wr
theorem failing_any (D A C : Int) (w : World) (hq : qaB D A C = true) : Calls Tryz.prog 23 #[.agg #[.int .i64 D, .int .i64 A, .int .i64 C]] w (NewJ w (flV D A C).1 (flV D A C).2) := by
  obtain ⟨i0, hi, iz0, iz1, iz2⟩ := info_parts infoI
  have TB := fun W : World => Lib.hid (badPrimes_any D A C W hq)
  unfold NewX at TB
  have hll := bdL_len (qaB_bd hq)
  have h2 := bdL_two D A C
  have hne := bdL_ne D A C
  have hla := sorted_last (bdL_sorted D A C) hne
  unfold flV
  by_cases h0 : dsc D A C = 0
  · rw [if_pos h0]
    simp only [h0, if_true, ne_eq, not_true_eq_false, decide_false] at TB
    clear h0 hla h2 hne hll
    have tok1 : True := trivial
    have tok2 : True := trivial
    go_enter Tryz.func23, Tryz.ntmps23
    go_upto_region 1 with fail
    refine chk (fun W => Below w.heap.size w W ∧ W.heap[w.heap.size]? = some (.cells #[.int .i64 D, .int .i64 A, .int .i64 C] 24 (0, 0))) (by refine ⟨?_, ?_⟩ <;> (repeat' first | (with_reducible first | assumption | (apply Ne.symm; assumption) | apply Nat.le_refl | apply Nat.le_add_right | apply zL | apply zRf | apply Wx.box | apply Wx.box4 | apply zWa | apply Wx.drew | apply zWn | apply bx_drew | apply bx_drewN | apply bx_set3 | apply bx_set2 | apply bx_set4 | apply bx_set1) | ((with_reducible apply bx_new); (focus (go_size; done))) | (with_reducible first | apply zOl | apply zFa | apply zDn | apply zDr | apply zAl | apply zSt | refine zVi (by assumption) ?_ ?_) | go_size | omega)) ?_
    rintro w1 ⟨hB1, H_Q_1⟩
    obtain ⟨k_Q_1_0, k_Q_1_1, k_Q_1_2, f_Q_1, l_Q_1⟩ := bk3 H_Q_1
    replace H_Q_1 := Lib.hid H_Q_1
    go_wp2_with (first | (have _t := tok2; go_at_call 26; (with_reducible refine ((TB _).out).mono ?_); rintro e w2 ⟨a, n, c, rfl, hx, hb2⟩; clear tok2 _t; have hz2 := hb2.size; (try simp only [World.size_alloc, World.size_setCell, World.size_drew, World.size_drewN'] at hz2)))
    go_ret2
    exact ⟨_, w.heap.size, rfl, ownI_nil _ _ _, Nat.le_refl _, below_via hb2 hB1 (by go_size)⟩
  · rw [if_neg h0]
    simp only [h0, if_false, ne_eq, not_false_eq_true, decide_true] at TB
    obtain ⟨L, hL⟩ : ∃ L, bdL D A C = L := ⟨_, rfl⟩
    rw [hL] at TB hla h2 hne hll ⊢
    clear h0 hL
    obtain ⟨y, hy⟩ : ∃ y, L[L.length - 1]?.getD 0 = y := ⟨_, rfl⟩
    rw [hy] at hla
    have hlp : 0 < L.length := List.length_pos_iff.2 hne
    by_cases hbig : 997 < y
    · have hR : flF D A C L [] = ([], false) := by
        refine flF_big ⟨y, ?_, hbig⟩
        rw [← hy, List.getElem?_eq_getElem (by omega)]
        simp
      rw [hR]
      clear hR hla h2
      have tok1 : True := trivial
      have tok2 : True := trivial
      go_enter Tryz.func23, Tryz.ntmps23
      go_upto_region 1 with fail
      refine chk (fun W => Below w.heap.size w W ∧ W.heap[w.heap.size]? = some (.cells #[.int .i64 D, .int .i64 A, .int .i64 C] 24 (0, 0))) (by refine ⟨?_, ?_⟩ <;> (repeat' first | (with_reducible first | assumption | (apply Ne.symm; assumption) | apply Nat.le_refl | apply Nat.le_add_right | apply zL | apply zRf | apply Wx.box | apply Wx.box4 | apply zWa | apply Wx.drew | apply zWn | apply bx_drew | apply bx_drewN | apply bx_set3 | apply bx_set2 | apply bx_set4 | apply bx_set1) | ((with_reducible apply bx_new); (focus (go_size; done))) | (with_reducible first | apply zOl | apply zFa | apply zDn | apply zDr | apply zAl | apply zSt | refine zVi (by assumption) ?_ ?_) | go_size | omega)) ?_
      rintro w1 ⟨hB1, H_Q_1⟩
      obtain ⟨k_Q_1_0, k_Q_1_1, k_Q_1_2, f_Q_1, l_Q_1⟩ := bk3 H_Q_1
      replace H_Q_1 := Lib.hid H_Q_1
      go_upto_region 2 with (first | (have _t := tok2; go_at_call 26; (with_reducible refine ((TB _).out).mono ?_); rintro e w2 ⟨a, n, c, rfl, hx, hb2⟩; clear tok2 _t; have hz2 := hb2.size; (try simp only [World.size_alloc, World.size_setCell, World.size_drew, World.size_drewN'] at hz2)))
      have H_Q_2 := (hb2.block (w.heap.size) (blk_lt' H_Q_1.out)).trans H_Q_1.out
      clear k_Q_1_0 k_Q_1_1 k_Q_1_2 f_Q_1 H_Q_1
      obtain ⟨k_Q_2_0, k_Q_2_1, k_Q_2_2, f_Q_2, l_Q_2⟩ := bk3 H_Q_2
      replace H_Q_2 := Lib.hid H_Q_2
      have hB2 : Below w.heap.size w w2 := below_via hb2 (by assumption) (by first | exact hB1.size | go_size)
      obtain ⟨b, off, rfl, hbb, hcs⟩ := hx.at (by have := hx.len; omega)
      have hn := hx.len
      subst hn
      have c0 := hcs (L.length - 1) (by omega)
      rw [hy] at c0
      clear hcs hx hy
      go_wp2_with fail
      go_ret2
      exact ⟨_, w.heap.size, rfl, ownI_nil _ _ _, Nat.le_refl _, hB2⟩
    · have HLA := Lib.hid (fun x (hx : x ∈ L) => (show x ≤ 997 by have := hla x hx; omega))
      have H2 := Lib.hid h2
      obtain ⟨R, hR⟩ : ∃ R, flF D A C L [] = R := ⟨_, rfl⟩
      rw [hR]
      have HR := Lib.hid hR
      clear hla h2 hR
      have tok1 : True := trivial
      have tok2 : True := trivial
      have tok3 : True := trivial
      have tok4 : True := trivial
      have tok5 : True := trivial
      have tok6 : True := trivial
      have tok7 : True := trivial
      have tok8 : True := trivial
      go_enter Tryz.func23, Tryz.ntmps23
      go_upto_region 1 with fail
      refine chk (fun W => Below w.heap.size w W ∧ W.heap[w.heap.size]? = some (.cells #[.int .i64 D, .int .i64 A, .int .i64 C] 24 (0, 0))) (by refine ⟨?_, ?_⟩ <;> (repeat' first | (with_reducible first | assumption | (apply Ne.symm; assumption) | apply Nat.le_refl | apply Nat.le_add_right | apply zL | apply zRf | apply Wx.box | apply Wx.box4 | apply zWa | apply Wx.drew | apply zWn | apply bx_drew | apply bx_drewN | apply bx_set3 | apply bx_set2 | apply bx_set4 | apply bx_set1) | ((with_reducible apply bx_new); (focus (go_size; done))) | (with_reducible first | apply zOl | apply zFa | apply zDn | apply zDr | apply zAl | apply zSt | refine zVi (by assumption) ?_ ?_) | go_size | omega)) ?_
      rintro w1 ⟨hB1, H_Q_1⟩
      obtain ⟨k_Q_1_0, k_Q_1_1, k_Q_1_2, f_Q_1, l_Q_1⟩ := bk3 H_Q_1
      replace H_Q_1 := Lib.hid H_Q_1
      go_upto_region 2 with (first | (have _t := tok2; go_at_call 26; (with_reducible refine ((TB _).out).mono ?_); rintro e w2 ⟨a, n, c, rfl, hx, hb2⟩; clear tok2 _t; have hz2 := hb2.size; (try simp only [World.size_alloc, World.size_setCell, World.size_drew, World.size_drewN'] at hz2)))
      have H_Q_2 := (hb2.block (w.heap.size) (blk_lt' H_Q_1.out)).trans H_Q_1.out
      clear k_Q_1_0 k_Q_1_1 k_Q_1_2 f_Q_1 H_Q_1
      obtain ⟨k_Q_2_0, k_Q_2_1, k_Q_2_2, f_Q_2, l_Q_2⟩ := bk3 H_Q_2
      replace H_Q_2 := Lib.hid H_Q_2
      have hB2 : Below w.heap.size w w2 := below_via hb2 (by assumption) (by first | exact hB1.size | go_size)
      have hw2 := hB2.size
      have hxn := hx.at (by have := hx.len; omega)
      obtain ⟨b, off, rfl, hbb, hcs⟩ := hxn
      have hn := hx.len
      subst hn
      have c0 := hcs (L.length - 1) (by omega)
      rw [hy] at c0
      have HCS := Lib.hid hcs
      clear hcs hx hy
      go_wp2_with fail
      clear c0
      go_loopw [6, 29] (fun ov iv wr => FgRel w w2 D A C L R ov iv wr) (fun _ iv _ => (L.length - intOf iv).toNat)
      case atStart => exact ⟨0, [], _, rfl, rfl, by omega, by simp, by simpa using HR.out, ownI_nil _ _ _, H_Q_2.out, hB2, Below.refl _ _⟩
      case round =>
        obtain ⟨k, out, v, rfl, rfl, hk, hol, hres, ho, hQ, hbw, hb2w⟩ := hrel
        have hsw := hbw.size
        have HO := Lib.hid ho
        clear ho
        by_cases hlt : k < L.length
        · have hltc : (k : Int) < (L.length : Int) := by omega
          have hmem : (L[k]?.getD 0) ∈ L := by rw [List.getElem?_eq_getElem hlt]; simp
          have hx2 := H2.out _ hmem
          have hx9 := HLA.out _ hmem
          have c1 := (hb2w.cell (p := ⟨b, off + k, none⟩) hbb).trans (HCS.out k hlt)
          rw [drop_at hlt] at hres
          obtain ⟨x, hxe⟩ : ∃ x, L[k]?.getD 0 = x := ⟨_, rfl⟩
          rw [hxe] at hres hx2 hx9 c1
          clear hmem hxe
          have TS := fun W : World => Lib.hid (soluble_any D A C x W hx2 (by omega))
          unfold flF at hres
          rw [if_neg (by omega)] at hres
          obtain ⟨⟨s1, s2⟩, hsl⟩ : ∃ s, slV D A C x = s := ⟨_, rfl⟩
          rw [hsl] at hres TS
          clear hsl
          dsimp only at hres TS
          go_upto_region 8 with fail
          replace H_Q_2 := H_Q_2.out
          refine chk (fun W => Below w.heap.size w W ∧ W.heap[w.heap.size]? = some (.cells #[.int .i64 D, .int .i64 A, .int .i64 C] 24 (0, 0)) ∧ wr = W) (by refine ⟨?_, ?_, ?_⟩ <;> (repeat' first | (with_reducible first | assumption | (apply Ne.symm; assumption) | apply Nat.le_refl | apply Nat.le_add_right | apply zL | apply zRf | apply Wx.box | apply Wx.box4 | apply zWa | apply Wx.drew | apply zWn | apply bx_drew | apply bx_drewN | apply bx_set3 | apply bx_set2 | apply bx_set4 | apply bx_set1) | ((with_reducible apply bx_new); (focus (go_size; done))) | (with_reducible first | apply zOl | apply zFa | apply zDn | apply zDr | apply zAl | apply zSt | refine zVi (by assumption) ?_ ?_) | go_size | omega)) ?_
          clear k_Q_2_0 k_Q_2_1 k_Q_2_2 f_Q_2 H_Q_2
          clear hB2
          rintro w3 ⟨hB3, H_Q_3, HE⟩
          obtain ⟨k_Q_3_0, k_Q_3_1, k_Q_3_2, f_Q_3, l_Q_3⟩ := bk3 H_Q_3
          replace H_Q_3 := Lib.hid H_Q_3
          subst HE
          clear hQ c1
          cases s2
          · simp only [if_true] at hres
            subst hres
            go_upto_region 9 with (first | (have _t := tok4; go_at_call 48; (with_reducible refine ((TS _).out).mono ?_); rintro e w4 ⟨rfl, hb4⟩; clear tok4 _t; have hz4 := hb4.size; (try simp only [World.size_alloc, World.size_setCell, World.size_drew, World.size_drewN'] at hz4)))
            have H_Q_4 := (hb4.block (w.heap.size) (blk_lt' H_Q_3.out)).trans H_Q_3.out
            clear k_Q_3_0 k_Q_3_1 k_Q_3_2 f_Q_3 H_Q_3
            obtain ⟨k_Q_4_0, k_Q_4_1, k_Q_4_2, f_Q_4, l_Q_4⟩ := bk3 H_Q_4
            replace H_Q_4 := Lib.hid H_Q_4
            have hB4 : Below w.heap.size w w4 := below_via hb4 (by assumption) (by first | exact hB3.size | go_size)
            go_wp2_with fail
            go_ret2
            exact ⟨_, w.heap.size, rfl, ownI_nil _ _ _, Nat.le_refl _, hB4⟩
          · simp only [Bool.true_eq_false, if_false] at hres
            have HRS := Lib.hid hres
            clear hres
            cases s1
            · have _t := trivial
              go_upto_region 12 with (first | (have _t := tok4; go_at_call 48; (with_reducible refine ((TS _).out).mono ?_); rintro e w4 ⟨rfl, hb4⟩; clear tok4 _t; have hz4 := hb4.size; (try simp only [World.size_alloc, World.size_setCell, World.size_drew, World.size_drewN'] at hz4)))
              have H_Q_4 := (hb4.block (w.heap.size) (blk_lt' H_Q_3.out)).trans H_Q_3.out
              clear k_Q_3_0 k_Q_3_1 k_Q_3_2 f_Q_3 H_Q_3
              obtain ⟨k_Q_4_0, k_Q_4_1, k_Q_4_2, f_Q_4, l_Q_4⟩ := bk3 H_Q_4
              replace H_Q_4 := Lib.hid H_Q_4
              have hB4 : Below w.heap.size w w4 := below_via hb4 (by assumption) (by first | exact hB3.size | go_size)
              replace H_Q_4 := H_Q_4.out
              refine chk (fun W => Below w.heap.size w W ∧ W.heap[w.heap.size]? = some (.cells #[.int .i64 D, .int .i64 A, .int .i64 C] 24 (0, 0)) ∧ Below wr.heap.size wr W) (by refine ⟨?_, ?_, ?_⟩ <;> (repeat' first | (with_reducible first | assumption | (apply Ne.symm; assumption) | apply Nat.le_refl | apply Nat.le_add_right | apply zL | apply zRf | apply Wx.box | apply Wx.box4 | apply zWa | apply Wx.drew | apply zWn | apply bx_drew | apply bx_drewN | apply bx_set3 | apply bx_set2 | apply bx_set4 | apply bx_set1) | ((with_reducible apply bx_new); (focus (go_size; done))) | (with_reducible first | apply zOl | apply zFa | apply zDn | apply zDr | apply zAl | apply zSt | refine zVi (by assumption) ?_ ?_) | go_size | omega)) ?_
              clear k_Q_4_0 k_Q_4_1 k_Q_4_2 f_Q_4 H_Q_4
              clear hB4
              rintro w5 ⟨hB5, H_Q_5, hbr⟩
              obtain ⟨k_Q_5_0, k_Q_5_1, k_Q_5_2, f_Q_5, l_Q_5⟩ := bk3 H_Q_5
              replace H_Q_5 := Lib.hid H_Q_5
              have hs5 := hbr.size
              have HO4 := Lib.hid (HO.out.below hbr)
              have q1 := H_Q_5.out
              have hb25 := hb2w.trans (hbr.mono hb2w.size)
              have hs25 := hb25.size
              go_wp2_with (first | (at_builtin; refine wpList_append_own_at _ rfl _ _ 26 rfl w2.heap.size 3 i0 (.int .i64 0) 1 8 Tryz.underlying26 hi iz0 iz1 iz2 rfl (by decide) v out.length _ rfl (HO4.out.alloc _) ⟨w5.heap.size, 0, none⟩ 1 1 [_] rfl rfl (cell_one_new _ _ _) (by simp [Value.oneCell']) (by unfold maxLen; omega) (by omega) (by simp; omega) ?_; intro v1 w6 hv1 hg1 _ hat))
              go_roundw
              case rel =>
                refine ⟨k + 1, out ++ [x], v1, by go_num, rfl, by omega, by simp; omega, by have := HRS.out; simpa using this, ?_, ?_, ?_, ?_⟩
                · unfold OwnI
                  rw [ints_append, ints_one, List.length_append]
                  exact hv1
                · have h5 : (w5.alloc (.cells #[.int .i64 x] 3 (0, 0))).heap[w.heap.size]? = some (.cells #[.int .i64 D, .int .i64 A, .int .i64 C] 24 (0, 0)) := bx_old q1 _
                  exact (hg1.block _ (blk_lt' h5) (row_type4 HO4.out q1 (by decide))).trans h5
                · exact (hB5.alloc (by have := hB5.size; omega) _).grown hg1 (by simp; have := hB5.size; omega) (fun j h => by have := (HO4.out.lt _ h).1; omega)
                · exact (hb25.alloc (by have := hb25.size; omega) _).grown hg1 (by simp; have := hb25.size; omega) (fun j h => (HO4.out.lt _ h).1)
              case measure => simp [intOf]; omega
            · have _t := trivial
              go_upto_region 13 with (first | (have _t := tok4; go_at_call 48; (with_reducible refine ((TS _).out).mono ?_); rintro e w4 ⟨rfl, hb4⟩; clear tok4 _t; have hz4 := hb4.size; (try simp only [World.size_alloc, World.size_setCell, World.size_drew, World.size_drewN'] at hz4)))
              have H_Q_4 := (hb4.block (w.heap.size) (blk_lt' H_Q_3.out)).trans H_Q_3.out
              clear k_Q_3_0 k_Q_3_1 k_Q_3_2 f_Q_3 H_Q_3
              obtain ⟨k_Q_4_0, k_Q_4_1, k_Q_4_2, f_Q_4, l_Q_4⟩ := bk3 H_Q_4
              replace H_Q_4 := Lib.hid H_Q_4
              have hB4 : Below w.heap.size w w4 := below_via hb4 (by assumption) (by first | exact hB3.size | go_size)
              have q1 := H_Q_4.out
              have hb24 := hb2w.trans (hb4.mono hb2w.size)
              go_wp2_with fail
              go_roundw
              case rel => exact ⟨k + 1, out, v, by go_num, rfl, by omega, by omega, by have := HRS.out; simpa using this, HO.out.below hb4, q1, hB4, hb24⟩
              case measure => simp [intOf]; omega
        · obtain rfl : k = L.length := by omega
          rw [List.drop_length] at hres
          unfold flF at hres
          subst hres
          go_wp2_with fail
          go_ret2
          exact ⟨_, w2.heap.size, rfl, HO.out, hw2, hbw⟩
end Go.Proofs.YtegiddpakocodaaGreat
