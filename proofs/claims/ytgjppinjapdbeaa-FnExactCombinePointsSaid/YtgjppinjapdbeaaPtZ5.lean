/- Sums of multiples of points: the program. -/
import Derived.Test.YtgjppinjapdbeaaPtZ2
import Derived.Test.YtgjppinjapdbeaaPtZ4
namespace Go.Proofs.Ytgjppinjapdbeaa
open Go.RowKit
set_option linter.unusedVariables false
set_option maxHeartbeats 16000000
set_option maxRecDepth 20000
set_option linter.unusedSimpArgs false
attribute [local go_sem] openAt openUpon
def CoRel (w w4 : World) (A B : Int) (zs ns : List Int) (n : Nat) (iv : Value) (wr : World) : Prop := ∃ (k : Nat) (a b c : Int), iv = .int .i64 k ∧ k ≤ n ∧ cmS A zs ns k = (a, b, c, true) ∧
  wr.heap[w.heap.size]? = some (.cells #[.int .i64 A, .int .i64 B] 31 (0, 0)) ∧ wr.heap[w.heap.size + 1]? = some (.cells #[.int .i64 0, .int .i64 0, .int .i64 0] 28 (0, 0)) ∧
  wr.heap[w4.heap.size]? = some (.cells #[.int .i64 a, .int .i64 b, .int .i64 c] 28 (0, 0)) ∧ Below w.heap.size w wr
theorem combine_any (A B : Int) (a0 b0 : Option Addr) (m c0 d0 : Nat) (zs ns : List Int) (w : World) (hp : Px w a0 m c0 zs) (hs : Sx w b0 m d0 ns) (hcv : cvB A B = true) (hA : -1000 ≤ A ∧ A ≤ 1000) (hB : -10000 ≤ B ∧ B ≤ 10000) (hn4 : 1 ≤ m ∧ m ≤ 4)
    (hpt : ∀ j, j < m → ptB A B (zs[j * 3]?.getD 0) (zs[j * 3 + 1]?.getD 0) (zs[j * 3 + 2]?.getD 0) = true) (hfit : ∀ j, j < m → -12 ≤ ns[j]?.getD 0 ∧ ns[j]?.getD 0 ≤ 12) :
    Calls Try.prog 29 #[.agg #[.int .i64 A, .int .i64 B], .slice a0 m c0, .slice b0 m d0] w fun r w' =>
      r = .returned (.tuple #[.agg #[.int .i64 (cmS A zs ns m).1, .int .i64 (cmS A zs ns m).2.1, .int .i64 (cmS A zs ns m).2.2.1], .bool (cmS A zs ns m).2.2.2]) ∧ Below w.heap.size w w' := by
  · have hnm := hp.cap
    have hnm2 := hp.max
    unfold maxLen at hnm2
    obtain ⟨r1, r2, r3, r4, hr⟩ := pt4 (cmS A zs ns m)
    rw [hr]
    have HR := Lib.hid hr
    clear hr
    have tok1 : True := trivial
    have tok2 : True := trivial
    have tok3 : True := trivial
    have tok4 : True := trivial
    have tok5 : True := trivial
    have tok6 : True := trivial
    go_enter Try.func29, Try.ntmps29
    go_upto_region 1 with fail
    refine chk (fun W => Below w.heap.size w W ∧ W.heap[w.heap.size]? = some (.cells #[.int .i64 A, .int .i64 B] 31 (0, 0)) ∧ W.heap[w.heap.size + 1]? = some (.cells #[.int .i64 0, .int .i64 0, .int .i64 0] 28 (0, 0))) (by refine ⟨?_, ?_, ?_⟩ <;> (repeat' first | (with_reducible first | assumption | (apply Ne.symm; assumption) | apply Nat.le_refl | apply Nat.le_add_right | apply zL | apply zRf | apply Wx.box | apply Wx.box4 | apply zWa | apply Wx.drew | apply zWn | apply bx_drew | apply bx_drewN | apply bx_set3 | apply bx_set2 | apply bx_set4 | apply bx_set1) | ((with_reducible apply bx_new); (focus (go_size; done))) | (with_reducible first | apply zOl | apply zFa | apply zDn | apply zDr | apply zAl | apply zSt | refine zVi (by assumption) ?_ ?_) | go_size | omega)) ?_
    rintro w2 ⟨hB2, H_C_2, H_O_2⟩
    obtain ⟨k_C_2_0, k_C_2_1, f_C_2, l_C_2⟩ := bk2 H_C_2
    replace H_C_2 := Lib.hid H_C_2
    obtain ⟨k_O_2_0, k_O_2_1, k_O_2_2, f_O_2, l_O_2⟩ := bk3 H_O_2
    replace H_O_2 := Lib.hid H_O_2
    go_wp2_with fail
    go_loopw [18] (fun iv wr => CoRel w w2 A B zs ns m iv wr) (fun iv _ => (m - intOf iv).toNat)
    case atStart =>
      have q1 := H_C_2.out
      have q2 := H_O_2.out
      exact ⟨0, 0, 0, 0, rfl, by omega, rfl, by (repeat' first | (with_reducible first | assumption | (apply Ne.symm; assumption) | apply Nat.le_refl | apply Nat.le_add_right | apply zL | apply zRf | apply Wx.box | apply Wx.box4 | apply zWa | apply Wx.drew | apply zWn | apply bx_drew | apply bx_drewN | apply bx_set3 | apply bx_set2 | apply bx_set4 | apply bx_set1) | ((with_reducible apply bx_new); (focus (go_size; done))) | (with_reducible first | apply zOl | apply zFa | apply zDn | apply zDr | apply zAl | apply zSt | refine zVi (by assumption) ?_ ?_) | go_size | omega), by (repeat' first | (with_reducible first | assumption | (apply Ne.symm; assumption) | apply Nat.le_refl | apply Nat.le_add_right | apply zL | apply zRf | apply Wx.box | apply Wx.box4 | apply zWa | apply Wx.drew | apply zWn | apply bx_drew | apply bx_drewN | apply bx_set3 | apply bx_set2 | apply bx_set4 | apply bx_set1) | ((with_reducible apply bx_new); (focus (go_size; done))) | (with_reducible first | apply zOl | apply zFa | apply zDn | apply zDr | apply zAl | apply zSt | refine zVi (by assumption) ?_ ?_) | go_size | omega), by (repeat' first | (with_reducible first | assumption | (apply Ne.symm; assumption) | apply Nat.le_refl | apply Nat.le_add_right | apply zL | apply zRf | apply Wx.box | apply Wx.box4 | apply zWa | apply Wx.drew | apply zWn | apply bx_drew | apply bx_drewN | apply bx_set3 | apply bx_set2 | apply bx_set4 | apply bx_set1) | ((with_reducible apply bx_new); (focus (go_size; done))) | (with_reducible first | apply zOl | apply zFa | apply zDn | apply zDr | apply zAl | apply zSt | refine zVi (by assumption) ?_ ?_) | go_size | omega), by (repeat' first | (with_reducible first | assumption | (apply Ne.symm; assumption) | apply Nat.le_refl | apply Nat.le_add_right | apply zL | apply zRf | apply Wx.box | apply Wx.box4 | apply zWa | apply Wx.drew | apply zWn | apply bx_drew | apply bx_drewN | apply bx_set3 | apply bx_set2 | apply bx_set4 | apply bx_set1) | ((with_reducible apply bx_new); (focus (go_size; done))) | (with_reducible first | apply zOl | apply zFa | apply zDn | apply zDr | apply zAl | apply zSt | refine zVi (by assumption) ?_ ?_) | go_size | omega)⟩
    case round =>
      obtain ⟨k, a, b, c, rfl, hk, hm, hC, hO, hS, hbw⟩ := hrel
      have HM := Lib.hid hm
      clear hm
      by_cases hlt : k < m
      · have hltc : (k : Int) < m := by omega
        obtain ⟨b1, off, rfl, hb1, hcs⟩ := hp.at (by omega)
        obtain ⟨b2, off2, rfl, hb2, hcs2⟩ := hs.at (by omega)
        have d0 := hcs2 k hlt
        have e0 := (hbw.cell (p := ⟨b1, off + k * 3, none⟩) hb1).trans (hcs (k * 3) (by omega))
        have e1 := (hbw.cell (p := ⟨b1, off + k * 3 + 1, none⟩) hb1).trans (hcs (k * 3 + 1) (by omega))
        have e2 := (hbw.cell (p := ⟨b1, off + k * 3 + 2, none⟩) hb1).trans (hcs (k * 3 + 2) (by omega))
        have hpk := hpt k hlt
        have hnk := hfit k hlt
        obtain ⟨X, hX⟩ : ∃ v, zs[k * 3]?.getD 0 = v := ⟨_, rfl⟩
        obtain ⟨Y, hY⟩ : ∃ v, zs[k * 3 + 1]?.getD 0 = v := ⟨_, rfl⟩
        obtain ⟨E, hE⟩ : ∃ v, zs[k * 3 + 2]?.getD 0 = v := ⟨_, rfl⟩
        obtain ⟨N, hN⟩ : ∃ v, ns[k]?.getD 0 = v := ⟨_, rfl⟩
        rw [hX] at e0
        rw [hY] at e1
        rw [hE] at e2
        rw [hN] at d0 hnk
        rw [hX, hY, hE] at hpk
        have TT := fun W : World => Lib.hid (MultiplePoint_any A B X Y E N W hcv hA hB hpk hnk)
        have hok2 := ptN_ok (n := N) hA hB hpk
        have hok1 := cmS_ok (ns := ns) hA hB hpt k (by omega)
        rw [HM.out] at hok1
        obtain ⟨q1, q2, q3, q4, hq⟩ := pt4 (ptN A X Y E N)
        have hst := cmS_step HM.out hX hY hE hN hq
        have HST := Lib.hid hst
        have D0 := Lib.hid d0
        clear d0
        rw [hq] at TT hok2
        have HOK1 := Lib.hid hok1
        have HOK2 := Lib.hid hok2
        have hsw := hbw.size
        clear hst hX hY hE hN hq hok1 hok2 hcs hcs2 hpk hnk
        go_upto_region 5 with fail
        replace H_C_2 := H_C_2.out
        replace H_O_2 := H_O_2.out
        refine chk (fun W => Below w.heap.size w W ∧ W.heap[w.heap.size]? = some (.cells #[.int .i64 A, .int .i64 B] 31 (0, 0)) ∧ W.heap[w.heap.size + 1]? = some (.cells #[.int .i64 0, .int .i64 0, .int .i64 0] 28 (0, 0)) ∧ W.heap[w2.heap.size]? = some (.cells #[.int .i64 a, .int .i64 b, .int .i64 c] 28 (0, 0)) ∧ W.heap[wr.heap.size]? = some (.cells #[.int .i64 X, .int .i64 Y, .int .i64 E] 28 (0, 0))) (by refine ⟨?_, ?_, ?_, ?_, ?_⟩ <;> (repeat' first | (with_reducible first | assumption | (apply Ne.symm; assumption) | apply Nat.le_refl | apply Nat.le_add_right | apply zL | apply zRf | apply Wx.box | apply Wx.box4 | apply zWa | apply Wx.drew | apply zWn | apply bx_drew | apply bx_drewN | apply bx_set3 | apply bx_set2 | apply bx_set4 | apply bx_set1) | ((with_reducible apply bx_new); (focus (go_size; done))) | (with_reducible first | apply zOl | apply zFa | apply zDn | apply zDr | apply zAl | apply zSt | refine zVi (by assumption) ?_ ?_) | go_size | omega)) ?_
        clear k_C_2_0 k_C_2_1 f_C_2 H_C_2
        clear k_O_2_0 k_O_2_1 k_O_2_2 f_O_2 H_O_2
        clear hB2
        rintro w3 ⟨hB3, H_C_3, H_O_3, H_S_3, H_P_3⟩
        obtain ⟨k_C_3_0, k_C_3_1, f_C_3, l_C_3⟩ := bk2 H_C_3
        replace H_C_3 := Lib.hid H_C_3
        obtain ⟨k_O_3_0, k_O_3_1, k_O_3_2, f_O_3, l_O_3⟩ := bk3 H_O_3
        replace H_O_3 := Lib.hid H_O_3
        obtain ⟨k_S_3_0, k_S_3_1, k_S_3_2, f_S_3, l_S_3⟩ := bk3 H_S_3
        replace H_S_3 := Lib.hid H_S_3
        obtain ⟨k_P_3_0, k_P_3_1, k_P_3_2, f_P_3, l_P_3⟩ := bk3 H_P_3
        replace H_P_3 := Lib.hid H_P_3
        have d0 := (hB3.cell (p := ⟨b2, off2 + k, none⟩) hb2).trans D0.out
        have hb23 : b2 < w3.heap.size := by have := hB3.size; omega
        clear e0 e1 e2 hC hO hS
        have HAB := Lib.hid (And.intro hA hB)
        have HPS := Lib.hid (And.intro hp hs)
        have HFT := Lib.hid (And.intro hpt hfit)
        clear hA hB hp hs hpt hfit hnm hnm2
        go_region_held3 (fun w' => w'.cell? ⟨w.heap.size, 0, none⟩ = some (.int .i64 A) ∧ w'.cell? ⟨w.heap.size, 1, none⟩ = some (.int .i64 B) ∧ w'.cell? ⟨wr.heap.size, 0, none⟩ = some (.int .i64 X) ∧ w'.cell? ⟨wr.heap.size, 1, none⟩ = some (.int .i64 Y) ∧ w'.cell? ⟨wr.heap.size, 2, none⟩ = some (.int .i64 E) ∧ w'.cell? ⟨b2, off2 + k, none⟩ = some (.int .i64 N)) (first | (refine ⟨zfar3 (by assumption) ?_, zfar3 (by assumption) ?_, zfar3 (by assumption) ?_, zfar3 (by assumption) ?_, zfar3 (by assumption) ?_, zfar3 (by assumption) ?_⟩ <;> (focus (omega; done))) | (go_keep; done)) (first | (go_at_call 53; (with_reducible refine ((TT _).out).mono ?_); have HH := ‹World.cell? _ ⟨w.heap.size, 0, none⟩ = some (.int .i64 A) ∧ _›; rintro e w4 ⟨rfl, hb4⟩; have z4 := hb4.size; (try simp only [World.size_alloc, World.size_setCell, World.size_drew, World.size_drewN'] at z4); (try (refine zcellAtQ hb4 (w3.heap.size) ?_ ?_; (focus (go_size; done)); intro kq zf zl; have z0 := kq 0; have z1 := kq 1; have z2 := kq 2; clear kq; (try simp [go_sem, *] at z0 z1 z2 zf))); have q0_ : w4.cell? ⟨w.heap.size, 0, none⟩ = some (.int .i64 A) := (hb4.cell (p := ⟨w.heap.size, 0, none⟩) (by go_size)).trans HH.1; have q1_ : w4.cell? ⟨w.heap.size, 1, none⟩ = some (.int .i64 B) := (hb4.cell (p := ⟨w.heap.size, 1, none⟩) (by go_size)).trans HH.2.1; have q2_ : w4.cell? ⟨wr.heap.size, 0, none⟩ = some (.int .i64 X) := (hb4.cell (p := ⟨wr.heap.size, 0, none⟩) (by go_size)).trans HH.2.2.1; have q3_ : w4.cell? ⟨wr.heap.size, 1, none⟩ = some (.int .i64 Y) := (hb4.cell (p := ⟨wr.heap.size, 1, none⟩) (by go_size)).trans HH.2.2.2.1; have q4_ : w4.cell? ⟨wr.heap.size, 2, none⟩ = some (.int .i64 E) := (hb4.cell (p := ⟨wr.heap.size, 2, none⟩) (by go_size)).trans HH.2.2.2.2.1; have q5_ : w4.cell? ⟨b2, off2 + k, none⟩ = some (.int .i64 N) := (hb4.cell (p := ⟨b2, off2 + k, none⟩) (by go_size)).trans HH.2.2.2.2.2))
        · have _t := trivial
          (try have HZ : w4.heap[w3.heap.size]? = some (.cells #[.int .i64 0, .int .i64 0, .int .i64 0] 28 (0, 0)) := (hb4.block w3.heap.size (by simp)).trans (heap_alloc_new w3 _))
          have HY := heap_alloc_new w4 (.cells #[.int .i64 q1, .int .i64 q2, .int .i64 q3] 28 (0, 0))
          have hb40 : Below w3.heap.size w3 w4 := by first | exact below_via hb4 ((Below.refl _ w3).drew) (Nat.le_refl _) | exact below_via hb4 (((Below.refl _ w3).alloc (Nat.le_refl _) _).drew) (by simp)
          clear hb4 q0_ q1_ q2_ q3_ q4_ q5_
          have hb4 := hb40
          clear hb40
          have H_C_4 := (hb4.block (w.heap.size) (blk_lt' H_C_3.out)).trans H_C_3.out
          clear k_C_3_0 k_C_3_1 f_C_3 H_C_3
          obtain ⟨k_C_4_0, k_C_4_1, f_C_4, l_C_4⟩ := bk2 H_C_4
          replace H_C_4 := Lib.hid H_C_4
          have H_O_4 := (hb4.block (w.heap.size + 1) (blk_lt' H_O_3.out)).trans H_O_3.out
          clear k_O_3_0 k_O_3_1 k_O_3_2 f_O_3 H_O_3
          obtain ⟨k_O_4_0, k_O_4_1, k_O_4_2, f_O_4, l_O_4⟩ := bk3 H_O_4
          replace H_O_4 := Lib.hid H_O_4
          have H_S_4 := (hb4.block (w2.heap.size) (blk_lt' H_S_3.out)).trans H_S_3.out
          clear k_S_3_0 k_S_3_1 k_S_3_2 f_S_3 H_S_3
          obtain ⟨k_S_4_0, k_S_4_1, k_S_4_2, f_S_4, l_S_4⟩ := bk3 H_S_4
          replace H_S_4 := Lib.hid H_S_4
          have H_P_4 := (hb4.block (wr.heap.size) (blk_lt' H_P_3.out)).trans H_P_3.out
          clear k_P_3_0 k_P_3_1 k_P_3_2 f_P_3 H_P_3
          obtain ⟨k_P_4_0, k_P_4_1, k_P_4_2, f_P_4, l_P_4⟩ := bk3 H_P_4
          replace H_P_4 := Lib.hid H_P_4
          have hB4 : Below w.heap.size w w4 := below_via hb4 (by assumption) (by go_size)
          go_upto_region 6 with fail
          replace H_C_4 := H_C_4.out
          replace H_O_4 := H_O_4.out
          replace H_S_4 := H_S_4.out
          replace H_P_4 := H_P_4.out
          refine chk (fun W => Below w.heap.size w W ∧ W.heap[w.heap.size]? = some (.cells #[.int .i64 A, .int .i64 B] 31 (0, 0)) ∧ W.heap[w.heap.size + 1]? = some (.cells #[.int .i64 0, .int .i64 0, .int .i64 0] 28 (0, 0)) ∧ W.heap[w2.heap.size]? = some (.cells #[.int .i64 a, .int .i64 b, .int .i64 c] 28 (0, 0)) ∧ W.heap[w4.heap.size]? = some (.cells #[.int .i64 q1, .int .i64 q2, .int .i64 q3] 28 (0, 0))) (by refine ⟨?_, ?_, ?_, ?_, ?_⟩ <;> (repeat' first | (with_reducible first | assumption | (apply Ne.symm; assumption) | apply Nat.le_refl | apply Nat.le_add_right | apply zL | apply zRf | apply Wx.box | apply Wx.box4 | apply zWa | apply Wx.drew | apply zWn | apply bx_drew | apply bx_drewN | apply bx_set3 | apply bx_set2 | apply bx_set4 | apply bx_set1) | ((with_reducible apply bx_new); (focus (go_size; done))) | (with_reducible first | apply zOl | apply zFa | apply zDn | apply zDr | apply zAl | apply zSt | refine zVi (by assumption) ?_ ?_) | go_size | omega)) ?_
          clear k_C_4_0 k_C_4_1 f_C_4 H_C_4
          clear k_O_4_0 k_O_4_1 k_O_4_2 f_O_4 H_O_4
          clear k_S_4_0 k_S_4_1 k_S_4_2 f_S_4 H_S_4
          clear k_P_4_0 k_P_4_1 k_P_4_2 f_P_4 H_P_4
          clear hB4
          rintro w5 ⟨hB5, H_C_5, H_O_5, H_S_5, H_Q_5⟩
          obtain ⟨k_C_5_0, k_C_5_1, f_C_5, l_C_5⟩ := bk2 H_C_5
          replace H_C_5 := Lib.hid H_C_5
          obtain ⟨k_O_5_0, k_O_5_1, k_O_5_2, f_O_5, l_O_5⟩ := bk3 H_O_5
          replace H_O_5 := Lib.hid H_O_5
          obtain ⟨k_S_5_0, k_S_5_1, k_S_5_2, f_S_5, l_S_5⟩ := bk3 H_S_5
          replace H_S_5 := Lib.hid H_S_5
          obtain ⟨k_Q_5_0, k_Q_5_1, k_Q_5_2, f_Q_5, l_Q_5⟩ := bk3 H_Q_5
          replace H_Q_5 := Lib.hid H_Q_5
          clear d0 hb23
          have hA := HAB.out.1
          have hB := HAB.out.2
          obtain ⟨s1, s2, s3, s4, hs4⟩ := pt4 (ptS A a b c q1 q2 q3)
          have hpa : ptB A B a b c = true := by rcases HOK1.out with ⟨_, h⟩ | h; exact h; simp at h
          have hpq : ptB A B q1 q2 q3 = true := by
            rcases HOK2.out with ⟨_, h⟩ | h
            · exact h
            · simp only [Prod.mk.injEq] at h
              obtain ⟨rfl, rfl, rfl, _⟩ := h
              exact ptB_zero A B
          have TA := fun W : World => addPoints_any A B a b c q1 q2 q3 W hA hB hpa hpq
          simp only [hs4] at TA
          have HS4 := Lib.hid hs4
          clear hs4 hpa hpq
          go_upto_region 7 with (first | (have _t := tok6; go_at_call 54; (with_reducible refine ((TA _)).mono ?_); rintro e w6 ⟨rfl, hb6⟩; clear tok6 _t; have hz6 := hb6.size; (try simp only [World.size_alloc, World.size_setCell, World.size_drew, World.size_drewN'] at hz6)))
          have H_C_6 := (hb6.block (w.heap.size) (blk_lt' H_C_5.out)).trans H_C_5.out
          clear k_C_5_0 k_C_5_1 f_C_5 H_C_5
          obtain ⟨k_C_6_0, k_C_6_1, f_C_6, l_C_6⟩ := bk2 H_C_6
          replace H_C_6 := Lib.hid H_C_6
          have H_O_6 := (hb6.block (w.heap.size + 1) (blk_lt' H_O_5.out)).trans H_O_5.out
          clear k_O_5_0 k_O_5_1 k_O_5_2 f_O_5 H_O_5
          obtain ⟨k_O_6_0, k_O_6_1, k_O_6_2, f_O_6, l_O_6⟩ := bk3 H_O_6
          replace H_O_6 := Lib.hid H_O_6
          have H_S_6 := (hb6.block (w2.heap.size) (blk_lt' H_S_5.out)).trans H_S_5.out
          clear k_S_5_0 k_S_5_1 k_S_5_2 f_S_5 H_S_5
          obtain ⟨k_S_6_0, k_S_6_1, k_S_6_2, f_S_6, l_S_6⟩ := bk3 H_S_6
          replace H_S_6 := Lib.hid H_S_6
          have H_Q_6 := (hb6.block (w4.heap.size) (blk_lt' H_Q_5.out)).trans H_Q_5.out
          clear k_Q_5_0 k_Q_5_1 k_Q_5_2 f_Q_5 H_Q_5
          obtain ⟨k_Q_6_0, k_Q_6_1, k_Q_6_2, f_Q_6, l_Q_6⟩ := bk3 H_Q_6
          replace H_Q_6 := Lib.hid H_Q_6
          have hB6 : Below w.heap.size w w6 := below_via hb6 (by assumption) (by go_size)
          replace H_C_6 := H_C_6.out
          replace H_O_6 := H_O_6.out
          replace H_S_6 := H_S_6.out
          replace H_Q_6 := H_Q_6.out
          refine chk (fun W => Below w.heap.size w W ∧ W.heap[w.heap.size]? = some (.cells #[.int .i64 A, .int .i64 B] 31 (0, 0)) ∧ W.heap[w.heap.size + 1]? = some (.cells #[.int .i64 0, .int .i64 0, .int .i64 0] 28 (0, 0)) ∧ W.heap[w2.heap.size]? = some (.cells #[.int .i64 a, .int .i64 b, .int .i64 c] 28 (0, 0)) ∧ W.heap[w6.heap.size]? = some (.cells #[.int .i64 s1, .int .i64 s2, .int .i64 s3] 28 (0, 0))) (by refine ⟨?_, ?_, ?_, ?_, ?_⟩ <;> (repeat' first | (with_reducible first | assumption | (apply Ne.symm; assumption) | apply Nat.le_refl | apply Nat.le_add_right | apply zL | apply zRf | apply Wx.box | apply Wx.box4 | apply zWa | apply Wx.drew | apply zWn | apply bx_drew | apply bx_drewN | apply bx_set3 | apply bx_set2 | apply bx_set4 | apply bx_set1) | ((with_reducible apply bx_new); (focus (go_size; done))) | (with_reducible first | apply zOl | apply zFa | apply zDn | apply zDr | apply zAl | apply zSt | refine zVi (by assumption) ?_ ?_) | go_size | omega)) ?_
          clear k_C_6_0 k_C_6_1 f_C_6 H_C_6
          clear k_O_6_0 k_O_6_1 k_O_6_2 f_O_6 H_O_6
          clear k_S_6_0 k_S_6_1 k_S_6_2 f_S_6 H_S_6
          clear k_Q_6_0 k_Q_6_1 k_Q_6_2 f_Q_6 H_Q_6
          clear hB6
          rintro w7 ⟨hB7, H_C_7, H_O_7, H_S_7, H_T_7⟩
          obtain ⟨k_C_7_0, k_C_7_1, f_C_7, l_C_7⟩ := bk2 H_C_7
          replace H_C_7 := Lib.hid H_C_7
          obtain ⟨k_O_7_0, k_O_7_1, k_O_7_2, f_O_7, l_O_7⟩ := bk3 H_O_7
          replace H_O_7 := Lib.hid H_O_7
          obtain ⟨k_S_7_0, k_S_7_1, k_S_7_2, f_S_7, l_S_7⟩ := bk3 H_S_7
          replace H_S_7 := Lib.hid H_S_7
          obtain ⟨k_T_7_0, k_T_7_1, k_T_7_2, f_T_7, l_T_7⟩ := bk3 H_T_7
          replace H_T_7 := Lib.hid H_T_7
          by_cases hq4 : q4 = true ∧ s4 = true
          · obtain ⟨rfl, rfl⟩ := hq4
            have hz := HST.out
            rw [if_pos rfl, HS4.out] at hz
            have HZ2 := Lib.hid hz
            clear hz
            go_wp2_with fail
            go_roundw
            have q1 := H_C_7.out
            have q2 := H_O_7.out
            have q3 := H_S_7.out
            case rel => first | exact ⟨k + 1, s1, s2, s3, by go_num, by omega, HZ2.out, by (repeat' first | (with_reducible first | assumption | (apply Ne.symm; assumption) | apply Nat.le_refl | apply Nat.le_add_right | apply zL | apply zRf | apply Wx.box | apply Wx.box4 | apply zWa | apply Wx.drew | apply zWn | apply bx_drew | apply bx_drewN | apply bx_set3 | apply bx_set2 | apply bx_set4 | apply bx_set1) | ((with_reducible apply bx_new); (focus (go_size; done))) | (with_reducible first | apply zOl | apply zFa | apply zDn | apply zDr | apply zAl | apply zSt | refine zVi (by assumption) ?_ ?_) | go_size | omega), by (repeat' first | (with_reducible first | assumption | (apply Ne.symm; assumption) | apply Nat.le_refl | apply Nat.le_add_right | apply zL | apply zRf | apply Wx.box | apply Wx.box4 | apply zWa | apply Wx.drew | apply zWn | apply bx_drew | apply bx_drewN | apply bx_set3 | apply bx_set2 | apply bx_set4 | apply bx_set1) | ((with_reducible apply bx_new); (focus (go_size; done))) | (with_reducible first | apply zOl | apply zFa | apply zDn | apply zDr | apply zAl | apply zSt | refine zVi (by assumption) ?_ ?_) | go_size | omega), by (repeat' first | (with_reducible first | assumption | (apply Ne.symm; assumption) | apply Nat.le_refl | apply Nat.le_add_right | apply zL | apply zRf | apply Wx.box | apply Wx.box4 | apply zWa | apply Wx.drew | apply zWn | apply bx_drew | apply bx_drewN | apply bx_set3 | apply bx_set2 | apply bx_set4 | apply bx_set1) | ((with_reducible apply bx_new); (focus (go_size; done))) | (with_reducible first | apply zOl | apply zFa | apply zDn | apply zDr | apply zAl | apply zSt | refine zVi (by assumption) ?_ ?_) | go_size | omega), by (repeat' first | (with_reducible first | assumption | (apply Ne.symm; assumption) | apply Nat.le_refl | apply Nat.le_add_right | apply zL | apply zRf | apply Wx.box | apply Wx.box4 | apply zWa | apply Wx.drew | apply zWn | apply bx_drew | apply bx_drewN | apply bx_set3 | apply bx_set2 | apply bx_set4 | apply bx_set1) | ((with_reducible apply bx_new); (focus (go_size; done))) | (with_reducible first | apply zOl | apply zFa | apply zDn | apply zDr | apply zAl | apply zSt | refine zVi (by assumption) ?_ ?_) | go_size | omega)⟩ | ((repeat apply Exists.intro); exact ⟨⟨k + 1, s1, s2, s3, by go_num, by omega, HZ2.out, by (repeat' first | (with_reducible first | assumption | (apply Ne.symm; assumption) | apply Nat.le_refl | apply Nat.le_add_right | apply zL | apply zRf | apply Wx.box | apply Wx.box4 | apply zWa | apply Wx.drew | apply zWn | apply bx_drew | apply bx_drewN | apply bx_set3 | apply bx_set2 | apply bx_set4 | apply bx_set1) | ((with_reducible apply bx_new); (focus (go_size; done))) | (with_reducible first | apply zOl | apply zFa | apply zDn | apply zDr | apply zAl | apply zSt | refine zVi (by assumption) ?_ ?_) | go_size | omega), by (repeat' first | (with_reducible first | assumption | (apply Ne.symm; assumption) | apply Nat.le_refl | apply Nat.le_add_right | apply zL | apply zRf | apply Wx.box | apply Wx.box4 | apply zWa | apply Wx.drew | apply zWn | apply bx_drew | apply bx_drewN | apply bx_set3 | apply bx_set2 | apply bx_set4 | apply bx_set1) | ((with_reducible apply bx_new); (focus (go_size; done))) | (with_reducible first | apply zOl | apply zFa | apply zDn | apply zDr | apply zAl | apply zSt | refine zVi (by assumption) ?_ ?_) | go_size | omega), by (repeat' first | (with_reducible first | assumption | (apply Ne.symm; assumption) | apply Nat.le_refl | apply Nat.le_add_right | apply zL | apply zRf | apply Wx.box | apply Wx.box4 | apply zWa | apply Wx.drew | apply zWn | apply bx_drew | apply bx_drewN | apply bx_set3 | apply bx_set2 | apply bx_set4 | apply bx_set1) | ((with_reducible apply bx_new); (focus (go_size; done))) | (with_reducible first | apply zOl | apply zFa | apply zDn | apply zDr | apply zAl | apply zSt | refine zVi (by assumption) ?_ ?_) | go_size | omega), by (repeat' first | (with_reducible first | assumption | (apply Ne.symm; assumption) | apply Nat.le_refl | apply Nat.le_add_right | apply zL | apply zRf | apply Wx.box | apply Wx.box4 | apply zWa | apply Wx.drew | apply zWn | apply bx_drew | apply bx_drewN | apply bx_set3 | apply bx_set2 | apply bx_set4 | apply bx_set1) | ((with_reducible apply bx_new); (focus (go_size; done))) | (with_reducible first | apply zOl | apply zFa | apply zDn | apply zDr | apply zAl | apply zSt | refine zVi (by assumption) ?_ ?_) | go_size | omega)⟩, rfl⟩)
            case measure => simp [intOf]; omega
          · have hR : cmS A zs ns m = (0, 0, 0, false) := by
              have hz := HST.out
              cases q4
              · rw [if_neg (by simp)] at hz
                exact cmS_out hz hlt
              · rw [if_pos rfl, HS4.out] at hz
                cases s4
                · have hok := cmS_ok (ns := ns) hA hB HFT.out.1 (k + 1) (by omega)
                  rw [hz] at hok
                  have h0 : (s1, s2, s3, false) = ((0, 0, 0, false) : P4) := by
                    rcases hok with ⟨h, _⟩ | h
                    · cases h
                    · exact h
                  rw [h0] at hz
                  exact cmS_out hz hlt
                · exact absurd ⟨rfl, rfl⟩ hq4
            rw [HR.out] at hR
            obtain ⟨rfl, rfl, rfl, rfl⟩ : r1 = 0 ∧ r2 = 0 ∧ r3 = 0 ∧ r4 = false := by simpa using hR
            have hq5 : (!q4 || !s4) = true := by cases q4 <;> cases s4 <;> simp at hq4 ⊢
            cases q4
            · go_upto_region 8 with fail
              iterate 40 (first | (with_reducible show bodyPost _ _ _ _ _ _) | (with_reducible refine wp_ret ?_) | go_values | go_skip | go_guarded | go_step | go_upon | go_back | skip)
              refine bodyPost_ret (v := .tuple #[.agg #[.int .i64 0, .int .i64 0, .int .i64 0], .bool false]) (by simp [results, Try.results29, go_sem, k_O_7_0, k_O_7_1, k_O_7_2]) rfl ⟨rfl, ?_⟩
              have HO := H_O_7.out
              (repeat' first | (with_reducible first | assumption | (apply Ne.symm; assumption) | apply Nat.le_refl | apply Nat.le_add_right | apply zL | apply zRf | apply Wx.box | apply Wx.box4 | apply zWa | apply Wx.drew | apply zWn | apply bx_drew | apply bx_drewN | apply bx_set3 | apply bx_set2 | apply bx_set4 | apply bx_set1) | ((with_reducible apply bx_new); (focus (go_size; done))) | (with_reducible first | apply zOl | apply zFa | apply zDn | apply zDr | apply zAl | apply zSt | refine zVi (by assumption) ?_ ?_) | go_size | omega)
            · cases s4
              · go_upto_region 8 with fail
                iterate 40 (first | (with_reducible show bodyPost _ _ _ _ _ _) | (with_reducible refine wp_ret ?_) | go_values | go_skip | go_guarded | go_step | go_upon | go_back | skip)
                refine bodyPost_ret (v := .tuple #[.agg #[.int .i64 0, .int .i64 0, .int .i64 0], .bool false]) (by simp [results, Try.results29, go_sem, k_O_7_0, k_O_7_1, k_O_7_2]) rfl ⟨rfl, ?_⟩
                have HO := H_O_7.out
                (repeat' first | (with_reducible first | assumption | (apply Ne.symm; assumption) | apply Nat.le_refl | apply Nat.le_add_right | apply zL | apply zRf | apply Wx.box | apply Wx.box4 | apply zWa | apply Wx.drew | apply zWn | apply bx_drew | apply bx_drewN | apply bx_set3 | apply bx_set2 | apply bx_set4 | apply bx_set1) | ((with_reducible apply bx_new); (focus (go_size; done))) | (with_reducible first | apply zOl | apply zFa | apply zDn | apply zDr | apply zAl | apply zSt | refine zVi (by assumption) ?_ ?_) | go_size | omega)
              · simp at hq5
        · have _t := trivial
          (try have HZ : w4.heap[w3.heap.size]? = some (.cells #[.int .i64 0, .int .i64 0, .int .i64 0] 28 (0, 0)) := (hb4.block w3.heap.size (by simp)).trans (heap_alloc_new w3 _))
          have HY := heap_alloc_new w4 (.cells #[.int .i64 q1, .int .i64 q2, .int .i64 q3] 28 (0, 0))
          have hb40 : Below w3.heap.size w3 w4 := by first | exact below_via hb4 ((Below.refl _ w3).drew) (Nat.le_refl _) | exact below_via hb4 (((Below.refl _ w3).alloc (Nat.le_refl _) _).drew) (by simp)
          clear hb4 q0_ q1_ q2_ q3_ q4_ q5_
          have hb4 := hb40
          clear hb40
          have H_C_4 := (hb4.block (w.heap.size) (blk_lt' H_C_3.out)).trans H_C_3.out
          clear k_C_3_0 k_C_3_1 f_C_3 H_C_3
          obtain ⟨k_C_4_0, k_C_4_1, f_C_4, l_C_4⟩ := bk2 H_C_4
          replace H_C_4 := Lib.hid H_C_4
          have H_O_4 := (hb4.block (w.heap.size + 1) (blk_lt' H_O_3.out)).trans H_O_3.out
          clear k_O_3_0 k_O_3_1 k_O_3_2 f_O_3 H_O_3
          obtain ⟨k_O_4_0, k_O_4_1, k_O_4_2, f_O_4, l_O_4⟩ := bk3 H_O_4
          replace H_O_4 := Lib.hid H_O_4
          have H_S_4 := (hb4.block (w2.heap.size) (blk_lt' H_S_3.out)).trans H_S_3.out
          clear k_S_3_0 k_S_3_1 k_S_3_2 f_S_3 H_S_3
          obtain ⟨k_S_4_0, k_S_4_1, k_S_4_2, f_S_4, l_S_4⟩ := bk3 H_S_4
          replace H_S_4 := Lib.hid H_S_4
          have H_P_4 := (hb4.block (wr.heap.size) (blk_lt' H_P_3.out)).trans H_P_3.out
          clear k_P_3_0 k_P_3_1 k_P_3_2 f_P_3 H_P_3
          obtain ⟨k_P_4_0, k_P_4_1, k_P_4_2, f_P_4, l_P_4⟩ := bk3 H_P_4
          replace H_P_4 := Lib.hid H_P_4
          have hB4 : Below w.heap.size w w4 := below_via hb4 (by assumption) (by go_size)
          go_upto_region 6 with fail
          replace H_C_4 := H_C_4.out
          replace H_O_4 := H_O_4.out
          replace H_S_4 := H_S_4.out
          replace H_P_4 := H_P_4.out
          refine chk (fun W => Below w.heap.size w W ∧ W.heap[w.heap.size]? = some (.cells #[.int .i64 A, .int .i64 B] 31 (0, 0)) ∧ W.heap[w.heap.size + 1]? = some (.cells #[.int .i64 0, .int .i64 0, .int .i64 0] 28 (0, 0)) ∧ W.heap[w2.heap.size]? = some (.cells #[.int .i64 a, .int .i64 b, .int .i64 c] 28 (0, 0)) ∧ W.heap[w3.heap.size]? = some (.cells #[.int .i64 q1, .int .i64 q2, .int .i64 q3] 28 (0, 0))) (by refine ⟨?_, ?_, ?_, ?_, ?_⟩ <;> (repeat' first | (with_reducible first | assumption | (apply Ne.symm; assumption) | apply Nat.le_refl | apply Nat.le_add_right | apply zL | apply zRf | apply Wx.box | apply Wx.box4 | apply zWa | apply Wx.drew | apply zWn | apply bx_drew | apply bx_drewN | apply bx_set3 | apply bx_set2 | apply bx_set4 | apply bx_set1) | ((with_reducible apply bx_new); (focus (go_size; done))) | (with_reducible first | apply zOl | apply zFa | apply zDn | apply zDr | apply zAl | apply zSt | refine zVi (by assumption) ?_ ?_) | go_size | omega)) ?_
          clear k_C_4_0 k_C_4_1 f_C_4 H_C_4
          clear k_O_4_0 k_O_4_1 k_O_4_2 f_O_4 H_O_4
          clear k_S_4_0 k_S_4_1 k_S_4_2 f_S_4 H_S_4
          clear k_P_4_0 k_P_4_1 k_P_4_2 f_P_4 H_P_4
          clear hB4
          rintro w5 ⟨hB5, H_C_5, H_O_5, H_S_5, H_Q_5⟩
          obtain ⟨k_C_5_0, k_C_5_1, f_C_5, l_C_5⟩ := bk2 H_C_5
          replace H_C_5 := Lib.hid H_C_5
          obtain ⟨k_O_5_0, k_O_5_1, k_O_5_2, f_O_5, l_O_5⟩ := bk3 H_O_5
          replace H_O_5 := Lib.hid H_O_5
          obtain ⟨k_S_5_0, k_S_5_1, k_S_5_2, f_S_5, l_S_5⟩ := bk3 H_S_5
          replace H_S_5 := Lib.hid H_S_5
          obtain ⟨k_Q_5_0, k_Q_5_1, k_Q_5_2, f_Q_5, l_Q_5⟩ := bk3 H_Q_5
          replace H_Q_5 := Lib.hid H_Q_5
          clear d0 hb23
          have hA := HAB.out.1
          have hB := HAB.out.2
          obtain ⟨s1, s2, s3, s4, hs4⟩ := pt4 (ptS A a b c q1 q2 q3)
          have hpa : ptB A B a b c = true := by rcases HOK1.out with ⟨_, h⟩ | h; exact h; simp at h
          have hpq : ptB A B q1 q2 q3 = true := by
            rcases HOK2.out with ⟨_, h⟩ | h
            · exact h
            · simp only [Prod.mk.injEq] at h
              obtain ⟨rfl, rfl, rfl, _⟩ := h
              exact ptB_zero A B
          have TA := fun W : World => addPoints_any A B a b c q1 q2 q3 W hA hB hpa hpq
          simp only [hs4] at TA
          have HS4 := Lib.hid hs4
          clear hs4 hpa hpq
          go_upto_region 7 with (first | (have _t := tok6; go_at_call 54; (with_reducible refine ((TA _)).mono ?_); rintro e w6 ⟨rfl, hb6⟩; clear tok6 _t; have hz6 := hb6.size; (try simp only [World.size_alloc, World.size_setCell, World.size_drew, World.size_drewN'] at hz6)))
          have H_C_6 := (hb6.block (w.heap.size) (blk_lt' H_C_5.out)).trans H_C_5.out
          clear k_C_5_0 k_C_5_1 f_C_5 H_C_5
          obtain ⟨k_C_6_0, k_C_6_1, f_C_6, l_C_6⟩ := bk2 H_C_6
          replace H_C_6 := Lib.hid H_C_6
          have H_O_6 := (hb6.block (w.heap.size + 1) (blk_lt' H_O_5.out)).trans H_O_5.out
          clear k_O_5_0 k_O_5_1 k_O_5_2 f_O_5 H_O_5
          obtain ⟨k_O_6_0, k_O_6_1, k_O_6_2, f_O_6, l_O_6⟩ := bk3 H_O_6
          replace H_O_6 := Lib.hid H_O_6
          have H_S_6 := (hb6.block (w2.heap.size) (blk_lt' H_S_5.out)).trans H_S_5.out
          clear k_S_5_0 k_S_5_1 k_S_5_2 f_S_5 H_S_5
          obtain ⟨k_S_6_0, k_S_6_1, k_S_6_2, f_S_6, l_S_6⟩ := bk3 H_S_6
          replace H_S_6 := Lib.hid H_S_6
          have H_Q_6 := (hb6.block (w3.heap.size) (blk_lt' H_Q_5.out)).trans H_Q_5.out
          clear k_Q_5_0 k_Q_5_1 k_Q_5_2 f_Q_5 H_Q_5
          obtain ⟨k_Q_6_0, k_Q_6_1, k_Q_6_2, f_Q_6, l_Q_6⟩ := bk3 H_Q_6
          replace H_Q_6 := Lib.hid H_Q_6
          have hB6 : Below w.heap.size w w6 := below_via hb6 (by assumption) (by go_size)
          replace H_C_6 := H_C_6.out
          replace H_O_6 := H_O_6.out
          replace H_S_6 := H_S_6.out
          replace H_Q_6 := H_Q_6.out
          refine chk (fun W => Below w.heap.size w W ∧ W.heap[w.heap.size]? = some (.cells #[.int .i64 A, .int .i64 B] 31 (0, 0)) ∧ W.heap[w.heap.size + 1]? = some (.cells #[.int .i64 0, .int .i64 0, .int .i64 0] 28 (0, 0)) ∧ W.heap[w2.heap.size]? = some (.cells #[.int .i64 a, .int .i64 b, .int .i64 c] 28 (0, 0)) ∧ W.heap[w6.heap.size]? = some (.cells #[.int .i64 s1, .int .i64 s2, .int .i64 s3] 28 (0, 0))) (by refine ⟨?_, ?_, ?_, ?_, ?_⟩ <;> (repeat' first | (with_reducible first | assumption | (apply Ne.symm; assumption) | apply Nat.le_refl | apply Nat.le_add_right | apply zL | apply zRf | apply Wx.box | apply Wx.box4 | apply zWa | apply Wx.drew | apply zWn | apply bx_drew | apply bx_drewN | apply bx_set3 | apply bx_set2 | apply bx_set4 | apply bx_set1) | ((with_reducible apply bx_new); (focus (go_size; done))) | (with_reducible first | apply zOl | apply zFa | apply zDn | apply zDr | apply zAl | apply zSt | refine zVi (by assumption) ?_ ?_) | go_size | omega)) ?_
          clear k_C_6_0 k_C_6_1 f_C_6 H_C_6
          clear k_O_6_0 k_O_6_1 k_O_6_2 f_O_6 H_O_6
          clear k_S_6_0 k_S_6_1 k_S_6_2 f_S_6 H_S_6
          clear k_Q_6_0 k_Q_6_1 k_Q_6_2 f_Q_6 H_Q_6
          clear hB6
          rintro w7 ⟨hB7, H_C_7, H_O_7, H_S_7, H_T_7⟩
          obtain ⟨k_C_7_0, k_C_7_1, f_C_7, l_C_7⟩ := bk2 H_C_7
          replace H_C_7 := Lib.hid H_C_7
          obtain ⟨k_O_7_0, k_O_7_1, k_O_7_2, f_O_7, l_O_7⟩ := bk3 H_O_7
          replace H_O_7 := Lib.hid H_O_7
          obtain ⟨k_S_7_0, k_S_7_1, k_S_7_2, f_S_7, l_S_7⟩ := bk3 H_S_7
          replace H_S_7 := Lib.hid H_S_7
          obtain ⟨k_T_7_0, k_T_7_1, k_T_7_2, f_T_7, l_T_7⟩ := bk3 H_T_7
          replace H_T_7 := Lib.hid H_T_7
          by_cases hq4 : q4 = true ∧ s4 = true
          · obtain ⟨rfl, rfl⟩ := hq4
            have hz := HST.out
            rw [if_pos rfl, HS4.out] at hz
            have HZ2 := Lib.hid hz
            clear hz
            go_wp2_with fail
            go_roundw
            have q1 := H_C_7.out
            have q2 := H_O_7.out
            have q3 := H_S_7.out
            case rel => first | exact ⟨k + 1, s1, s2, s3, by go_num, by omega, HZ2.out, by (repeat' first | (with_reducible first | assumption | (apply Ne.symm; assumption) | apply Nat.le_refl | apply Nat.le_add_right | apply zL | apply zRf | apply Wx.box | apply Wx.box4 | apply zWa | apply Wx.drew | apply zWn | apply bx_drew | apply bx_drewN | apply bx_set3 | apply bx_set2 | apply bx_set4 | apply bx_set1) | ((with_reducible apply bx_new); (focus (go_size; done))) | (with_reducible first | apply zOl | apply zFa | apply zDn | apply zDr | apply zAl | apply zSt | refine zVi (by assumption) ?_ ?_) | go_size | omega), by (repeat' first | (with_reducible first | assumption | (apply Ne.symm; assumption) | apply Nat.le_refl | apply Nat.le_add_right | apply zL | apply zRf | apply Wx.box | apply Wx.box4 | apply zWa | apply Wx.drew | apply zWn | apply bx_drew | apply bx_drewN | apply bx_set3 | apply bx_set2 | apply bx_set4 | apply bx_set1) | ((with_reducible apply bx_new); (focus (go_size; done))) | (with_reducible first | apply zOl | apply zFa | apply zDn | apply zDr | apply zAl | apply zSt | refine zVi (by assumption) ?_ ?_) | go_size | omega), by (repeat' first | (with_reducible first | assumption | (apply Ne.symm; assumption) | apply Nat.le_refl | apply Nat.le_add_right | apply zL | apply zRf | apply Wx.box | apply Wx.box4 | apply zWa | apply Wx.drew | apply zWn | apply bx_drew | apply bx_drewN | apply bx_set3 | apply bx_set2 | apply bx_set4 | apply bx_set1) | ((with_reducible apply bx_new); (focus (go_size; done))) | (with_reducible first | apply zOl | apply zFa | apply zDn | apply zDr | apply zAl | apply zSt | refine zVi (by assumption) ?_ ?_) | go_size | omega), by (repeat' first | (with_reducible first | assumption | (apply Ne.symm; assumption) | apply Nat.le_refl | apply Nat.le_add_right | apply zL | apply zRf | apply Wx.box | apply Wx.box4 | apply zWa | apply Wx.drew | apply zWn | apply bx_drew | apply bx_drewN | apply bx_set3 | apply bx_set2 | apply bx_set4 | apply bx_set1) | ((with_reducible apply bx_new); (focus (go_size; done))) | (with_reducible first | apply zOl | apply zFa | apply zDn | apply zDr | apply zAl | apply zSt | refine zVi (by assumption) ?_ ?_) | go_size | omega)⟩ | ((repeat apply Exists.intro); exact ⟨⟨k + 1, s1, s2, s3, by go_num, by omega, HZ2.out, by (repeat' first | (with_reducible first | assumption | (apply Ne.symm; assumption) | apply Nat.le_refl | apply Nat.le_add_right | apply zL | apply zRf | apply Wx.box | apply Wx.box4 | apply zWa | apply Wx.drew | apply zWn | apply bx_drew | apply bx_drewN | apply bx_set3 | apply bx_set2 | apply bx_set4 | apply bx_set1) | ((with_reducible apply bx_new); (focus (go_size; done))) | (with_reducible first | apply zOl | apply zFa | apply zDn | apply zDr | apply zAl | apply zSt | refine zVi (by assumption) ?_ ?_) | go_size | omega), by (repeat' first | (with_reducible first | assumption | (apply Ne.symm; assumption) | apply Nat.le_refl | apply Nat.le_add_right | apply zL | apply zRf | apply Wx.box | apply Wx.box4 | apply zWa | apply Wx.drew | apply zWn | apply bx_drew | apply bx_drewN | apply bx_set3 | apply bx_set2 | apply bx_set4 | apply bx_set1) | ((with_reducible apply bx_new); (focus (go_size; done))) | (with_reducible first | apply zOl | apply zFa | apply zDn | apply zDr | apply zAl | apply zSt | refine zVi (by assumption) ?_ ?_) | go_size | omega), by (repeat' first | (with_reducible first | assumption | (apply Ne.symm; assumption) | apply Nat.le_refl | apply Nat.le_add_right | apply zL | apply zRf | apply Wx.box | apply Wx.box4 | apply zWa | apply Wx.drew | apply zWn | apply bx_drew | apply bx_drewN | apply bx_set3 | apply bx_set2 | apply bx_set4 | apply bx_set1) | ((with_reducible apply bx_new); (focus (go_size; done))) | (with_reducible first | apply zOl | apply zFa | apply zDn | apply zDr | apply zAl | apply zSt | refine zVi (by assumption) ?_ ?_) | go_size | omega), by (repeat' first | (with_reducible first | assumption | (apply Ne.symm; assumption) | apply Nat.le_refl | apply Nat.le_add_right | apply zL | apply zRf | apply Wx.box | apply Wx.box4 | apply zWa | apply Wx.drew | apply zWn | apply bx_drew | apply bx_drewN | apply bx_set3 | apply bx_set2 | apply bx_set4 | apply bx_set1) | ((with_reducible apply bx_new); (focus (go_size; done))) | (with_reducible first | apply zOl | apply zFa | apply zDn | apply zDr | apply zAl | apply zSt | refine zVi (by assumption) ?_ ?_) | go_size | omega)⟩, rfl⟩)
            case measure => simp [intOf]; omega
          · have hR : cmS A zs ns m = (0, 0, 0, false) := by
              have hz := HST.out
              cases q4
              · rw [if_neg (by simp)] at hz
                exact cmS_out hz hlt
              · rw [if_pos rfl, HS4.out] at hz
                cases s4
                · have hok := cmS_ok (ns := ns) hA hB HFT.out.1 (k + 1) (by omega)
                  rw [hz] at hok
                  have h0 : (s1, s2, s3, false) = ((0, 0, 0, false) : P4) := by
                    rcases hok with ⟨h, _⟩ | h
                    · cases h
                    · exact h
                  rw [h0] at hz
                  exact cmS_out hz hlt
                · exact absurd ⟨rfl, rfl⟩ hq4
            rw [HR.out] at hR
            obtain ⟨rfl, rfl, rfl, rfl⟩ : r1 = 0 ∧ r2 = 0 ∧ r3 = 0 ∧ r4 = false := by simpa using hR
            have hq5 : (!q4 || !s4) = true := by cases q4 <;> cases s4 <;> simp at hq4 ⊢
            cases q4
            · go_upto_region 8 with fail
              iterate 40 (first | (with_reducible show bodyPost _ _ _ _ _ _) | (with_reducible refine wp_ret ?_) | go_values | go_skip | go_guarded | go_step | go_upon | go_back | skip)
              refine bodyPost_ret (v := .tuple #[.agg #[.int .i64 0, .int .i64 0, .int .i64 0], .bool false]) (by simp [results, Try.results29, go_sem, k_O_7_0, k_O_7_1, k_O_7_2]) rfl ⟨rfl, ?_⟩
              have HO := H_O_7.out
              (repeat' first | (with_reducible first | assumption | (apply Ne.symm; assumption) | apply Nat.le_refl | apply Nat.le_add_right | apply zL | apply zRf | apply Wx.box | apply Wx.box4 | apply zWa | apply Wx.drew | apply zWn | apply bx_drew | apply bx_drewN | apply bx_set3 | apply bx_set2 | apply bx_set4 | apply bx_set1) | ((with_reducible apply bx_new); (focus (go_size; done))) | (with_reducible first | apply zOl | apply zFa | apply zDn | apply zDr | apply zAl | apply zSt | refine zVi (by assumption) ?_ ?_) | go_size | omega)
            · cases s4
              · go_upto_region 8 with fail
                iterate 40 (first | (with_reducible show bodyPost _ _ _ _ _ _) | (with_reducible refine wp_ret ?_) | go_values | go_skip | go_guarded | go_step | go_upon | go_back | skip)
                refine bodyPost_ret (v := .tuple #[.agg #[.int .i64 0, .int .i64 0, .int .i64 0], .bool false]) (by simp [results, Try.results29, go_sem, k_O_7_0, k_O_7_1, k_O_7_2]) rfl ⟨rfl, ?_⟩
                have HO := H_O_7.out
                (repeat' first | (with_reducible first | assumption | (apply Ne.symm; assumption) | apply Nat.le_refl | apply Nat.le_add_right | apply zL | apply zRf | apply Wx.box | apply Wx.box4 | apply zWa | apply Wx.drew | apply zWn | apply bx_drew | apply bx_drewN | apply bx_set3 | apply bx_set2 | apply bx_set4 | apply bx_set1) | ((with_reducible apply bx_new); (focus (go_size; done))) | (with_reducible first | apply zOl | apply zFa | apply zDn | apply zDr | apply zAl | apply zSt | refine zVi (by assumption) ?_ ?_) | go_size | omega)
              · simp at hq5
      · obtain rfl : k = m := by omega
        have hR := HR.out
        rw [HM.out] at hR
        obtain ⟨rfl, rfl, rfl, rfl⟩ : a = r1 ∧ b = r2 ∧ c = r3 ∧ true = r4 := by simpa using hR
        go_upto_region 11 with fail
        replace H_C_2 := H_C_2.out
        replace H_O_2 := H_O_2.out
        refine chk (fun W => Below w.heap.size w W ∧ W.heap[w.heap.size + 1]? = some (.cells #[.int .i64 0, .int .i64 0, .int .i64 0] 28 (0, 0)) ∧ W.heap[w2.heap.size]? = some (.cells #[.int .i64 a, .int .i64 b, .int .i64 c] 28 (0, 0))) (by refine ⟨?_, ?_, ?_⟩ <;> (repeat' first | (with_reducible first | assumption | (apply Ne.symm; assumption) | apply Nat.le_refl | apply Nat.le_add_right | apply zL | apply zRf | apply Wx.box | apply Wx.box4 | apply zWa | apply Wx.drew | apply zWn | apply bx_drew | apply bx_drewN | apply bx_set3 | apply bx_set2 | apply bx_set4 | apply bx_set1) | ((with_reducible apply bx_new); (focus (go_size; done))) | (with_reducible first | apply zOl | apply zFa | apply zDn | apply zDr | apply zAl | apply zSt | refine zVi (by assumption) ?_ ?_) | go_size | omega)) ?_
        clear k_C_2_0 k_C_2_1 f_C_2 H_C_2
        clear k_O_2_0 k_O_2_1 k_O_2_2 f_O_2 H_O_2
        clear hB2
        rintro w1 ⟨hB1, H_O_1, H_S_1⟩
        obtain ⟨k_O_1_0, k_O_1_1, k_O_1_2, f_O_1, l_O_1⟩ := bk3 H_O_1
        replace H_O_1 := Lib.hid H_O_1
        obtain ⟨k_S_1_0, k_S_1_1, k_S_1_2, f_S_1, l_S_1⟩ := bk3 H_S_1
        replace H_S_1 := Lib.hid H_S_1
        iterate 40 (first | (with_reducible show bodyPost _ _ _ _ _ _) | (with_reducible refine wp_ret ?_) | go_values | go_skip | go_guarded | go_step | go_upon | go_back | skip)
        refine bodyPost_ret (v := .tuple #[.agg #[.int .i64 a, .int .i64 b, .int .i64 c], .bool true]) (by simp [results, Try.results29, go_sem, k_O_1_0, k_O_1_1, k_O_1_2]) rfl ⟨rfl, ?_⟩
        have HO := H_O_1.out
        (repeat' first | (with_reducible first | assumption | (apply Ne.symm; assumption) | apply Nat.le_refl | apply Nat.le_add_right | apply zL | apply zRf | apply Wx.box | apply Wx.box4 | apply zWa | apply Wx.drew | apply zWn | apply bx_drew | apply bx_drewN | apply bx_set3 | apply bx_set2 | apply bx_set4 | apply bx_set1) | ((with_reducible apply bx_new); (focus (go_size; done))) | (with_reducible first | apply zOl | apply zFa | apply zDn | apply zDr | apply zAl | apply zSt | refine zVi (by assumption) ?_ ?_) | go_size | omega)
end Go.Proofs.Ytgjppinjapdbeaa
