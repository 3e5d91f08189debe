/- Order and sums of whole numbers: the program. -/
import Derived.Test.YtijpfnkhaldfeaaBg6
import Derived.Test.YtijpfnkhaldfeaaBx
namespace Go.Proofs.Ytijpfnkhaldfeaa
open Go.RowKit
set_option linter.unusedVariables false
set_option maxHeartbeats 1000000
set_option maxRecDepth 20000
set_option linter.unusedSimpArgs false
attribute [local go_sem] openAt openUpon
theorem val_ab' (z : Int) : val (limbs (ab z)) = ab z := limbs_val (ab_nonneg z)
theorem isNaN_any (x : Int) (w : World) : Calls Try.prog 75 #[.int .i64 x] w fun e w' => e = .returned (.bool false) ∧ w = w' := by
  have hx : (x != x) = false := by simp
  go_enter Try.func75, Try.ntmps75
  go_wp2_with fail
  go_ret
  exact ⟨rfl, rfl⟩
theorem compare_any (x y : Int) (w : World) : Calls Try.prog 74 #[.int .i64 x, .int .i64 y] w fun e w' => e = .returned (.int .i64 (cmpI x y)) ∧ w = w' := by
  rcases Int.lt_trichotomy x y with h | h | h
  · go_enter Try.func74, Try.ntmps74
    go_wp2_with (first | (go_at_call 75; refine (isNaN_any _ _).mono ?_; rintro e w' ⟨rfl, rfl⟩))
    go_ret
    exact ⟨ret_int (cmp_lt h).symm, rfl⟩
  · have H := Lib.hid h
    have h1 : ¬ x < y := by omega
    have h2 : ¬ y < x := by omega
    clear h
    go_enter Try.func74, Try.ntmps74
    go_wp2_with (first | (go_at_call 75; refine (isNaN_any _ _).mono ?_; rintro e w' ⟨rfl, rfl⟩))
    go_ret
    exact ⟨ret_int (cmp_eq H.out).symm, rfl⟩
  · have h1 : ¬ x < y := by omega
    go_enter Try.func74, Try.ntmps74
    go_wp2_with (first | (go_at_call 75; refine (isNaN_any _ _).mono ?_; rintro e w' ⟨rfl, rfl⟩))
    go_ret
    exact ⟨ret_int (cmp_gt h).symm, rfl⟩
theorem ln_lt_ab {x y : Int} (h : ln x < ln y) : ab x < ab y := by
  rcases Int.lt_or_le (ab x) (ab y) with h' | h'
  · exact h'
  · have := ln_mono h'; omega
def OzRel (zs ys : List Int) (m : Nat) (iv : Value) (w0 wr : World) : Prop := ∃ k : Nat, iv = .int .i64 ((k : Int) - 1) ∧ k ≤ m ∧ val (zs.drop k) = val (ys.drop k) ∧ Below w0.heap.size w0 wr
theorem compareSizes_any (b b2 : Bool) (a a2 : Option Addr) (n c n2 c2 : Nat) (x y : Int) (w : World) (hs : Wx w b a n c x) (hs2 : Wx w b2 a2 n2 c2 y) (hl : n ≤ 1000000) (hl2 : n2 ≤ 1000000) :
    Calls Try.prog 73 #[.agg #[.bool b, .slice a n c], .agg #[.bool b2, .slice a2 n2 c2]] w fun e w' => e = .returned (.int .i64 (cmpI (ab x) (ab y))) ∧ Below w.heap.size w w' := by
  have hn := hs.ln
  have hn2 := hs2.ln
  by_cases hne : n = n2
  · have HNE := Lib.hid hne
    have hd := limbs_dig (ab x)
    have hd2 := limbs_dig (ab y)
    have HX := Lib.hid (val_ab' x)
    have HY := Lib.hid (val_ab' y)
    have hr := hs.row
    have hr2 := hs2.row
    clear hs hs2 hn hn2
    generalize limbs (ab x) = zs at *
    generalize limbs (ab y) = ys at *
    have HL := Lib.hid hr.len
    have HL2 := Lib.hid hr2.len
    subst hne
    have hnn : ((n : Int) != (n : Int)) = false := by simp
    go_enter Try.func73, Try.ntmps73
    go_wp2_with fail
    refine chk (fun W => Below w.heap.size w W ∧ W.heap[w.heap.size]? = some (.cells #[.bool b, .slice a n c] 35 (0, 0)) ∧ W.heap[w.heap.size + 1]? = some (.cells #[.bool b2, .slice a2 n c2] 35 (0, 0))) (by refine ⟨?_, ?_, ?_⟩ <;> (repeat' first | (with_reducible first | assumption | (apply Ne.symm; assumption) | apply Nat.le_refl | apply Nat.le_add_right | apply zL | apply zRf | apply Wx.box | apply Wx.box4 | apply zWa | apply Wx.drew | apply zWn | apply bx_drew | apply bx_drewN | apply bx_set3 | apply bx_set2 | apply bx_set4 | apply bx_set1) | ((with_reducible apply bx_new); (focus (go_size; done))) | (with_reducible first | apply zOl | apply zFa | apply zDn | apply zDr | apply zAl | apply zSt | refine zVi (by assumption) ?_ ?_) | go_size | omega)) ?_
    rintro w1 ⟨hB1, H_C_1, H_D_1⟩
    obtain ⟨k_C_1_0, k_C_1_1, f_C_1, l_C_1⟩ := bk2 H_C_1
    replace H_C_1 := Lib.hid H_C_1
    obtain ⟨k_D_1_0, k_D_1_1, f_D_1, l_D_1⟩ := bk2 H_D_1
    replace H_D_1 := Lib.hid H_D_1
    replace hr := hr.below hB1
    replace hr2 := hr2.below hB1
    go_loopw [5] (fun iv wr => OzRel zs ys n iv w1 wr) (fun iv _ => (intOf iv + 1).toNat)
    case atStart => exact ⟨n, rfl, Nat.le_refl _, by rw [List.drop_eq_nil_of_le (by have := HL.out; omega), List.drop_eq_nil_of_le (by have := HL2.out; omega)], Below.refl _ _⟩
    case round =>
      obtain ⟨k, rfl, hk, hv, hb2⟩ := hrel
      obtain ⟨w2, rfl⟩ : ∃ w2 : World, w2 = wr := ⟨_, rfl⟩
      have HV := Lib.hid hv
      clear hv
      have hsz2 := hb2.size
      have H_C_2 := (hb2.block (w.heap.size) (blk_lt' H_C_1.out)).trans H_C_1.out
      clear k_C_1_0 k_C_1_1 f_C_1 H_C_1
      obtain ⟨k_C_2_0, k_C_2_1, f_C_2, l_C_2⟩ := bk2 H_C_2
      replace H_C_2 := Lib.hid H_C_2
      have H_D_2 := (hb2.block (w.heap.size + 1) (blk_lt' H_D_1.out)).trans H_D_1.out
      clear k_D_1_0 k_D_1_1 f_D_1 H_D_1
      obtain ⟨k_D_2_0, k_D_2_1, f_D_2, l_D_2⟩ := bk2 H_D_2
      replace H_D_2 := Lib.hid H_D_2
      have hB2 : Below w.heap.size w w2 := below_via hb2 (by assumption) (by first | exact hB1.size | go_size)
      by_cases h0 : 0 < k
      · obtain ⟨b1, off1, rfl, hb1, hcs⟩ := hr.at (by omega)
        obtain ⟨b2', off2, rfl, hb2', hcs2⟩ := hr2.at (by omega)
        have c1 := (hb2.cell (p := ⟨b1, off1 + (k - 1), none⟩) hb1).trans (hcs (k - 1) (by omega))
        have c2' := (hb2.cell (p := ⟨b2', off2 + (k - 1), none⟩) hb2').trans (hcs2 (k - 1) (by omega))
        replace hb1 : b1 < w2.heap.size := by omega
        replace hb2' : b2' < w2.heap.size := by omega
        have ek : ((k : Int) - 1).toNat = k - 1 := by omega
        have hk1 : (k : Int) - 1 < (n : Int) := by omega
        have hk2 : (0 : Int) ≤ (k : Int) - 1 := by omega
        have hk3 : (1 : Int) ≤ (k : Int) := by omega
        have hk4 : decide ((1 : Int) ≤ (k : Int)) = true := by simpa using hk3
        have HV1 := Lib.hid (show val (zs.drop (k - 1 + 1)) = val (ys.drop (k - 1 + 1)) by rw [show k - 1 + 1 = k by omega]; exact HV.out)
        have C1 := Lib.hid (fun h => cmp_hi hd hd2 HV1.out h)
        have C2 := Lib.hid (fun h => cmp_hi hd2 hd HV1.out.symm h)
        have C3 := Lib.hid (fun h => drop_eq_step HV1.out h)
        rw [List.getD_eq_getElem?_getD, List.getD_eq_getElem?_getD] at C1 C2 C3
        clear hcs hcs2
        generalize zs[k - 1]?.getD 0 = x1 at *
        generalize ys[k - 1]?.getD 0 = y1 at *
        by_cases he : x1 = y1
        · have HE := Lib.hid he
          subst he
          have hxx : (x1 != x1) = false := by simp
          go_wp2_with fail
          refine wp_open (n := 10) (by kernel_rfl) (by kernel_rfl) (by kernel_rfl) (by kernel_rfl) ?_
          simp only [List.take_succ_cons, List.take_zero]
          apply wpS_quiet
          · intro γ W hW hp
            refine ⟨rfl, ?_⟩
            go_big_quiet_op
            first | exact rfl
          · exact locS_const _
          try simp only [Act.put, List.setIfInBounds_toArray, List.set_cons_succ, List.set_cons_zero, Nat.reduceAdd]
          apply wpS_quiet
          · intro γ W hW hp
            have hs := hW.size
            (try simp only [World.size_alloc, World.size_setCell, World.size_drew, World.size_drewN'] at hs)
            have kx_0 := fun x : Over W => ((cellAt x.lies (w.heap.size) (by omega) 0).trans (cellAt hW (w.heap.size) (by first | omega | go_size) 0)).trans k_C_2_0
            have kx_1 := fun x : Over W => ((cellAt x.lies (w.heap.size) (by omega) 1).trans (cellAt hW (w.heap.size) (by first | omega | go_size) 1)).trans k_C_2_1
            clear hW hp
            refine ⟨rfl, ?_⟩
            go_big_quiet_op
            first | exact rfl
          · exact locS_const _
          try simp only [Act.put, List.setIfInBounds_toArray, List.set_cons_succ, List.set_cons_zero, Nat.reduceAdd]
          apply wpS_quiet
          · intro γ W hW hp
            refine ⟨rfl, ?_⟩
            go_big_quiet_op
            first | exact rfl
          · exact locS_const _
          try simp only [Act.put, List.setIfInBounds_toArray, List.set_cons_succ, List.set_cons_zero, Nat.reduceAdd]
          apply wpS_quiet
          · intro γ W hW hp
            have hs := hW.size
            (try simp only [World.size_alloc, World.size_setCell, World.size_drew, World.size_drewN'] at hs)
            try (have kx_w_0_0 := fun x : Over W => (cellAt x.lies (w.heap.size) (by omega) 0).trans (cellAt hW (w.heap.size) (by go_size) 0); simp [go_sem, *] at kx_w_0_0)
            try (have kx_w_0_1 := fun x : Over W => (cellAt x.lies (w.heap.size) (by omega) 1).trans (cellAt hW (w.heap.size) (by go_size) 1); simp [go_sem, *] at kx_w_0_1)
            try (have kx_w_1_0 := fun x : Over W => (cellAt x.lies (w.heap.size + 1) (by omega) 0).trans (cellAt hW (w.heap.size + 1) (by go_size) 0); simp [go_sem, *] at kx_w_1_0)
            try (have kx_w_1_1 := fun x : Over W => (cellAt x.lies (w.heap.size + 1) (by omega) 1).trans (cellAt hW (w.heap.size + 1) (by go_size) 1); simp [go_sem, *] at kx_w_1_1)
            clear hW hp
            refine ⟨rfl, ?_⟩
            go_big_quiet_op
            first | exact rfl
          · exact locS_const _
          try simp only [Act.put, List.setIfInBounds_toArray, List.set_cons_succ, List.set_cons_zero, Nat.reduceAdd]
          apply wpS_quiet
          · intro γ W hW hp
            have q1 := fun x : Over W => (cellAt x.lies b1 (Nat.lt_of_lt_of_le hb1 hW.size) (off1 + (k - 1))).trans ((cellAt hW b1 hb1 (off1 + (k - 1))).trans c1)
            have hs := hW.size
            (try simp only [World.size_alloc, World.size_setCell, World.size_drew, World.size_drewN'] at hs)
            try (have kx_w_0_0 := fun x : Over W => (cellAt x.lies (w.heap.size) (by omega) 0).trans (cellAt hW (w.heap.size) (by go_size) 0); simp [go_sem, *] at kx_w_0_0)
            try (have kx_w_0_1 := fun x : Over W => (cellAt x.lies (w.heap.size) (by omega) 1).trans (cellAt hW (w.heap.size) (by go_size) 1); simp [go_sem, *] at kx_w_0_1)
            try (have kx_w_1_0 := fun x : Over W => (cellAt x.lies (w.heap.size + 1) (by omega) 0).trans (cellAt hW (w.heap.size + 1) (by go_size) 0); simp [go_sem, *] at kx_w_1_0)
            try (have kx_w_1_1 := fun x : Over W => (cellAt x.lies (w.heap.size + 1) (by omega) 1).trans (cellAt hW (w.heap.size + 1) (by go_size) 1); simp [go_sem, *] at kx_w_1_1)
            clear hW hp
            refine ⟨rfl, ?_⟩
            go_big_quiet_op
            first | exact rfl
          · exact locS_const _
          try simp only [Act.put, List.setIfInBounds_toArray, List.set_cons_succ, List.set_cons_zero, Nat.reduceAdd]
          apply wpS_quiet
          · intro γ W hW hp
            refine ⟨rfl, ?_⟩
            go_big_quiet_op
            first | exact rfl
          · exact locS_const _
          try simp only [Act.put, List.setIfInBounds_toArray, List.set_cons_succ, List.set_cons_zero, Nat.reduceAdd]
          apply wpS_quiet
          · intro γ W hW hp
            have hs := hW.size
            (try simp only [World.size_alloc, World.size_setCell, World.size_drew, World.size_drewN'] at hs)
            have kx_0 := fun x : Over W => ((cellAt x.lies (w.heap.size + 1) (by omega) 0).trans (cellAt hW (w.heap.size + 1) (by first | omega | go_size) 0)).trans k_D_2_0
            have kx_1 := fun x : Over W => ((cellAt x.lies (w.heap.size + 1) (by omega) 1).trans (cellAt hW (w.heap.size + 1) (by first | omega | go_size) 1)).trans k_D_2_1
            clear hW hp
            refine ⟨rfl, ?_⟩
            go_big_quiet_op
            first | exact rfl
          · exact locS_const _
          try simp only [Act.put, List.setIfInBounds_toArray, List.set_cons_succ, List.set_cons_zero, Nat.reduceAdd]
          apply wpS_quiet
          · intro γ W hW hp
            refine ⟨rfl, ?_⟩
            go_big_quiet_op
            first | exact rfl
          · exact locS_const _
          try simp only [Act.put, List.setIfInBounds_toArray, List.set_cons_succ, List.set_cons_zero, Nat.reduceAdd]
          apply wpS_quiet
          · intro γ W hW hp
            have hs := hW.size
            (try simp only [World.size_alloc, World.size_setCell, World.size_drew, World.size_drewN'] at hs)
            try (have kx_w_0_0 := fun x : Over W => (cellAt x.lies (w.heap.size) (by omega) 0).trans (cellAt hW (w.heap.size) (by go_size) 0); simp [go_sem, *] at kx_w_0_0)
            try (have kx_w_0_1 := fun x : Over W => (cellAt x.lies (w.heap.size) (by omega) 1).trans (cellAt hW (w.heap.size) (by go_size) 1); simp [go_sem, *] at kx_w_0_1)
            try (have kx_w_1_0 := fun x : Over W => (cellAt x.lies (w.heap.size + 1) (by omega) 0).trans (cellAt hW (w.heap.size + 1) (by go_size) 0); simp [go_sem, *] at kx_w_1_0)
            try (have kx_w_1_1 := fun x : Over W => (cellAt x.lies (w.heap.size + 1) (by omega) 1).trans (cellAt hW (w.heap.size + 1) (by go_size) 1); simp [go_sem, *] at kx_w_1_1)
            clear hW hp
            refine ⟨rfl, ?_⟩
            go_big_quiet_op
            first | exact rfl
          · exact locS_const _
          try simp only [Act.put, List.setIfInBounds_toArray, List.set_cons_succ, List.set_cons_zero, Nat.reduceAdd]
          apply wpS_quiet
          · intro γ W hW hp
            have q2 := fun x : Over W => (cellAt x.lies b2' (Nat.lt_of_lt_of_le hb2' hW.size) (off2 + (k - 1))).trans ((cellAt hW b2' hb2' (off2 + (k - 1))).trans c2')
            have hs := hW.size
            (try simp only [World.size_alloc, World.size_setCell, World.size_drew, World.size_drewN'] at hs)
            try (have kx_w_0_0 := fun x : Over W => (cellAt x.lies (w.heap.size) (by omega) 0).trans (cellAt hW (w.heap.size) (by go_size) 0); simp [go_sem, *] at kx_w_0_0)
            try (have kx_w_0_1 := fun x : Over W => (cellAt x.lies (w.heap.size) (by omega) 1).trans (cellAt hW (w.heap.size) (by go_size) 1); simp [go_sem, *] at kx_w_0_1)
            try (have kx_w_1_0 := fun x : Over W => (cellAt x.lies (w.heap.size + 1) (by omega) 0).trans (cellAt hW (w.heap.size + 1) (by go_size) 0); simp [go_sem, *] at kx_w_1_0)
            try (have kx_w_1_1 := fun x : Over W => (cellAt x.lies (w.heap.size + 1) (by omega) 1).trans (cellAt hW (w.heap.size + 1) (by go_size) 1); simp [go_sem, *] at kx_w_1_1)
            clear hW hp
            refine ⟨rfl, ?_⟩
            go_big_quiet_op
            first | exact rfl
          · exact locS_const _
          try simp only [Act.put, List.setIfInBounds_toArray, List.set_cons_succ, List.set_cons_zero, Nat.reduceAdd]
          apply wpS_end
          intro γ w3 hb3 hG3 hA3
          clear hG3 hA3
          simp only [List.drop_succ_cons, List.drop_zero]
          have hz3 := hb3.size
          (try simp only [World.size_alloc, World.size_setCell, World.size_drew, World.size_drewN'] at hz3)
          have H_C_3 := (hb3.block (w.heap.size) (blk_lt' H_C_2.out)).trans H_C_2.out
          clear k_C_2_0 k_C_2_1 f_C_2 H_C_2
          obtain ⟨k_C_3_0, k_C_3_1, f_C_3, l_C_3⟩ := bk2 H_C_3
          replace H_C_3 := Lib.hid H_C_3
          have H_D_3 := (hb3.block (w.heap.size + 1) (blk_lt' H_D_2.out)).trans H_D_2.out
          clear k_D_2_0 k_D_2_1 f_D_2 H_D_2
          obtain ⟨k_D_3_0, k_D_3_1, f_D_3, l_D_3⟩ := bk2 H_D_3
          replace H_D_3 := Lib.hid H_D_3
          have hB3 : Below w.heap.size w w3 := below_via hb3 (by assumption) (by first | exact hB2.size | go_size)
          go_wp2_with fail
          go_roundw
          case rel => exact ⟨k - 1, by congr 1; omega, by omega, C3.out (by first | rfl | trivial), hb2.trans (hb3.mono hb2.size)⟩
          case measure => simp [intOf]; omega
        · have hxx : (x1 != y1) = true := by simpa using he
          go_wp2_with fail
          refine wp_open (n := 10) (by kernel_rfl) (by kernel_rfl) (by kernel_rfl) (by kernel_rfl) ?_
          simp only [List.take_succ_cons, List.take_zero]
          apply wpS_quiet
          · intro γ W hW hp
            refine ⟨rfl, ?_⟩
            go_big_quiet_op
            first | exact rfl
          · exact locS_const _
          try simp only [Act.put, List.setIfInBounds_toArray, List.set_cons_succ, List.set_cons_zero, Nat.reduceAdd]
          apply wpS_quiet
          · intro γ W hW hp
            have hs := hW.size
            (try simp only [World.size_alloc, World.size_setCell, World.size_drew, World.size_drewN'] at hs)
            have kx_0 := fun x : Over W => ((cellAt x.lies (w.heap.size) (by omega) 0).trans (cellAt hW (w.heap.size) (by first | omega | go_size) 0)).trans k_C_2_0
            have kx_1 := fun x : Over W => ((cellAt x.lies (w.heap.size) (by omega) 1).trans (cellAt hW (w.heap.size) (by first | omega | go_size) 1)).trans k_C_2_1
            clear hW hp
            refine ⟨rfl, ?_⟩
            go_big_quiet_op
            first | exact rfl
          · exact locS_const _
          try simp only [Act.put, List.setIfInBounds_toArray, List.set_cons_succ, List.set_cons_zero, Nat.reduceAdd]
          apply wpS_quiet
          · intro γ W hW hp
            refine ⟨rfl, ?_⟩
            go_big_quiet_op
            first | exact rfl
          · exact locS_const _
          try simp only [Act.put, List.setIfInBounds_toArray, List.set_cons_succ, List.set_cons_zero, Nat.reduceAdd]
          apply wpS_quiet
          · intro γ W hW hp
            have hs := hW.size
            (try simp only [World.size_alloc, World.size_setCell, World.size_drew, World.size_drewN'] at hs)
            try (have kx_w_0_0 := fun x : Over W => (cellAt x.lies (w.heap.size) (by omega) 0).trans (cellAt hW (w.heap.size) (by go_size) 0); simp [go_sem, *] at kx_w_0_0)
            try (have kx_w_0_1 := fun x : Over W => (cellAt x.lies (w.heap.size) (by omega) 1).trans (cellAt hW (w.heap.size) (by go_size) 1); simp [go_sem, *] at kx_w_0_1)
            try (have kx_w_1_0 := fun x : Over W => (cellAt x.lies (w.heap.size + 1) (by omega) 0).trans (cellAt hW (w.heap.size + 1) (by go_size) 0); simp [go_sem, *] at kx_w_1_0)
            try (have kx_w_1_1 := fun x : Over W => (cellAt x.lies (w.heap.size + 1) (by omega) 1).trans (cellAt hW (w.heap.size + 1) (by go_size) 1); simp [go_sem, *] at kx_w_1_1)
            clear hW hp
            refine ⟨rfl, ?_⟩
            go_big_quiet_op
            first | exact rfl
          · exact locS_const _
          try simp only [Act.put, List.setIfInBounds_toArray, List.set_cons_succ, List.set_cons_zero, Nat.reduceAdd]
          apply wpS_quiet
          · intro γ W hW hp
            have q1 := fun x : Over W => (cellAt x.lies b1 (Nat.lt_of_lt_of_le hb1 hW.size) (off1 + (k - 1))).trans ((cellAt hW b1 hb1 (off1 + (k - 1))).trans c1)
            have hs := hW.size
            (try simp only [World.size_alloc, World.size_setCell, World.size_drew, World.size_drewN'] at hs)
            try (have kx_w_0_0 := fun x : Over W => (cellAt x.lies (w.heap.size) (by omega) 0).trans (cellAt hW (w.heap.size) (by go_size) 0); simp [go_sem, *] at kx_w_0_0)
            try (have kx_w_0_1 := fun x : Over W => (cellAt x.lies (w.heap.size) (by omega) 1).trans (cellAt hW (w.heap.size) (by go_size) 1); simp [go_sem, *] at kx_w_0_1)
            try (have kx_w_1_0 := fun x : Over W => (cellAt x.lies (w.heap.size + 1) (by omega) 0).trans (cellAt hW (w.heap.size + 1) (by go_size) 0); simp [go_sem, *] at kx_w_1_0)
            try (have kx_w_1_1 := fun x : Over W => (cellAt x.lies (w.heap.size + 1) (by omega) 1).trans (cellAt hW (w.heap.size + 1) (by go_size) 1); simp [go_sem, *] at kx_w_1_1)
            clear hW hp
            refine ⟨rfl, ?_⟩
            go_big_quiet_op
            first | exact rfl
          · exact locS_const _
          try simp only [Act.put, List.setIfInBounds_toArray, List.set_cons_succ, List.set_cons_zero, Nat.reduceAdd]
          apply wpS_quiet
          · intro γ W hW hp
            refine ⟨rfl, ?_⟩
            go_big_quiet_op
            first | exact rfl
          · exact locS_const _
          try simp only [Act.put, List.setIfInBounds_toArray, List.set_cons_succ, List.set_cons_zero, Nat.reduceAdd]
          apply wpS_quiet
          · intro γ W hW hp
            have hs := hW.size
            (try simp only [World.size_alloc, World.size_setCell, World.size_drew, World.size_drewN'] at hs)
            have kx_0 := fun x : Over W => ((cellAt x.lies (w.heap.size + 1) (by omega) 0).trans (cellAt hW (w.heap.size + 1) (by first | omega | go_size) 0)).trans k_D_2_0
            have kx_1 := fun x : Over W => ((cellAt x.lies (w.heap.size + 1) (by omega) 1).trans (cellAt hW (w.heap.size + 1) (by first | omega | go_size) 1)).trans k_D_2_1
            clear hW hp
            refine ⟨rfl, ?_⟩
            go_big_quiet_op
            first | exact rfl
          · exact locS_const _
          try simp only [Act.put, List.setIfInBounds_toArray, List.set_cons_succ, List.set_cons_zero, Nat.reduceAdd]
          apply wpS_quiet
          · intro γ W hW hp
            refine ⟨rfl, ?_⟩
            go_big_quiet_op
            first | exact rfl
          · exact locS_const _
          try simp only [Act.put, List.setIfInBounds_toArray, List.set_cons_succ, List.set_cons_zero, Nat.reduceAdd]
          apply wpS_quiet
          · intro γ W hW hp
            have hs := hW.size
            (try simp only [World.size_alloc, World.size_setCell, World.size_drew, World.size_drewN'] at hs)
            try (have kx_w_0_0 := fun x : Over W => (cellAt x.lies (w.heap.size) (by omega) 0).trans (cellAt hW (w.heap.size) (by go_size) 0); simp [go_sem, *] at kx_w_0_0)
            try (have kx_w_0_1 := fun x : Over W => (cellAt x.lies (w.heap.size) (by omega) 1).trans (cellAt hW (w.heap.size) (by go_size) 1); simp [go_sem, *] at kx_w_0_1)
            try (have kx_w_1_0 := fun x : Over W => (cellAt x.lies (w.heap.size + 1) (by omega) 0).trans (cellAt hW (w.heap.size + 1) (by go_size) 0); simp [go_sem, *] at kx_w_1_0)
            try (have kx_w_1_1 := fun x : Over W => (cellAt x.lies (w.heap.size + 1) (by omega) 1).trans (cellAt hW (w.heap.size + 1) (by go_size) 1); simp [go_sem, *] at kx_w_1_1)
            clear hW hp
            refine ⟨rfl, ?_⟩
            go_big_quiet_op
            first | exact rfl
          · exact locS_const _
          try simp only [Act.put, List.setIfInBounds_toArray, List.set_cons_succ, List.set_cons_zero, Nat.reduceAdd]
          apply wpS_quiet
          · intro γ W hW hp
            have q2 := fun x : Over W => (cellAt x.lies b2' (Nat.lt_of_lt_of_le hb2' hW.size) (off2 + (k - 1))).trans ((cellAt hW b2' hb2' (off2 + (k - 1))).trans c2')
            have hs := hW.size
            (try simp only [World.size_alloc, World.size_setCell, World.size_drew, World.size_drewN'] at hs)
            try (have kx_w_0_0 := fun x : Over W => (cellAt x.lies (w.heap.size) (by omega) 0).trans (cellAt hW (w.heap.size) (by go_size) 0); simp [go_sem, *] at kx_w_0_0)
            try (have kx_w_0_1 := fun x : Over W => (cellAt x.lies (w.heap.size) (by omega) 1).trans (cellAt hW (w.heap.size) (by go_size) 1); simp [go_sem, *] at kx_w_0_1)
            try (have kx_w_1_0 := fun x : Over W => (cellAt x.lies (w.heap.size + 1) (by omega) 0).trans (cellAt hW (w.heap.size + 1) (by go_size) 0); simp [go_sem, *] at kx_w_1_0)
            try (have kx_w_1_1 := fun x : Over W => (cellAt x.lies (w.heap.size + 1) (by omega) 1).trans (cellAt hW (w.heap.size + 1) (by go_size) 1); simp [go_sem, *] at kx_w_1_1)
            clear hW hp
            refine ⟨rfl, ?_⟩
            go_big_quiet_op
            first | exact rfl
          · exact locS_const _
          try simp only [Act.put, List.setIfInBounds_toArray, List.set_cons_succ, List.set_cons_zero, Nat.reduceAdd]
          apply wpS_end
          intro γ w3 hb3 hG3 hA3
          clear hG3 hA3
          simp only [List.drop_succ_cons, List.drop_zero]
          have hz3 := hb3.size
          (try simp only [World.size_alloc, World.size_setCell, World.size_drew, World.size_drewN'] at hz3)
          have H_C_3 := (hb3.block (w.heap.size) (blk_lt' H_C_2.out)).trans H_C_2.out
          clear k_C_2_0 k_C_2_1 f_C_2 H_C_2
          obtain ⟨k_C_3_0, k_C_3_1, f_C_3, l_C_3⟩ := bk2 H_C_3
          replace H_C_3 := Lib.hid H_C_3
          have H_D_3 := (hb3.block (w.heap.size + 1) (blk_lt' H_D_2.out)).trans H_D_2.out
          clear k_D_2_0 k_D_2_1 f_D_2 H_D_2
          obtain ⟨k_D_3_0, k_D_3_1, f_D_3, l_D_3⟩ := bk2 H_D_3
          replace H_D_3 := Lib.hid H_D_3
          have hB3 : Below w.heap.size w w3 := below_via hb3 (by assumption) (by first | exact hB2.size | go_size)
          replace c1 := (hb3.cell (p := ⟨b1, off1 + (k - 1), none⟩) hb1).trans c1
          replace c2' := (hb3.cell (p := ⟨b2', off2 + (k - 1), none⟩) hb2').trans c2'
          replace hb1 : b1 < w3.heap.size := Nat.lt_of_lt_of_le hb1 hb3.size
          replace hb2' : b2' < w3.heap.size := Nat.lt_of_lt_of_le hb2' hb3.size
          go_wp2_with fail
          refine wp_open (n := 11) (by kernel_rfl) (by kernel_rfl) (by kernel_rfl) (by kernel_rfl) ?_
          simp only [List.take_succ_cons, List.take_zero]
          apply wpS_quiet
          · intro γ W hW hp
            refine ⟨rfl, ?_⟩
            go_big_quiet_op
            first | exact rfl
          · exact locS_const _
          try simp only [Act.put, List.setIfInBounds_toArray, List.set_cons_succ, List.set_cons_zero, Nat.reduceAdd]
          apply wpS_quiet
          · intro γ W hW hp
            have hs := hW.size
            (try simp only [World.size_alloc, World.size_setCell, World.size_drew, World.size_drewN'] at hs)
            have kx_0 := fun x : Over W => ((cellAt x.lies (w.heap.size) (by omega) 0).trans (cellAt hW (w.heap.size) (by first | omega | go_size) 0)).trans k_C_3_0
            have kx_1 := fun x : Over W => ((cellAt x.lies (w.heap.size) (by omega) 1).trans (cellAt hW (w.heap.size) (by first | omega | go_size) 1)).trans k_C_3_1
            clear hW hp
            refine ⟨rfl, ?_⟩
            go_big_quiet_op
            first | exact rfl
          · exact locS_const _
          try simp only [Act.put, List.setIfInBounds_toArray, List.set_cons_succ, List.set_cons_zero, Nat.reduceAdd]
          apply wpS_quiet
          · intro γ W hW hp
            refine ⟨rfl, ?_⟩
            go_big_quiet_op
            first | exact rfl
          · exact locS_const _
          try simp only [Act.put, List.setIfInBounds_toArray, List.set_cons_succ, List.set_cons_zero, Nat.reduceAdd]
          apply wpS_quiet
          · intro γ W hW hp
            have hs := hW.size
            (try simp only [World.size_alloc, World.size_setCell, World.size_drew, World.size_drewN'] at hs)
            try (have kx_w_0_0 := fun x : Over W => (cellAt x.lies (w.heap.size) (by omega) 0).trans (cellAt hW (w.heap.size) (by go_size) 0); simp [go_sem, *] at kx_w_0_0)
            try (have kx_w_0_1 := fun x : Over W => (cellAt x.lies (w.heap.size) (by omega) 1).trans (cellAt hW (w.heap.size) (by go_size) 1); simp [go_sem, *] at kx_w_0_1)
            try (have kx_w_1_0 := fun x : Over W => (cellAt x.lies (w.heap.size + 1) (by omega) 0).trans (cellAt hW (w.heap.size + 1) (by go_size) 0); simp [go_sem, *] at kx_w_1_0)
            try (have kx_w_1_1 := fun x : Over W => (cellAt x.lies (w.heap.size + 1) (by omega) 1).trans (cellAt hW (w.heap.size + 1) (by go_size) 1); simp [go_sem, *] at kx_w_1_1)
            clear hW hp
            refine ⟨rfl, ?_⟩
            go_big_quiet_op
            first | exact rfl
          · exact locS_const _
          try simp only [Act.put, List.setIfInBounds_toArray, List.set_cons_succ, List.set_cons_zero, Nat.reduceAdd]
          apply wpS_quiet
          · intro γ W hW hp
            have q1 := fun x : Over W => (cellAt x.lies b1 (Nat.lt_of_lt_of_le hb1 hW.size) (off1 + (k - 1))).trans ((cellAt hW b1 hb1 (off1 + (k - 1))).trans c1)
            have hs := hW.size
            (try simp only [World.size_alloc, World.size_setCell, World.size_drew, World.size_drewN'] at hs)
            try (have kx_w_0_0 := fun x : Over W => (cellAt x.lies (w.heap.size) (by omega) 0).trans (cellAt hW (w.heap.size) (by go_size) 0); simp [go_sem, *] at kx_w_0_0)
            try (have kx_w_0_1 := fun x : Over W => (cellAt x.lies (w.heap.size) (by omega) 1).trans (cellAt hW (w.heap.size) (by go_size) 1); simp [go_sem, *] at kx_w_0_1)
            try (have kx_w_1_0 := fun x : Over W => (cellAt x.lies (w.heap.size + 1) (by omega) 0).trans (cellAt hW (w.heap.size + 1) (by go_size) 0); simp [go_sem, *] at kx_w_1_0)
            try (have kx_w_1_1 := fun x : Over W => (cellAt x.lies (w.heap.size + 1) (by omega) 1).trans (cellAt hW (w.heap.size + 1) (by go_size) 1); simp [go_sem, *] at kx_w_1_1)
            clear hW hp
            refine ⟨rfl, ?_⟩
            go_big_quiet_op
            first | exact rfl
          · exact locS_const _
          try simp only [Act.put, List.setIfInBounds_toArray, List.set_cons_succ, List.set_cons_zero, Nat.reduceAdd]
          apply wpS_quiet
          · intro γ W hW hp
            refine ⟨rfl, ?_⟩
            go_big_quiet_op
            first | exact rfl
          · exact locS_const _
          try simp only [Act.put, List.setIfInBounds_toArray, List.set_cons_succ, List.set_cons_zero, Nat.reduceAdd]
          apply wpS_quiet
          · intro γ W hW hp
            have hs := hW.size
            (try simp only [World.size_alloc, World.size_setCell, World.size_drew, World.size_drewN'] at hs)
            have kx_0 := fun x : Over W => ((cellAt x.lies (w.heap.size + 1) (by omega) 0).trans (cellAt hW (w.heap.size + 1) (by first | omega | go_size) 0)).trans k_D_3_0
            have kx_1 := fun x : Over W => ((cellAt x.lies (w.heap.size + 1) (by omega) 1).trans (cellAt hW (w.heap.size + 1) (by first | omega | go_size) 1)).trans k_D_3_1
            clear hW hp
            refine ⟨rfl, ?_⟩
            go_big_quiet_op
            first | exact rfl
          · exact locS_const _
          try simp only [Act.put, List.setIfInBounds_toArray, List.set_cons_succ, List.set_cons_zero, Nat.reduceAdd]
          apply wpS_quiet
          · intro γ W hW hp
            refine ⟨rfl, ?_⟩
            go_big_quiet_op
            first | exact rfl
          · exact locS_const _
          try simp only [Act.put, List.setIfInBounds_toArray, List.set_cons_succ, List.set_cons_zero, Nat.reduceAdd]
          apply wpS_quiet
          · intro γ W hW hp
            have hs := hW.size
            (try simp only [World.size_alloc, World.size_setCell, World.size_drew, World.size_drewN'] at hs)
            try (have kx_w_0_0 := fun x : Over W => (cellAt x.lies (w.heap.size) (by omega) 0).trans (cellAt hW (w.heap.size) (by go_size) 0); simp [go_sem, *] at kx_w_0_0)
            try (have kx_w_0_1 := fun x : Over W => (cellAt x.lies (w.heap.size) (by omega) 1).trans (cellAt hW (w.heap.size) (by go_size) 1); simp [go_sem, *] at kx_w_0_1)
            try (have kx_w_1_0 := fun x : Over W => (cellAt x.lies (w.heap.size + 1) (by omega) 0).trans (cellAt hW (w.heap.size + 1) (by go_size) 0); simp [go_sem, *] at kx_w_1_0)
            try (have kx_w_1_1 := fun x : Over W => (cellAt x.lies (w.heap.size + 1) (by omega) 1).trans (cellAt hW (w.heap.size + 1) (by go_size) 1); simp [go_sem, *] at kx_w_1_1)
            clear hW hp
            refine ⟨rfl, ?_⟩
            go_big_quiet_op
            first | exact rfl
          · exact locS_const _
          try simp only [Act.put, List.setIfInBounds_toArray, List.set_cons_succ, List.set_cons_zero, Nat.reduceAdd]
          apply wpS_quiet
          · intro γ W hW hp
            have q2 := fun x : Over W => (cellAt x.lies b2' (Nat.lt_of_lt_of_le hb2' hW.size) (off2 + (k - 1))).trans ((cellAt hW b2' hb2' (off2 + (k - 1))).trans c2')
            have hs := hW.size
            (try simp only [World.size_alloc, World.size_setCell, World.size_drew, World.size_drewN'] at hs)
            try (have kx_w_0_0 := fun x : Over W => (cellAt x.lies (w.heap.size) (by omega) 0).trans (cellAt hW (w.heap.size) (by go_size) 0); simp [go_sem, *] at kx_w_0_0)
            try (have kx_w_0_1 := fun x : Over W => (cellAt x.lies (w.heap.size) (by omega) 1).trans (cellAt hW (w.heap.size) (by go_size) 1); simp [go_sem, *] at kx_w_0_1)
            try (have kx_w_1_0 := fun x : Over W => (cellAt x.lies (w.heap.size + 1) (by omega) 0).trans (cellAt hW (w.heap.size + 1) (by go_size) 0); simp [go_sem, *] at kx_w_1_0)
            try (have kx_w_1_1 := fun x : Over W => (cellAt x.lies (w.heap.size + 1) (by omega) 1).trans (cellAt hW (w.heap.size + 1) (by go_size) 1); simp [go_sem, *] at kx_w_1_1)
            clear hW hp
            refine ⟨rfl, ?_⟩
            go_big_quiet_op
            first | exact rfl
          · exact locS_const _
          try simp only [Act.put, List.setIfInBounds_toArray, List.set_cons_succ, List.set_cons_zero, Nat.reduceAdd]
          apply wpS_quiet
          · intro γ W hW hp
            refine ⟨rfl, ?_⟩
            go_big_quiet_op
            apply Exists.intro
            refine ⟨fun x => ?_, ?_⟩
            · (first | (go_at_call 74; exact draw_of_same _ (compare_any _ _ _)))
            exact rfl
          · exact locS_const _
          try simp only [Act.put, List.setIfInBounds_toArray, List.set_cons_succ, List.set_cons_zero, Nat.reduceAdd]
          apply wpS_end
          intro γ w4 hb4 hG4 hA4
          clear hG4 hA4
          simp only [List.drop_succ_cons, List.drop_zero]
          have hz4 := hb4.size
          (try simp only [World.size_alloc, World.size_setCell, World.size_drew, World.size_drewN'] at hz4)
          go_wp2_with fail
          go_ret
          refine ⟨ret_int ?_, ?_⟩
          · rcases Int.lt_trichotomy x1 y1 with h | h | h
            · rw [cmp_lt h, cmp_lt (by have := C1.out h; rwa [HX.out, HY.out] at this)]
            · exact absurd h he
            · rw [cmp_gt h, cmp_gt (by have := C2.out h; rwa [HX.out, HY.out] at this)]
          · repeat' first | (with_reducible first | apply zRf | assumption | apply zDn | apply zDr | apply zAl | apply zSt | refine zVi (by assumption) ?_ ?_) | go_size
      · obtain rfl : k = 0 := by omega
        go_wp2_with fail
        go_ret
        refine ⟨ret_int (cmp_eq (by have := HV.out; simp only [List.drop_zero] at this; rwa [HX.out, HY.out] at this)).symm, ?_⟩
        repeat' first | (with_reducible first | apply zRf | assumption | apply zDn | apply zDr | apply zAl | apply zSt | refine zVi (by assumption) ?_ ?_) | go_size
  · have hnn : ((n : Int) != (n2 : Int)) = true := by simp; omega
    have HR := Lib.hid (show cmpI (n : Int) (n2 : Int) = cmpI (ab x) (ab y) by
      rcases Nat.lt_or_ge n n2 with h | h
      · rw [cmp_lt (by omega), cmp_lt (ln_lt_ab (by omega))]
      · rw [cmp_gt (by omega), cmp_gt (ln_lt_ab (by omega))])
    clear hn hn2 hne
    go_enter Try.func73, Try.ntmps73
    go_wp2_with (first | (go_at_call 74; refine (compare_any _ _ _).mono ?_; rintro e w' ⟨rfl, rfl⟩))
    go_ret
    refine ⟨ret_int HR.out, ?_⟩
    repeat' first | (with_reducible first | apply zRf | assumption | apply zDn | apply zDr | apply zAl | apply zSt | refine zVi (by assumption) ?_ ?_) | go_size
def AlRel (W0 : World) (g : Nat) (zs ys : List Int) (s : Int) (m : Nat) (cv iv : Value) (wr : World) : Prop := ∃ (i : Nat) (qs : List Int) (c : Int), iv = .int .i64 i ∧ cv = .int .i64 c ∧ i ≤ m ∧ qs.length = m ∧ Dig (qs.take i) ∧ (s - 1 ≤ 2 * c ∧ 2 * c ≤ s + 1) ∧
  val (qs.take i) + 10000 ^ i * c = val (zs.take i) + s * val (ys.take i) ∧ RowW W0 wr g 3 qs
theorem al_next {W0 wr : World} {g i m : Nat} {zs ys qs : List Int} {s c r c' x y : Int} (him : i < m) (hq : qs.length = m) (hd : Dig (qs.take i)) (hv : val (qs.take i) + 10000 ^ i * c = val (zs.take i) + s * val (ys.take i))
    (hx : zs.getD i 0 = x) (hy : ys.getD i 0 = y) (he : x + s * y + c = r + 10000 * c') (hr : 0 ≤ r ∧ r ≤ 9999) (hc' : s - 1 ≤ 2 * c' ∧ 2 * c' ≤ s + 1) (hrow : RowW W0 wr g 3 qs) :
    AlRel W0 g zs ys s m (.int .i64 c') (.int .i64 ((i : Int) + 1)) (wr.setCell ⟨g, i, none⟩ (.int .i64 r)) := by
  have e : (qs.set i r).take (i + 1) = qs.take i ++ [r] := by
    rw [List.take_succ_eq_append_getElem (by simp; omega), List.getElem_set_self, List.take_set_of_le (Nat.le_refl _)]
  refine ⟨i + 1, qs.set i r, c', by push_cast; rfl, rfl, by omega, by simp [hq], ?_, hc', ?_, hrow.set i r⟩
  · rw [e]; exact hd.append (Dig.cons hr Dig.nil)
  · rw [e]
    exact sum_step hv (by simp; omega) (show x + s * y + c = c + zs.getD i 0 + s * ys.getD i 0 by rw [hx, hy]; omega) he
theorem max_nat (w : World) (ts : Array TypeId) (t : TypeId) (n n2 m : Nat) (h : m = max n n2) : (Builtin.max_ ts t #[.int .i64 n, .int .i64 n2]).run Try.prog w = .ok (.int .i64 (m : Int)) w := by
  have : max (n : Int) (n2 : Int) = (m : Int) := by omega
  subst h
  by_cases h' : n ≤ n2
  · simp [go_sem]; omega
  · simp [go_sem]; omega
theorem addLimbs_any (a a2 : Option Addr) (n c n2 c2 : Nat) (s : Int) (zs ys : List Int) (w : World) (hs : Sx w a n c zs) (hs2 : Sx w a2 n2 c2 ys) (hd : Dig zs) (hd2 : Dig ys) (hl : n ≤ 90000) (hl2 : n2 ≤ 90000) (hsg : s = 1 ∨ s = -1) (hge : s = -1 → val ys ≤ val zs) :
    Calls Try.prog 72 #[.slice a n c, .slice a2 n2 c2, .int .i64 s] w (NewD w (val zs + s * val ys) 90001) := by
  obtain ⟨i0, hi, hz0, hz1, hz2⟩ := info_parts infoInt
  obtain ⟨m, hm⟩ : ∃ m, m = max n n2 := ⟨_, rfl⟩
  have hmx := fun (w : World) (ts : Array TypeId) (t : TypeId) => max_nat w ts t n n2 m hm
  have hm1 : n ≤ m := by omega
  have hm2 : n2 ≤ m := by omega
  have hmb : m ≤ 90000 := by omega
  have HL := Lib.hid hs.len
  have HL2 := Lib.hid hs2.len
  have HG := Lib.hid hge
  clear hm hge
  rcases hsg with rfl | rfl
  · go_enter Try.func72, Try.ntmps72
    go_wp2_with (first | (at_make; refine wpList_make_full _ rfl _ _ 24 rfl w.heap.size 3 i0 (.int .i64 0) 1 Try.underlying24 hi hz0 hz1 .i64 .i64 _ _ (m + 1) rfl rfl rfl rfl (by rw [hz2]; omega) (by unfold maxLen; omega) (by simp) ?_; intro W0 hm0 hg0; have hr0 := RowW.start hm0; have hb0 := made_below (B := w.heap.size) (a := w) (by repeat' first | (with_reducible first | apply zRf | assumption | apply zDn | apply zDr | apply zAl | apply zSt | refine zVi (by assumption) ?_ ?_) | go_size) hg0 (by simp; try omega); have hz0s := hg0.size; clear hm0 hg0))
    have hsz0 := blk_lt' hr0.row
    go_loopw [8, 20] (fun cv iv wr => AlRel W0 w.heap.size zs ys 1 (m + 1) cv iv wr) (fun _ iv _ => m + 1 - (intOf iv).toNat)
    case atStart => exact ⟨0, List.replicate (m + 1) 0, 0, rfl, rfl, by omega, by simp, by simp [Dig.nil], by omega, by simp [val], hr0⟩
    case round =>
      obtain ⟨i, qs, cc, rfl, rfl, hi1, hql, hqd, hc, hv, hrow⟩ := hrel
      have HQ := Lib.hid hql
      have HV := Lib.hid hv
      have HD := Lib.hid hqd
      have hcb : -1 ≤ cc ∧ cc ≤ 1 := by omega
      clear hql hv hqd
      by_cases h0 : i < m + 1
      · have hlt : (i : Int) < (m : Int) + 1 := by omega
        have dz := hd.getD i
        have dy := hd2.getD i
        have hg2 := hrow.free i
        have hg1 := hrow.cell (j := i) (by have := HQ.out; omega)
        have HN := Lib.hid (fun (r c' x y : Int) (h1 : zs.getD i 0 = x) (h2 : ys.getD i 0 = y) (h3 : _) (h4 : _) (h5 : _) => al_next (s := 1) (r := r) (c' := c') (x := x) (y := y) h0 HQ.out HD.out HV.out h1 h2 h3 h4 h5 hrow)
        by_cases hA : i < n
        · obtain ⟨b1, off1, rfl, hb1, hcs⟩ := hs.at (by omega)
          have c1 := (hrow.only.cell (b := b1) (by omega) (off1 + i)).trans ((hb0.cell (p := ⟨b1, off1 + i, none⟩) hb1).trans (hcs i hA))
          have HZ := Lib.hid (List.getD_eq_getElem?_getD (l := zs) (i := i) (a := 0))
          rw [List.getD_eq_getElem?_getD] at dz
          clear hcs
          generalize zs[i]?.getD 0 = x at *
          by_cases hB : i < n2
          · obtain ⟨b2, off2, rfl, hb2, hcs2⟩ := hs2.at (by omega)
            have c2' := (hrow.only.cell (b := b2) (by omega) (off2 + i)).trans ((hb0.cell (p := ⟨b2, off2 + i, none⟩) hb2).trans (hcs2 i hB))
            have HY := Lib.hid (List.getD_eq_getElem?_getD (l := ys) (i := i) (a := 0))
            rw [List.getD_eq_getElem?_getD] at dy
            clear hcs2
            generalize ys[i]?.getD 0 = y at *
            go_wp2_with fail
            all_goals
              go_roundw
              case rel => exact HN.out _ _ x y HZ.out HY.out (by omega) (by omega) (by omega)
              case measure => simp [intOf]; omega
          · have HY := Lib.hid (show ys.getD i 0 = 0 from gD_ge (by have := HL2.out; omega))
            go_wp2_with fail
            all_goals
              go_roundw
              case rel => exact HN.out _ _ x 0 HZ.out HY.out (by omega) (by omega) (by omega)
              case measure => simp [intOf]; omega
        · have HZ := Lib.hid (show zs.getD i 0 = 0 from gD_ge (by have := HL.out; omega))
          by_cases hB : i < n2
          · obtain ⟨b2, off2, rfl, hb2, hcs2⟩ := hs2.at (by omega)
            have c2' := (hrow.only.cell (b := b2) (by omega) (off2 + i)).trans ((hb0.cell (p := ⟨b2, off2 + i, none⟩) hb2).trans (hcs2 i hB))
            have HY := Lib.hid (List.getD_eq_getElem?_getD (l := ys) (i := i) (a := 0))
            rw [List.getD_eq_getElem?_getD] at dy
            clear hcs2
            generalize ys[i]?.getD 0 = y at *
            go_wp2_with fail
            all_goals
              go_roundw
              case rel => exact HN.out _ _ 0 y HZ.out HY.out (by omega) (by omega) (by omega)
              case measure => simp [intOf]; omega
          · have HY := Lib.hid (show ys.getD i 0 = 0 from gD_ge (by have := HL2.out; omega))
            go_wp2_with fail
            all_goals
              go_roundw
              case rel => exact HN.out _ _ 0 0 HZ.out HY.out (by omega) (by omega) (by omega)
              case measure => simp [intOf]; omega
      · obtain rfl : i = m + 1 := by omega
        have hqs : Dig qs := by have := HD.out; rwa [List.take_of_length_le (by have := HQ.out; omega)] at this
        have hvz := val_lt hd
        have hvy := val_lt hd2
        have hz0 := val_nonneg hd
        have hy0 := val_nonneg hd2
        have pz := p4_mono (show zs.length ≤ m by have := HL.out; omega)
        have py := p4_mono (show ys.length ≤ m by have := HL2.out; omega)
        have hV : val qs = val zs + 1 * val ys := by
          have h1 := HV.out
          rw [List.take_of_length_le (by have := HQ.out; omega), val_take_all _ _ (by have := HL.out; omega), val_take_all _ _ (by have := HL2.out; omega)] at h1
          refine sum_end hqs HQ.out h1 ?_ ?_
          · have := HG.out
            simp at this
            omega
          · rw [Int.pow_succ]; have := p4_pos m; omega
        have HVV := Lib.hid hV
        have hnm : m + 1 ≤ maxLen := by unfold maxLen; omega
        have hsx := hrow.sx HQ.out hnm
        have hbw := hrow.below hb0 (Nat.le_refl _)
        have HSX := Lib.hid hsx
        clear hV hvz hvy pz py hsx hrow
        go_wp2_with fail
        go_ret
        exact ⟨_, _, _, qs, rfl, HSX.out, hqs, HVV.out, by omega, (fun A e => by cases e; exact Nat.le_refl _), hbw⟩
  · go_enter Try.func72, Try.ntmps72
    go_wp2_with (first | (at_make; refine wpList_make_full _ rfl _ _ 24 rfl w.heap.size 3 i0 (.int .i64 0) 1 Try.underlying24 hi hz0 hz1 .i64 .i64 _ _ (m + 1) rfl rfl rfl rfl (by rw [hz2]; omega) (by unfold maxLen; omega) (by simp) ?_; intro W0 hm0 hg0; have hr0 := RowW.start hm0; have hb0 := made_below (B := w.heap.size) (a := w) (by repeat' first | (with_reducible first | apply zRf | assumption | apply zDn | apply zDr | apply zAl | apply zSt | refine zVi (by assumption) ?_ ?_) | go_size) hg0 (by simp; try omega); have hz0s := hg0.size; clear hm0 hg0))
    have hsz0 := blk_lt' hr0.row
    go_loopw [8, 20] (fun cv iv wr => AlRel W0 w.heap.size zs ys (-1) (m + 1) cv iv wr) (fun _ iv _ => m + 1 - (intOf iv).toNat)
    case atStart => exact ⟨0, List.replicate (m + 1) 0, 0, rfl, rfl, by omega, by simp, by simp [Dig.nil], by omega, by simp [val], hr0⟩
    case round =>
      obtain ⟨i, qs, cc, rfl, rfl, hi1, hql, hqd, hc, hv, hrow⟩ := hrel
      have HQ := Lib.hid hql
      have HV := Lib.hid hv
      have HD := Lib.hid hqd
      have hcb : -1 ≤ cc ∧ cc ≤ 1 := by omega
      clear hql hv hqd
      by_cases h0 : i < m + 1
      · have hlt : (i : Int) < (m : Int) + 1 := by omega
        have dz := hd.getD i
        have dy := hd2.getD i
        have hg2 := hrow.free i
        have hg1 := hrow.cell (j := i) (by have := HQ.out; omega)
        have HN := Lib.hid (fun (r c' x y : Int) (h1 : zs.getD i 0 = x) (h2 : ys.getD i 0 = y) (h3 : _) (h4 : _) (h5 : _) => al_next (s := (-1)) (r := r) (c' := c') (x := x) (y := y) h0 HQ.out HD.out HV.out h1 h2 h3 h4 h5 hrow)
        by_cases hA : i < n
        · obtain ⟨b1, off1, rfl, hb1, hcs⟩ := hs.at (by omega)
          have c1 := (hrow.only.cell (b := b1) (by omega) (off1 + i)).trans ((hb0.cell (p := ⟨b1, off1 + i, none⟩) hb1).trans (hcs i hA))
          have HZ := Lib.hid (List.getD_eq_getElem?_getD (l := zs) (i := i) (a := 0))
          rw [List.getD_eq_getElem?_getD] at dz
          clear hcs
          generalize zs[i]?.getD 0 = x at *
          by_cases hB : i < n2
          · obtain ⟨b2, off2, rfl, hb2, hcs2⟩ := hs2.at (by omega)
            have c2' := (hrow.only.cell (b := b2) (by omega) (off2 + i)).trans ((hb0.cell (p := ⟨b2, off2 + i, none⟩) hb2).trans (hcs2 i hB))
            have HY := Lib.hid (List.getD_eq_getElem?_getD (l := ys) (i := i) (a := 0))
            rw [List.getD_eq_getElem?_getD] at dy
            clear hcs2
            generalize ys[i]?.getD 0 = y at *
            go_wp2_with fail
            all_goals
              go_roundw
              case rel => exact HN.out _ _ x y HZ.out HY.out (by omega) (by omega) (by omega)
              case measure => simp [intOf]; omega
          · have HY := Lib.hid (show ys.getD i 0 = 0 from gD_ge (by have := HL2.out; omega))
            go_wp2_with fail
            all_goals
              go_roundw
              case rel => exact HN.out _ _ x 0 HZ.out HY.out (by omega) (by omega) (by omega)
              case measure => simp [intOf]; omega
        · have HZ := Lib.hid (show zs.getD i 0 = 0 from gD_ge (by have := HL.out; omega))
          by_cases hB : i < n2
          · obtain ⟨b2, off2, rfl, hb2, hcs2⟩ := hs2.at (by omega)
            have c2' := (hrow.only.cell (b := b2) (by omega) (off2 + i)).trans ((hb0.cell (p := ⟨b2, off2 + i, none⟩) hb2).trans (hcs2 i hB))
            have HY := Lib.hid (List.getD_eq_getElem?_getD (l := ys) (i := i) (a := 0))
            rw [List.getD_eq_getElem?_getD] at dy
            clear hcs2
            generalize ys[i]?.getD 0 = y at *
            go_wp2_with fail
            all_goals
              go_roundw
              case rel => exact HN.out _ _ 0 y HZ.out HY.out (by omega) (by omega) (by omega)
              case measure => simp [intOf]; omega
          · have HY := Lib.hid (show ys.getD i 0 = 0 from gD_ge (by have := HL2.out; omega))
            go_wp2_with fail
            all_goals
              go_roundw
              case rel => exact HN.out _ _ 0 0 HZ.out HY.out (by omega) (by omega) (by omega)
              case measure => simp [intOf]; omega
      · obtain rfl : i = m + 1 := by omega
        have hqs : Dig qs := by have := HD.out; rwa [List.take_of_length_le (by have := HQ.out; omega)] at this
        have hvz := val_lt hd
        have hvy := val_lt hd2
        have hz0 := val_nonneg hd
        have hy0 := val_nonneg hd2
        have pz := p4_mono (show zs.length ≤ m by have := HL.out; omega)
        have py := p4_mono (show ys.length ≤ m by have := HL2.out; omega)
        have hV : val qs = val zs + (-1) * val ys := by
          have h1 := HV.out
          rw [List.take_of_length_le (by have := HQ.out; omega), val_take_all _ _ (by have := HL.out; omega), val_take_all _ _ (by have := HL2.out; omega)] at h1
          refine sum_end hqs HQ.out h1 ?_ ?_
          · have := HG.out
            simp at this
            omega
          · rw [Int.pow_succ]; have := p4_pos m; omega
        have HVV := Lib.hid hV
        have hnm : m + 1 ≤ maxLen := by unfold maxLen; omega
        have hsx := hrow.sx HQ.out hnm
        have hbw := hrow.below hb0 (Nat.le_refl _)
        have HSX := Lib.hid hsx
        clear hV hvz hvy pz py hsx hrow
        go_wp2_with fail
        go_ret
        exact ⟨_, _, _, qs, rfl, HSX.out, hqs, HVV.out, by omega, (fun A e => by cases e; exact Nat.le_refl _), hbw⟩
end Go.Proofs.Ytijpfnkhaldfeaa
