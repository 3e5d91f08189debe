/- Sums of multiples of points: the reference. -/
import Derived.Test.YtgjppinjapdbeaaPtZ
import Derived.Test.YtgjppinjapdbeaaLs
import Derived.IntWalk
namespace Go.Proofs.Ytgjppinjapdbeaa
open Go.RowKit
set_option linter.unusedVariables false
set_option maxHeartbeats 16000000
set_option maxRecDepth 20000
set_option linter.unusedSimpArgs false
attribute [local go_sem] openAt openUpon
noncomputable def cmV (A B : Int) (zs : List Int) (n : Nat) (ns : List Int) (m : Nat) : P4 := if (plB A B zs n && fitB n m ns) = true then cmS A zs ns n else (0, 0, 0, false)
theorem cmV_cases (A B : Int) (zs : List Int) (n : Nat) (ns : List Int) (m : Nat) : (plB A B zs n = false ∧ cmV A B zs n ns m = (0, 0, 0, false)) ∨ (plB A B zs n = true ∧ (fitB n m ns = false ∧ cmV A B zs n ns m = (0, 0, 0, false) ∨ fitB n m ns = true ∧ cmV A B zs n ns m = cmS A zs ns n)) := by
  unfold cmV
  cases h1 : plB A B zs n
  · left; exact ⟨rfl, by simp⟩
  · right; refine ⟨rfl, ?_⟩
    cases h2 : fitB n m ns
    · left; exact ⟨rfl, by simp⟩
    · right; exact ⟨rfl, by simp⟩
theorem plB_out {A B : Int} {zs : List Int} {n : Nat} (h : plB A B zs n = true) : cvB A B = true ∧ (1 ≤ n ∧ n ≤ 4) ∧ ∀ j, j < n → ptB A B (zs[j * 3]?.getD 0) (zs[j * 3 + 1]?.getD 0) (zs[j * 3 + 2]?.getD 0) = true := by
  unfold plB at h
  simp only [Bool.and_eq_true] at h
  refine ⟨h.1, by have := inB_iff.1 h.2.1; omega, fun j hj => ?_⟩
  have := h.2.2
  unfold ptsB at this
  rw [List.all_eq_true] at this
  exact this j (by simpa using hj)
theorem fitB_out {n m : Nat} {ns : List Int} (h : fitB n m ns = true) : m = n ∧ ∀ j, j < n → -12 ≤ ns[j]?.getD 0 ∧ ns[j]?.getD 0 ≤ 12 := by
  unfold fitB at h
  simp only [Bool.and_eq_true, decide_eq_true_eq] at h
  obtain ⟨rfl, h⟩ := h
  exact ⟨rfl, fun j hj => allB_at h hj⟩
theorem cmS_step {A : Int} {zs ns : List Int} {k : Nat} {a b c X Y E N : Int} {q1 q2 q3 : Int} {q4 : Bool} (h : cmS A zs ns k = (a, b, c, true)) (hX : zs[k * 3]?.getD 0 = X) (hY : zs[k * 3 + 1]?.getD 0 = Y) (hE : zs[k * 3 + 2]?.getD 0 = E) (hN : ns[k]?.getD 0 = N) (hq : ptN A X Y E N = (q1, q2, q3, q4)) :
    cmS A zs ns (k + 1) = if q4 = true then ptS A a b c q1 q2 q3 else (0, 0, 0, false) := by
  simp only [cmS, h, hX, hY, hE, hN, hq, true_and]
theorem cmS_out {A : Int} {zs ns : List Int} {k n : Nat} (h : cmS A zs ns (k + 1) = (0, 0, 0, false)) (hk : k < n) : cmS A zs ns n = (0, 0, 0, false) := by
  by_cases e : n = k + 1
  · subst e; exact h
  · exact cmS_no (show (cmS A zs ns (k + 1)).2.2.2 = false by rw [h]) n (by omega)
theorem zfar1 {w : World} {b1 o1 b2 o2 : Nat} {x v : Value} (h : w.cell? ⟨b2, o2, none⟩ = some v) (hne : b1 ≠ b2) : (w.setCell ⟨b1, o1, none⟩ x).cell? ⟨b2, o2, none⟩ = some v := by
  rw [← h]
  exact World.cell?_of_block (a := ⟨b2, o2, none⟩) (Below.heap_setCell w ⟨b1, o1, none⟩ x b2 (fun e => hne e.symm))
theorem zfar3 {w : World} {b1 o1 o1' o1'' b2 o2 : Nat} {x y z v : Value} (h : w.cell? ⟨b2, o2, none⟩ = some v) (hne : b1 ≠ b2) : (((w.setCell ⟨b1, o1, none⟩ x).setCell ⟨b1, o1', none⟩ y).setCell ⟨b1, o1'', none⟩ z).cell? ⟨b2, o2, none⟩ = some v := zfar1 (zfar1 (zfar1 h hne) hne) hne
theorem zcellAtQ {Q : Prop} {W w1 : World} (hb : Below W.heap.size W w1) (b : Nat) (h : b < W.heap.size) (k : (∀ o, w1.cell? ⟨b, o, none⟩ = W.cell? ⟨b, o, none⟩) → (∀ o, w1.frozen? ⟨b, o, none⟩ = W.frozen? ⟨b, o, none⟩) → b < w1.heap.size → Q) : Q := k (cellAt hb b h) (frozAt hb b h) (Nat.lt_of_lt_of_le h hb.size)
def CmRel (w w4 : World) (A B : Int) (zs ns : List Int) (n : Nat) (iv : Value) (wr : World) : Prop := ∃ (k : Nat) (a b c : Int), iv = .int .i64 k ∧ k ≤ n ∧ cmS A zs ns k = (a, b, c, true) ∧
  wr.heap[w.heap.size]? = some (.cells #[.int .i64 A, .int .i64 B] 31 (0, 0)) ∧ wr.heap[w.heap.size + 1]? = some (.cells #[.int .i64 0, .int .i64 0, .int .i64 0] 28 (0, 0)) ∧
  wr.heap[w4.heap.size]? = some (.cells #[.int .i64 a, .int .i64 b, .int .i64 c] 28 (0, 0)) ∧ Below w.heap.size w wr
theorem sCombinePoints_any (A B : Int) (a0 b0 : Option Addr) (n c0 m d0 : Nat) (zs ns : List Int) (w : World) (hp : Px w a0 n c0 zs) (hs : Sx w b0 m d0 ns) :
    Calls Try.prog 7 #[.agg #[.int .i64 A, .int .i64 B], .slice a0 n c0, .slice b0 m d0] w fun r w' =>
      r = .returned (.tuple #[.agg #[.int .i64 (cmV A B zs n ns m).1, .int .i64 (cmV A B zs n ns m).2.1, .int .i64 (cmV A B zs n ns m).2.2.1], .bool (cmV A B zs n ns m).2.2.2]) ∧ Below w.heap.size w w' := by
  have hnm := hp.cap
  have hnm2 := hp.max
  have T1 := fun (W : World) (hW : Below w.heap.size w W) => Lib.hid (hpList_any A B a0 n c0 zs W (hp.below hW))
  have T2 := fun (W : World) (hW : Below w.heap.size w W) => Lib.hid (hpNumbers_any (a := a0) (n := n) (c := c0) W (hs.below hW) (by omega))
  unfold maxLen at hnm2
  rcases cmV_cases A B zs n ns m with ⟨h1, e1⟩ | ⟨h1, ⟨h2, e1⟩ | ⟨h2, e1⟩⟩
  · rw [e1]
    rw [h1] at T1
    clear h1 e1
    have tok1 : True := trivial
    go_enter Try.func7, Try.ntmps7
    go_wp2_with (first | (have _t := tok1; go_at_call 22; (with_reducible refine ((T1 _ (by repeat' first | (with_reducible first | apply zRf | assumption | apply zDn | apply zDr | apply zAl | apply zSt | refine zVi (by assumption) ?_ ?_) | go_size)).out).mono ?_); rintro e w1 ⟨rfl, hb1⟩; clear tok1 _t; have hz1 := hb1.size; (try simp only [World.size_alloc, World.size_setCell, World.size_drew, World.size_drewN'] at hz1); (try (have kq := cellAt hb1 (w.heap.size) (by go_size); have k1_w_0_0 := kq 0; have k1_w_0_1 := kq 1; clear kq; have f1_w_0 := frozAt hb1 (w.heap.size) (by go_size); simp [go_sem, *] at k1_w_0_0 k1_w_0_1 f1_w_0)); (try have l1_w_0 : w.heap.size < w1.heap.size := by omega); (try (have kq := cellAt hb1 (w.heap.size + 1) (by go_size); have k1_w_1_0 := kq 0; have k1_w_1_1 := kq 1; have k1_w_1_2 := kq 2; clear kq; have f1_w_1 := frozAt hb1 (w.heap.size + 1) (by go_size); simp [go_sem, *] at k1_w_1_0 k1_w_1_1 k1_w_1_2 f1_w_1)); (try have l1_w_1 : w.heap.size + 1 < w1.heap.size := by omega)) | (go_at_call 23; (with_reducible refine ((T2 _ (by repeat' first | (with_reducible first | apply zRf | assumption | apply zDn | apply zDr | apply zAl | apply zSt | refine zVi (by assumption) ?_ ?_) | go_size)).out).mono ?_); rintro e w' ⟨rfl, rfl⟩))
    refine bodyPost_ret (v := _) (by simp [results, Try.results7, go_sem, *]) rfl ⟨rfl, ?_⟩
    repeat' first | (with_reducible first | apply zRf | assumption | apply zDn | apply zDr | apply zAl | apply zSt | refine zVi (by assumption) ?_ ?_) | go_size
  · rw [e1]
    rw [h1] at T1
    rw [h2] at T2
    clear h1 h2 e1
    have tok1 : True := trivial
    go_enter Try.func7, Try.ntmps7
    go_wp2_with (first | (have _t := tok1; go_at_call 22; (with_reducible refine ((T1 _ (by repeat' first | (with_reducible first | apply zRf | assumption | apply zDn | apply zDr | apply zAl | apply zSt | refine zVi (by assumption) ?_ ?_) | go_size)).out).mono ?_); rintro e w1 ⟨rfl, hb1⟩; clear tok1 _t; have hz1 := hb1.size; (try simp only [World.size_alloc, World.size_setCell, World.size_drew, World.size_drewN'] at hz1); (try (have kq := cellAt hb1 (w.heap.size) (by go_size); have k1_w_0_0 := kq 0; have k1_w_0_1 := kq 1; clear kq; have f1_w_0 := frozAt hb1 (w.heap.size) (by go_size); simp [go_sem, *] at k1_w_0_0 k1_w_0_1 f1_w_0)); (try have l1_w_0 : w.heap.size < w1.heap.size := by omega); (try (have kq := cellAt hb1 (w.heap.size + 1) (by go_size); have k1_w_1_0 := kq 0; have k1_w_1_1 := kq 1; have k1_w_1_2 := kq 2; clear kq; have f1_w_1 := frozAt hb1 (w.heap.size + 1) (by go_size); simp [go_sem, *] at k1_w_1_0 k1_w_1_1 k1_w_1_2 f1_w_1)); (try have l1_w_1 : w.heap.size + 1 < w1.heap.size := by omega)) | (go_at_call 23; (with_reducible refine ((T2 _ (by repeat' first | (with_reducible first | apply zRf | assumption | apply zDn | apply zDr | apply zAl | apply zSt | refine zVi (by assumption) ?_ ?_) | go_size)).out).mono ?_); rintro e w' ⟨rfl, rfl⟩))
    refine bodyPost_ret (v := _) (by simp [results, Try.results7, go_sem, *]) rfl ⟨rfl, ?_⟩
    repeat' first | (with_reducible first | apply zRf | assumption | apply zDn | apply zDr | apply zAl | apply zSt | refine zVi (by assumption) ?_ ?_) | go_size
  · rw [e1]
    clear e1
    obtain ⟨hcv, hn4, hpt⟩ := plB_out h1
    obtain ⟨rfl, hfit⟩ := fitB_out h2
    rw [h1] at T1
    rw [h2] at T2
    clear h1 h2
    have hcb := cvB_bd hcv
    have hA : -1000 ≤ A ∧ A ≤ 1000 := by omega
    have hB : -10000 ≤ B ∧ B ≤ 10000 := by omega
    clear hcb
    obtain ⟨r1, r2, r3, r4, hr⟩ := pt4 (cmS A zs ns m)
    rw [hr]
    have HR := Lib.hid hr
    clear hr hcv
    have tok1 : True := trivial
    have tok2 : True := trivial
    have tok3 : True := trivial
    have tok4 : True := trivial
    have tok5 : True := trivial
    have tok6 : True := trivial
    go_enter Try.func7, Try.ntmps7
    go_upto_region 1 with fail
    refine chk (fun W => Below w.heap.size w W ∧ W.heap[w.heap.size]? = some (.cells #[.int .i64 A, .int .i64 B] 31 (0, 0)) ∧ W.heap[w.heap.size + 1]? = some (.cells #[.int .i64 0, .int .i64 0, .int .i64 0] 28 (0, 0))) (by refine ⟨?_, ?_, ?_⟩ <;> (repeat' first | (with_reducible first | assumption | (apply Ne.symm; assumption) | apply Nat.le_refl | apply Nat.le_add_right | apply zL | apply zRf | apply Wx.box | apply Wx.box4 | apply zWa | apply Wx.drew | apply zWn | apply bx_drew | apply bx_drewN | apply bx_set3 | apply bx_set2 | apply bx_set4 | apply bx_set1) | ((with_reducible apply bx_new); (focus (go_size; done))) | (with_reducible first | apply zOl | apply zFa | apply zDn | apply zDr | apply zAl | apply zSt | refine zVi (by assumption) ?_ ?_) | go_size | omega)) ?_
    rintro w40 ⟨hB40, H_C_40, H_O_40⟩
    obtain ⟨k_C_40_0, k_C_40_1, f_C_40, l_C_40⟩ := bk2 H_C_40
    replace H_C_40 := Lib.hid H_C_40
    obtain ⟨k_O_40_0, k_O_40_1, k_O_40_2, f_O_40, l_O_40⟩ := bk3 H_O_40
    replace H_O_40 := Lib.hid H_O_40
    go_upto_region 3 with (first | (have _t := tok1; go_at_call 22; (with_reducible refine ((T1 _ (by repeat' first | (with_reducible first | apply zRf | assumption | apply zDn | apply zDr | apply zAl | apply zSt | refine zVi (by assumption) ?_ ?_) | go_size)).out).mono ?_); rintro e w1 ⟨rfl, hb1⟩; clear tok1 _t; have hz1 := hb1.size; (try simp only [World.size_alloc, World.size_setCell, World.size_drew, World.size_drewN'] at hz1); (try (have kq := cellAt hb1 (w.heap.size) (by go_size); have k1_w_0_0 := kq 0; have k1_w_0_1 := kq 1; clear kq; have f1_w_0 := frozAt hb1 (w.heap.size) (by go_size); simp [go_sem, *] at k1_w_0_0 k1_w_0_1 f1_w_0)); (try have l1_w_0 : w.heap.size < w1.heap.size := by omega); (try (have kq := cellAt hb1 (w.heap.size + 1) (by go_size); have k1_w_1_0 := kq 0; have k1_w_1_1 := kq 1; have k1_w_1_2 := kq 2; clear kq; have f1_w_1 := frozAt hb1 (w.heap.size + 1) (by go_size); simp [go_sem, *] at k1_w_1_0 k1_w_1_1 k1_w_1_2 f1_w_1)); (try have l1_w_1 : w.heap.size + 1 < w1.heap.size := by omega)) | (go_at_call 23; (with_reducible refine ((T2 _ (by repeat' first | (with_reducible first | apply zRf | assumption | apply zDn | apply zDr | apply zAl | apply zSt | refine zVi (by assumption) ?_ ?_) | go_size)).out).mono ?_); rintro e w' ⟨rfl, rfl⟩))
    have H_C_1 := (hb1.block (w.heap.size) (blk_lt' H_C_40.out)).trans H_C_40.out
    clear k_C_40_0 k_C_40_1 f_C_40 H_C_40
    obtain ⟨k_C_1_0, k_C_1_1, f_C_1, l_C_1⟩ := bk2 H_C_1
    replace H_C_1 := Lib.hid H_C_1
    have H_O_1 := (hb1.block (w.heap.size + 1) (blk_lt' H_O_40.out)).trans H_O_40.out
    clear k_O_40_0 k_O_40_1 k_O_40_2 f_O_40 H_O_40
    obtain ⟨k_O_1_0, k_O_1_1, k_O_1_2, f_O_1, l_O_1⟩ := bk3 H_O_1
    replace H_O_1 := Lib.hid H_O_1
    have hB1 : Below w.heap.size w w1 := below_via hb1 (by assumption) (by go_size)
    replace H_C_1 := H_C_1.out
    replace H_O_1 := H_O_1.out
    refine chk (fun W => Below w.heap.size w W ∧ W.heap[w.heap.size]? = some (.cells #[.int .i64 A, .int .i64 B] 31 (0, 0)) ∧ W.heap[w.heap.size + 1]? = some (.cells #[.int .i64 0, .int .i64 0, .int .i64 0] 28 (0, 0))) (by refine ⟨?_, ?_, ?_⟩ <;> (repeat' first | (with_reducible first | assumption | (apply Ne.symm; assumption) | apply Nat.le_refl | apply Nat.le_add_right | apply zL | apply zRf | apply Wx.box | apply Wx.box4 | apply zWa | apply Wx.drew | apply zWn | apply bx_drew | apply bx_drewN | apply bx_set3 | apply bx_set2 | apply bx_set4 | apply bx_set1) | ((with_reducible apply bx_new); (focus (go_size; done))) | (with_reducible first | apply zOl | apply zFa | apply zDn | apply zDr | apply zAl | apply zSt | refine zVi (by assumption) ?_ ?_) | go_size | omega)) ?_
    clear k_C_1_0 k_C_1_1 f_C_1 H_C_1
    clear k_O_1_0 k_O_1_1 k_O_1_2 f_O_1 H_O_1
    clear hB1
    rintro w2 ⟨hB2, H_C_2, H_O_2⟩
    obtain ⟨k_C_2_0, k_C_2_1, f_C_2, l_C_2⟩ := bk2 H_C_2
    replace H_C_2 := Lib.hid H_C_2
    obtain ⟨k_O_2_0, k_O_2_1, k_O_2_2, f_O_2, l_O_2⟩ := bk3 H_O_2
    replace H_O_2 := Lib.hid H_O_2
    clear T1 T2
    go_wp2_with fail
    go_loopw [29] (fun iv wr => CmRel w w2 A B zs ns m iv wr) (fun iv _ => (m - intOf iv).toNat)
    case atStart =>
      have q1 := H_C_2.out
      have q2 := H_O_2.out
      exact ⟨0, 0, 0, 0, rfl, by omega, rfl, by (repeat' first | (with_reducible first | assumption | (apply Ne.symm; assumption) | apply Nat.le_refl | apply Nat.le_add_right | apply zL | apply zRf | apply Wx.box | apply Wx.box4 | apply zWa | apply Wx.drew | apply zWn | apply bx_drew | apply bx_drewN | apply bx_set3 | apply bx_set2 | apply bx_set4 | apply bx_set1) | ((with_reducible apply bx_new); (focus (go_size; done))) | (with_reducible first | apply zOl | apply zFa | apply zDn | apply zDr | apply zAl | apply zSt | refine zVi (by assumption) ?_ ?_) | go_size | omega), by (repeat' first | (with_reducible first | assumption | (apply Ne.symm; assumption) | apply Nat.le_refl | apply Nat.le_add_right | apply zL | apply zRf | apply Wx.box | apply Wx.box4 | apply zWa | apply Wx.drew | apply zWn | apply bx_drew | apply bx_drewN | apply bx_set3 | apply bx_set2 | apply bx_set4 | apply bx_set1) | ((with_reducible apply bx_new); (focus (go_size; done))) | (with_reducible first | apply zOl | apply zFa | apply zDn | apply zDr | apply zAl | apply zSt | refine zVi (by assumption) ?_ ?_) | go_size | omega), by (repeat' first | (with_reducible first | assumption | (apply Ne.symm; assumption) | apply Nat.le_refl | apply Nat.le_add_right | apply zL | apply zRf | apply Wx.box | apply Wx.box4 | apply zWa | apply Wx.drew | apply zWn | apply bx_drew | apply bx_drewN | apply bx_set3 | apply bx_set2 | apply bx_set4 | apply bx_set1) | ((with_reducible apply bx_new); (focus (go_size; done))) | (with_reducible first | apply zOl | apply zFa | apply zDn | apply zDr | apply zAl | apply zSt | refine zVi (by assumption) ?_ ?_) | go_size | omega), by (repeat' first | (with_reducible first | assumption | (apply Ne.symm; assumption) | apply Nat.le_refl | apply Nat.le_add_right | apply zL | apply zRf | apply Wx.box | apply Wx.box4 | apply zWa | apply Wx.drew | apply zWn | apply bx_drew | apply bx_drewN | apply bx_set3 | apply bx_set2 | apply bx_set4 | apply bx_set1) | ((with_reducible apply bx_new); (focus (go_size; done))) | (with_reducible first | apply zOl | apply zFa | apply zDn | apply zDr | apply zAl | apply zSt | refine zVi (by assumption) ?_ ?_) | go_size | omega)⟩
    case round =>
      obtain ⟨k, a, b, c, rfl, hk, hm, hC, hO, hS, hbw⟩ := hrel
      have HM := Lib.hid hm
      clear hm
      by_cases hlt : k < m
      · have hltc : (k : Int) < m := by omega
        obtain ⟨b1, off, rfl, hb1, hcs⟩ := hp.at (by omega)
        obtain ⟨b2, off2, rfl, hb2, hcs2⟩ := hs.at (by omega)
        have d0 := hcs2 k hlt
        have e0 := (hbw.cell (p := ⟨b1, off + k * 3, none⟩) hb1).trans (hcs (k * 3) (by omega))
        have e1 := (hbw.cell (p := ⟨b1, off + k * 3 + 1, none⟩) hb1).trans (hcs (k * 3 + 1) (by omega))
        have e2 := (hbw.cell (p := ⟨b1, off + k * 3 + 2, none⟩) hb1).trans (hcs (k * 3 + 2) (by omega))
        have hpk := hpt k hlt
        have hnk := hfit k hlt
        obtain ⟨X, hX⟩ : ∃ v, zs[k * 3]?.getD 0 = v := ⟨_, rfl⟩
        obtain ⟨Y, hY⟩ : ∃ v, zs[k * 3 + 1]?.getD 0 = v := ⟨_, rfl⟩
        obtain ⟨E, hE⟩ : ∃ v, zs[k * 3 + 2]?.getD 0 = v := ⟨_, rfl⟩
        obtain ⟨N, hN⟩ : ∃ v, ns[k]?.getD 0 = v := ⟨_, rfl⟩
        rw [hX] at e0
        rw [hY] at e1
        rw [hE] at e2
        rw [hN] at d0 hnk
        rw [hX, hY, hE] at hpk
        have TT := fun W : World => Lib.hid (ptTimes_any A B X Y E N W hA hB hpk hnk)
        have hok2 := ptN_ok (n := N) hA hB hpk
        have hok1 := cmS_ok (ns := ns) hA hB hpt k (by omega)
        rw [HM.out] at hok1
        obtain ⟨q1, q2, q3, q4, hq⟩ := pt4 (ptN A X Y E N)
        have hst := cmS_step HM.out hX hY hE hN hq
        have HST := Lib.hid hst
        have D0 := Lib.hid d0
        clear d0
        rw [hq] at TT hok2
        have HOK1 := Lib.hid hok1
        have HOK2 := Lib.hid hok2
        have hsw := hbw.size
        clear hst hX hY hE hN hq hok1 hok2 hcs hcs2 hpk hnk
        go_upto_region 7 with fail
        replace H_C_2 := H_C_2.out
        replace H_O_2 := H_O_2.out
        refine chk (fun W => Below w.heap.size w W ∧ W.heap[w.heap.size]? = some (.cells #[.int .i64 A, .int .i64 B] 31 (0, 0)) ∧ W.heap[w.heap.size + 1]? = some (.cells #[.int .i64 0, .int .i64 0, .int .i64 0] 28 (0, 0)) ∧ W.heap[w2.heap.size]? = some (.cells #[.int .i64 a, .int .i64 b, .int .i64 c] 28 (0, 0)) ∧ W.heap[wr.heap.size]? = some (.cells #[.int .i64 X, .int .i64 Y, .int .i64 E] 28 (0, 0))) (by refine ⟨?_, ?_, ?_, ?_, ?_⟩ <;> (repeat' first | (with_reducible first | assumption | (apply Ne.symm; assumption) | apply Nat.le_refl | apply Nat.le_add_right | apply zL | apply zRf | apply Wx.box | apply Wx.box4 | apply zWa | apply Wx.drew | apply zWn | apply bx_drew | apply bx_drewN | apply bx_set3 | apply bx_set2 | apply bx_set4 | apply bx_set1) | ((with_reducible apply bx_new); (focus (go_size; done))) | (with_reducible first | apply zOl | apply zFa | apply zDn | apply zDr | apply zAl | apply zSt | refine zVi (by assumption) ?_ ?_) | go_size | omega)) ?_
        clear k_C_2_0 k_C_2_1 f_C_2 H_C_2
        clear k_O_2_0 k_O_2_1 k_O_2_2 f_O_2 H_O_2
        clear hB2
        rintro w3 ⟨hB3, H_C_3, H_O_3, H_S_3, H_P_3⟩
        obtain ⟨k_C_3_0, k_C_3_1, f_C_3, l_C_3⟩ := bk2 H_C_3
        replace H_C_3 := Lib.hid H_C_3
        obtain ⟨k_O_3_0, k_O_3_1, k_O_3_2, f_O_3, l_O_3⟩ := bk3 H_O_3
        replace H_O_3 := Lib.hid H_O_3
        obtain ⟨k_S_3_0, k_S_3_1, k_S_3_2, f_S_3, l_S_3⟩ := bk3 H_S_3
        replace H_S_3 := Lib.hid H_S_3
        obtain ⟨k_P_3_0, k_P_3_1, k_P_3_2, f_P_3, l_P_3⟩ := bk3 H_P_3
        replace H_P_3 := Lib.hid H_P_3
        have d0 := (hB3.cell (p := ⟨b2, off2 + k, none⟩) hb2).trans D0.out
        have hb23 : b2 < w3.heap.size := by have := hB3.size; omega
        clear e0 e1 e2 hC hO hS
        have HAB := Lib.hid (And.intro hA hB)
        have HPS := Lib.hid (And.intro hp hs)
        have HFT := Lib.hid (And.intro hpt hfit)
        clear hA hB hp hs hpt hfit hnm hnm2
        go_region_held3 (fun w' => w'.cell? ⟨w.heap.size, 0, none⟩ = some (.int .i64 A) ∧ w'.cell? ⟨w.heap.size, 1, none⟩ = some (.int .i64 B) ∧ w'.cell? ⟨wr.heap.size, 0, none⟩ = some (.int .i64 X) ∧ w'.cell? ⟨wr.heap.size, 1, none⟩ = some (.int .i64 Y) ∧ w'.cell? ⟨wr.heap.size, 2, none⟩ = some (.int .i64 E) ∧ w'.cell? ⟨b2, off2 + k, none⟩ = some (.int .i64 N)) (first | (refine ⟨zfar3 (by assumption) ?_, zfar3 (by assumption) ?_, zfar3 (by assumption) ?_, zfar3 (by assumption) ?_, zfar3 (by assumption) ?_, zfar3 (by assumption) ?_⟩ <;> (focus (omega; done))) | (go_keep; done)) (first | (go_at_call 24; (with_reducible refine ((TT _).out).mono ?_); have HH := ‹World.cell? _ ⟨w.heap.size, 0, none⟩ = some (.int .i64 A) ∧ _›; rintro e w4 ⟨rfl, hb4⟩; have z4 := hb4.size; (try simp only [World.size_alloc, World.size_setCell, World.size_drew, World.size_drewN'] at z4); (try (refine zcellAtQ hb4 (w3.heap.size) ?_ ?_; (focus (go_size; done)); intro kq zf zl; have z0 := kq 0; have z1 := kq 1; have z2 := kq 2; clear kq; (try simp [go_sem, *] at z0 z1 z2 zf))); have q0_ : w4.cell? ⟨w.heap.size, 0, none⟩ = some (.int .i64 A) := (hb4.cell (p := ⟨w.heap.size, 0, none⟩) (by go_size)).trans HH.1; have q1_ : w4.cell? ⟨w.heap.size, 1, none⟩ = some (.int .i64 B) := (hb4.cell (p := ⟨w.heap.size, 1, none⟩) (by go_size)).trans HH.2.1; have q2_ : w4.cell? ⟨wr.heap.size, 0, none⟩ = some (.int .i64 X) := (hb4.cell (p := ⟨wr.heap.size, 0, none⟩) (by go_size)).trans HH.2.2.1; have q3_ : w4.cell? ⟨wr.heap.size, 1, none⟩ = some (.int .i64 Y) := (hb4.cell (p := ⟨wr.heap.size, 1, none⟩) (by go_size)).trans HH.2.2.2.1; have q4_ : w4.cell? ⟨wr.heap.size, 2, none⟩ = some (.int .i64 E) := (hb4.cell (p := ⟨wr.heap.size, 2, none⟩) (by go_size)).trans HH.2.2.2.2.1; have q5_ : w4.cell? ⟨b2, off2 + k, none⟩ = some (.int .i64 N) := (hb4.cell (p := ⟨b2, off2 + k, none⟩) (by go_size)).trans HH.2.2.2.2.2))
        · have _t := trivial
          (try have HZ : w4.heap[w3.heap.size]? = some (.cells #[.int .i64 0, .int .i64 0, .int .i64 0] 28 (0, 0)) := (hb4.block w3.heap.size (by simp)).trans (heap_alloc_new w3 _))
          have HY := heap_alloc_new w4 (.cells #[.int .i64 q1, .int .i64 q2, .int .i64 q3] 28 (0, 0))
          have hb40 : Below w3.heap.size w3 w4 := by first | exact below_via hb4 ((Below.refl _ w3).drew) (Nat.le_refl _) | exact below_via hb4 (((Below.refl _ w3).alloc (Nat.le_refl _) _).drew) (by simp)
          clear hb4 q0_ q1_ q2_ q3_ q4_ q5_
          have hb4 := hb40
          clear hb40
          have H_C_4 := (hb4.block (w.heap.size) (blk_lt' H_C_3.out)).trans H_C_3.out
          clear k_C_3_0 k_C_3_1 f_C_3 H_C_3
          obtain ⟨k_C_4_0, k_C_4_1, f_C_4, l_C_4⟩ := bk2 H_C_4
          replace H_C_4 := Lib.hid H_C_4
          have H_O_4 := (hb4.block (w.heap.size + 1) (blk_lt' H_O_3.out)).trans H_O_3.out
          clear k_O_3_0 k_O_3_1 k_O_3_2 f_O_3 H_O_3
          obtain ⟨k_O_4_0, k_O_4_1, k_O_4_2, f_O_4, l_O_4⟩ := bk3 H_O_4
          replace H_O_4 := Lib.hid H_O_4
          have H_S_4 := (hb4.block (w2.heap.size) (blk_lt' H_S_3.out)).trans H_S_3.out
          clear k_S_3_0 k_S_3_1 k_S_3_2 f_S_3 H_S_3
          obtain ⟨k_S_4_0, k_S_4_1, k_S_4_2, f_S_4, l_S_4⟩ := bk3 H_S_4
          replace H_S_4 := Lib.hid H_S_4
          have H_P_4 := (hb4.block (wr.heap.size) (blk_lt' H_P_3.out)).trans H_P_3.out
          clear k_P_3_0 k_P_3_1 k_P_3_2 f_P_3 H_P_3
          obtain ⟨k_P_4_0, k_P_4_1, k_P_4_2, f_P_4, l_P_4⟩ := bk3 H_P_4
          replace H_P_4 := Lib.hid H_P_4
          have hB4 : Below w.heap.size w w4 := below_via hb4 (by assumption) (by go_size)
          go_upto_region 8 with fail
          replace H_C_4 := H_C_4.out
          replace H_O_4 := H_O_4.out
          replace H_S_4 := H_S_4.out
          replace H_P_4 := H_P_4.out
          refine chk (fun W => Below w.heap.size w W ∧ W.heap[w.heap.size]? = some (.cells #[.int .i64 A, .int .i64 B] 31 (0, 0)) ∧ W.heap[w.heap.size + 1]? = some (.cells #[.int .i64 0, .int .i64 0, .int .i64 0] 28 (0, 0)) ∧ W.heap[w2.heap.size]? = some (.cells #[.int .i64 a, .int .i64 b, .int .i64 c] 28 (0, 0)) ∧ W.heap[w4.heap.size]? = some (.cells #[.int .i64 q1, .int .i64 q2, .int .i64 q3] 28 (0, 0))) (by refine ⟨?_, ?_, ?_, ?_, ?_⟩ <;> (repeat' first | (with_reducible first | assumption | (apply Ne.symm; assumption) | apply Nat.le_refl | apply Nat.le_add_right | apply zL | apply zRf | apply Wx.box | apply Wx.box4 | apply zWa | apply Wx.drew | apply zWn | apply bx_drew | apply bx_drewN | apply bx_set3 | apply bx_set2 | apply bx_set4 | apply bx_set1) | ((with_reducible apply bx_new); (focus (go_size; done))) | (with_reducible first | apply zOl | apply zFa | apply zDn | apply zDr | apply zAl | apply zSt | refine zVi (by assumption) ?_ ?_) | go_size | omega)) ?_
          clear k_C_4_0 k_C_4_1 f_C_4 H_C_4
          clear k_O_4_0 k_O_4_1 k_O_4_2 f_O_4 H_O_4
          clear k_S_4_0 k_S_4_1 k_S_4_2 f_S_4 H_S_4
          clear k_P_4_0 k_P_4_1 k_P_4_2 f_P_4 H_P_4
          clear hB4
          rintro w5 ⟨hB5, H_C_5, H_O_5, H_S_5, H_Q_5⟩
          obtain ⟨k_C_5_0, k_C_5_1, f_C_5, l_C_5⟩ := bk2 H_C_5
          replace H_C_5 := Lib.hid H_C_5
          obtain ⟨k_O_5_0, k_O_5_1, k_O_5_2, f_O_5, l_O_5⟩ := bk3 H_O_5
          replace H_O_5 := Lib.hid H_O_5
          obtain ⟨k_S_5_0, k_S_5_1, k_S_5_2, f_S_5, l_S_5⟩ := bk3 H_S_5
          replace H_S_5 := Lib.hid H_S_5
          obtain ⟨k_Q_5_0, k_Q_5_1, k_Q_5_2, f_Q_5, l_Q_5⟩ := bk3 H_Q_5
          replace H_Q_5 := Lib.hid H_Q_5
          clear d0 hb23
          have hA := HAB.out.1
          have hB := HAB.out.2
          cases q4
          · have hz := HST.out
            rw [if_neg (by simp)] at hz
            have hR := cmS_out hz hlt
            rw [HR.out] at hR
            obtain ⟨rfl, rfl, rfl, rfl⟩ : r1 = 0 ∧ r2 = 0 ∧ r3 = 0 ∧ r4 = false := by simpa using hR
            go_upto_region 9 with fail
            iterate 40 (first | (with_reducible show bodyPost _ _ _ _ _ _) | (with_reducible refine wp_ret ?_) | go_values | go_skip | go_guarded | go_step | go_upon | go_back | skip)
            refine bodyPost_ret (v := .tuple #[.agg #[.int .i64 0, .int .i64 0, .int .i64 0], .bool false]) (by simp [results, Try.results7, go_sem, k_O_5_0, k_O_5_1, k_O_5_2]) rfl ⟨rfl, ?_⟩
            have HO := H_O_5.out
            (repeat' first | (with_reducible first | assumption | (apply Ne.symm; assumption) | apply Nat.le_refl | apply Nat.le_add_right | apply zL | apply zRf | apply Wx.box | apply Wx.box4 | apply zWa | apply Wx.drew | apply zWn | apply bx_drew | apply bx_drewN | apply bx_set3 | apply bx_set2 | apply bx_set4 | apply bx_set1) | ((with_reducible apply bx_new); (focus (go_size; done))) | (with_reducible first | apply zOl | apply zFa | apply zDn | apply zDr | apply zAl | apply zSt | refine zVi (by assumption) ?_ ?_) | go_size | omega)
          · have hz := HST.out
            rw [if_pos rfl] at hz
            have hpa : ptB A B a b c = true := by rcases HOK1.out with ⟨_, h⟩ | h; exact h; simp at h
            have hpq : ptB A B q1 q2 q3 = true := by rcases HOK2.out with ⟨_, h⟩ | h; exact h; simp at h
            have TA := fun W : World => ptAdd_any A B a b c q1 q2 q3 W hA hB hpa hpq
            obtain ⟨s1, s2, s3, s4, hs4⟩ := pt4 (ptS A a b c q1 q2 q3)
            rw [hs4] at hz
            simp only [hs4] at TA
            have HZ2 := Lib.hid hz
            clear hz hs4 hpa hpq
            go_upto_region 11 with (first | (have _t := tok6; go_at_call 25; (with_reducible refine ((TA _)).mono ?_); rintro e w6 ⟨rfl, hb6⟩; clear tok6 _t; have hz6 := hb6.size; (try simp only [World.size_alloc, World.size_setCell, World.size_drew, World.size_drewN'] at hz6)))
            have H_C_6 := (hb6.block (w.heap.size) (blk_lt' H_C_5.out)).trans H_C_5.out
            clear k_C_5_0 k_C_5_1 f_C_5 H_C_5
            obtain ⟨k_C_6_0, k_C_6_1, f_C_6, l_C_6⟩ := bk2 H_C_6
            replace H_C_6 := Lib.hid H_C_6
            have H_O_6 := (hb6.block (w.heap.size + 1) (blk_lt' H_O_5.out)).trans H_O_5.out
            clear k_O_5_0 k_O_5_1 k_O_5_2 f_O_5 H_O_5
            obtain ⟨k_O_6_0, k_O_6_1, k_O_6_2, f_O_6, l_O_6⟩ := bk3 H_O_6
            replace H_O_6 := Lib.hid H_O_6
            have H_S_6 := (hb6.block (w2.heap.size) (blk_lt' H_S_5.out)).trans H_S_5.out
            clear k_S_5_0 k_S_5_1 k_S_5_2 f_S_5 H_S_5
            obtain ⟨k_S_6_0, k_S_6_1, k_S_6_2, f_S_6, l_S_6⟩ := bk3 H_S_6
            replace H_S_6 := Lib.hid H_S_6
            have H_Q_6 := (hb6.block (w4.heap.size) (blk_lt' H_Q_5.out)).trans H_Q_5.out
            clear k_Q_5_0 k_Q_5_1 k_Q_5_2 f_Q_5 H_Q_5
            obtain ⟨k_Q_6_0, k_Q_6_1, k_Q_6_2, f_Q_6, l_Q_6⟩ := bk3 H_Q_6
            replace H_Q_6 := Lib.hid H_Q_6
            have hB6 : Below w.heap.size w w6 := below_via hb6 (by assumption) (by go_size)
            replace H_C_6 := H_C_6.out
            replace H_O_6 := H_O_6.out
            replace H_S_6 := H_S_6.out
            replace H_Q_6 := H_Q_6.out
            refine chk (fun W => Below w.heap.size w W ∧ W.heap[w.heap.size]? = some (.cells #[.int .i64 A, .int .i64 B] 31 (0, 0)) ∧ W.heap[w.heap.size + 1]? = some (.cells #[.int .i64 0, .int .i64 0, .int .i64 0] 28 (0, 0)) ∧ W.heap[w2.heap.size]? = some (.cells #[.int .i64 a, .int .i64 b, .int .i64 c] 28 (0, 0)) ∧ W.heap[w6.heap.size]? = some (.cells #[.int .i64 s1, .int .i64 s2, .int .i64 s3] 28 (0, 0))) (by refine ⟨?_, ?_, ?_, ?_, ?_⟩ <;> (repeat' first | (with_reducible first | assumption | (apply Ne.symm; assumption) | apply Nat.le_refl | apply Nat.le_add_right | apply zL | apply zRf | apply Wx.box | apply Wx.box4 | apply zWa | apply Wx.drew | apply zWn | apply bx_drew | apply bx_drewN | apply bx_set3 | apply bx_set2 | apply bx_set4 | apply bx_set1) | ((with_reducible apply bx_new); (focus (go_size; done))) | (with_reducible first | apply zOl | apply zFa | apply zDn | apply zDr | apply zAl | apply zSt | refine zVi (by assumption) ?_ ?_) | go_size | omega)) ?_
            clear k_C_6_0 k_C_6_1 f_C_6 H_C_6
            clear k_O_6_0 k_O_6_1 k_O_6_2 f_O_6 H_O_6
            clear k_S_6_0 k_S_6_1 k_S_6_2 f_S_6 H_S_6
            clear k_Q_6_0 k_Q_6_1 k_Q_6_2 f_Q_6 H_Q_6
            clear hB6
            rintro w7 ⟨hB7, H_C_7, H_O_7, H_S_7, H_T_7⟩
            obtain ⟨k_C_7_0, k_C_7_1, f_C_7, l_C_7⟩ := bk2 H_C_7
            replace H_C_7 := Lib.hid H_C_7
            obtain ⟨k_O_7_0, k_O_7_1, k_O_7_2, f_O_7, l_O_7⟩ := bk3 H_O_7
            replace H_O_7 := Lib.hid H_O_7
            obtain ⟨k_S_7_0, k_S_7_1, k_S_7_2, f_S_7, l_S_7⟩ := bk3 H_S_7
            replace H_S_7 := Lib.hid H_S_7
            obtain ⟨k_T_7_0, k_T_7_1, k_T_7_2, f_T_7, l_T_7⟩ := bk3 H_T_7
            replace H_T_7 := Lib.hid H_T_7
            cases s4
            · have hz := HZ2.out
              have hok := cmS_ok (ns := ns) hA hB HFT.out.1 (k + 1) (by omega)
              rw [hz] at hok
              have h0 : (s1, s2, s3, false) = ((0, 0, 0, false) : P4) := by
                rcases hok with ⟨h, _⟩ | h
                · cases h
                · exact h
              rw [h0] at hz
              have hR := cmS_out hz hlt
              rw [HR.out] at hR
              obtain ⟨rfl, rfl, rfl, rfl⟩ : r1 = 0 ∧ r2 = 0 ∧ r3 = 0 ∧ r4 = false := by simpa using hR
              go_upto_region 12 with fail
              iterate 40 (first | (with_reducible show bodyPost _ _ _ _ _ _) | (with_reducible refine wp_ret ?_) | go_values | go_skip | go_guarded | go_step | go_upon | go_back | skip)
              refine bodyPost_ret (v := .tuple #[.agg #[.int .i64 0, .int .i64 0, .int .i64 0], .bool false]) (by simp [results, Try.results7, go_sem, k_O_7_0, k_O_7_1, k_O_7_2]) rfl ⟨rfl, ?_⟩
              have HO := H_O_7.out
              (repeat' first | (with_reducible first | assumption | (apply Ne.symm; assumption) | apply Nat.le_refl | apply Nat.le_add_right | apply zL | apply zRf | apply Wx.box | apply Wx.box4 | apply zWa | apply Wx.drew | apply zWn | apply bx_drew | apply bx_drewN | apply bx_set3 | apply bx_set2 | apply bx_set4 | apply bx_set1) | ((with_reducible apply bx_new); (focus (go_size; done))) | (with_reducible first | apply zOl | apply zFa | apply zDn | apply zDr | apply zAl | apply zSt | refine zVi (by assumption) ?_ ?_) | go_size | omega)
            · have _t := trivial
              go_wp2_with fail
              go_roundw
              have q1 := H_C_7.out
              have q2 := H_O_7.out
              have q3 := H_S_7.out
              case rel => exact ⟨k + 1, s1, s2, s3, by go_num, by omega, HZ2.out, by (repeat' first | (with_reducible first | assumption | (apply Ne.symm; assumption) | apply Nat.le_refl | apply Nat.le_add_right | apply zL | apply zRf | apply Wx.box | apply Wx.box4 | apply zWa | apply Wx.drew | apply zWn | apply bx_drew | apply bx_drewN | apply bx_set3 | apply bx_set2 | apply bx_set4 | apply bx_set1) | ((with_reducible apply bx_new); (focus (go_size; done))) | (with_reducible first | apply zOl | apply zFa | apply zDn | apply zDr | apply zAl | apply zSt | refine zVi (by assumption) ?_ ?_) | go_size | omega), by (repeat' first | (with_reducible first | assumption | (apply Ne.symm; assumption) | apply Nat.le_refl | apply Nat.le_add_right | apply zL | apply zRf | apply Wx.box | apply Wx.box4 | apply zWa | apply Wx.drew | apply zWn | apply bx_drew | apply bx_drewN | apply bx_set3 | apply bx_set2 | apply bx_set4 | apply bx_set1) | ((with_reducible apply bx_new); (focus (go_size; done))) | (with_reducible first | apply zOl | apply zFa | apply zDn | apply zDr | apply zAl | apply zSt | refine zVi (by assumption) ?_ ?_) | go_size | omega), by (repeat' first | (with_reducible first | assumption | (apply Ne.symm; assumption) | apply Nat.le_refl | apply Nat.le_add_right | apply zL | apply zRf | apply Wx.box | apply Wx.box4 | apply zWa | apply Wx.drew | apply zWn | apply bx_drew | apply bx_drewN | apply bx_set3 | apply bx_set2 | apply bx_set4 | apply bx_set1) | ((with_reducible apply bx_new); (focus (go_size; done))) | (with_reducible first | apply zOl | apply zFa | apply zDn | apply zDr | apply zAl | apply zSt | refine zVi (by assumption) ?_ ?_) | go_size | omega), by (repeat' first | (with_reducible first | assumption | (apply Ne.symm; assumption) | apply Nat.le_refl | apply Nat.le_add_right | apply zL | apply zRf | apply Wx.box | apply Wx.box4 | apply zWa | apply Wx.drew | apply zWn | apply bx_drew | apply bx_drewN | apply bx_set3 | apply bx_set2 | apply bx_set4 | apply bx_set1) | ((with_reducible apply bx_new); (focus (go_size; done))) | (with_reducible first | apply zOl | apply zFa | apply zDn | apply zDr | apply zAl | apply zSt | refine zVi (by assumption) ?_ ?_) | go_size | omega)⟩
              case measure => simp [intOf]; omega
        · have _t := trivial
          (try have HZ : w4.heap[w3.heap.size]? = some (.cells #[.int .i64 0, .int .i64 0, .int .i64 0] 28 (0, 0)) := (hb4.block w3.heap.size (by simp)).trans (heap_alloc_new w3 _))
          have HY := heap_alloc_new w4 (.cells #[.int .i64 q1, .int .i64 q2, .int .i64 q3] 28 (0, 0))
          have hb40 : Below w3.heap.size w3 w4 := by first | exact below_via hb4 ((Below.refl _ w3).drew) (Nat.le_refl _) | exact below_via hb4 (((Below.refl _ w3).alloc (Nat.le_refl _) _).drew) (by simp)
          clear hb4 q0_ q1_ q2_ q3_ q4_ q5_
          have hb4 := hb40
          clear hb40
          have H_C_4 := (hb4.block (w.heap.size) (blk_lt' H_C_3.out)).trans H_C_3.out
          clear k_C_3_0 k_C_3_1 f_C_3 H_C_3
          obtain ⟨k_C_4_0, k_C_4_1, f_C_4, l_C_4⟩ := bk2 H_C_4
          replace H_C_4 := Lib.hid H_C_4
          have H_O_4 := (hb4.block (w.heap.size + 1) (blk_lt' H_O_3.out)).trans H_O_3.out
          clear k_O_3_0 k_O_3_1 k_O_3_2 f_O_3 H_O_3
          obtain ⟨k_O_4_0, k_O_4_1, k_O_4_2, f_O_4, l_O_4⟩ := bk3 H_O_4
          replace H_O_4 := Lib.hid H_O_4
          have H_S_4 := (hb4.block (w2.heap.size) (blk_lt' H_S_3.out)).trans H_S_3.out
          clear k_S_3_0 k_S_3_1 k_S_3_2 f_S_3 H_S_3
          obtain ⟨k_S_4_0, k_S_4_1, k_S_4_2, f_S_4, l_S_4⟩ := bk3 H_S_4
          replace H_S_4 := Lib.hid H_S_4
          have H_P_4 := (hb4.block (wr.heap.size) (blk_lt' H_P_3.out)).trans H_P_3.out
          clear k_P_3_0 k_P_3_1 k_P_3_2 f_P_3 H_P_3
          obtain ⟨k_P_4_0, k_P_4_1, k_P_4_2, f_P_4, l_P_4⟩ := bk3 H_P_4
          replace H_P_4 := Lib.hid H_P_4
          have hB4 : Below w.heap.size w w4 := below_via hb4 (by assumption) (by go_size)
          go_upto_region 8 with fail
          replace H_C_4 := H_C_4.out
          replace H_O_4 := H_O_4.out
          replace H_S_4 := H_S_4.out
          replace H_P_4 := H_P_4.out
          refine chk (fun W => Below w.heap.size w W ∧ W.heap[w.heap.size]? = some (.cells #[.int .i64 A, .int .i64 B] 31 (0, 0)) ∧ W.heap[w.heap.size + 1]? = some (.cells #[.int .i64 0, .int .i64 0, .int .i64 0] 28 (0, 0)) ∧ W.heap[w2.heap.size]? = some (.cells #[.int .i64 a, .int .i64 b, .int .i64 c] 28 (0, 0)) ∧ W.heap[w3.heap.size]? = some (.cells #[.int .i64 q1, .int .i64 q2, .int .i64 q3] 28 (0, 0))) (by refine ⟨?_, ?_, ?_, ?_, ?_⟩ <;> (repeat' first | (with_reducible first | assumption | (apply Ne.symm; assumption) | apply Nat.le_refl | apply Nat.le_add_right | apply zL | apply zRf | apply Wx.box | apply Wx.box4 | apply zWa | apply Wx.drew | apply zWn | apply bx_drew | apply bx_drewN | apply bx_set3 | apply bx_set2 | apply bx_set4 | apply bx_set1) | ((with_reducible apply bx_new); (focus (go_size; done))) | (with_reducible first | apply zOl | apply zFa | apply zDn | apply zDr | apply zAl | apply zSt | refine zVi (by assumption) ?_ ?_) | go_size | omega)) ?_
          clear k_C_4_0 k_C_4_1 f_C_4 H_C_4
          clear k_O_4_0 k_O_4_1 k_O_4_2 f_O_4 H_O_4
          clear k_S_4_0 k_S_4_1 k_S_4_2 f_S_4 H_S_4
          clear k_P_4_0 k_P_4_1 k_P_4_2 f_P_4 H_P_4
          clear hB4
          rintro w5 ⟨hB5, H_C_5, H_O_5, H_S_5, H_Q_5⟩
          obtain ⟨k_C_5_0, k_C_5_1, f_C_5, l_C_5⟩ := bk2 H_C_5
          replace H_C_5 := Lib.hid H_C_5
          obtain ⟨k_O_5_0, k_O_5_1, k_O_5_2, f_O_5, l_O_5⟩ := bk3 H_O_5
          replace H_O_5 := Lib.hid H_O_5
          obtain ⟨k_S_5_0, k_S_5_1, k_S_5_2, f_S_5, l_S_5⟩ := bk3 H_S_5
          replace H_S_5 := Lib.hid H_S_5
          obtain ⟨k_Q_5_0, k_Q_5_1, k_Q_5_2, f_Q_5, l_Q_5⟩ := bk3 H_Q_5
          replace H_Q_5 := Lib.hid H_Q_5
          clear d0 hb23
          have hA := HAB.out.1
          have hB := HAB.out.2
          cases q4
          · have hz := HST.out
            rw [if_neg (by simp)] at hz
            have hR := cmS_out hz hlt
            rw [HR.out] at hR
            obtain ⟨rfl, rfl, rfl, rfl⟩ : r1 = 0 ∧ r2 = 0 ∧ r3 = 0 ∧ r4 = false := by simpa using hR
            go_upto_region 9 with fail
            iterate 40 (first | (with_reducible show bodyPost _ _ _ _ _ _) | (with_reducible refine wp_ret ?_) | go_values | go_skip | go_guarded | go_step | go_upon | go_back | skip)
            refine bodyPost_ret (v := .tuple #[.agg #[.int .i64 0, .int .i64 0, .int .i64 0], .bool false]) (by simp [results, Try.results7, go_sem, k_O_5_0, k_O_5_1, k_O_5_2]) rfl ⟨rfl, ?_⟩
            have HO := H_O_5.out
            (repeat' first | (with_reducible first | assumption | (apply Ne.symm; assumption) | apply Nat.le_refl | apply Nat.le_add_right | apply zL | apply zRf | apply Wx.box | apply Wx.box4 | apply zWa | apply Wx.drew | apply zWn | apply bx_drew | apply bx_drewN | apply bx_set3 | apply bx_set2 | apply bx_set4 | apply bx_set1) | ((with_reducible apply bx_new); (focus (go_size; done))) | (with_reducible first | apply zOl | apply zFa | apply zDn | apply zDr | apply zAl | apply zSt | refine zVi (by assumption) ?_ ?_) | go_size | omega)
          · have hz := HST.out
            rw [if_pos rfl] at hz
            have hpa : ptB A B a b c = true := by rcases HOK1.out with ⟨_, h⟩ | h; exact h; simp at h
            have hpq : ptB A B q1 q2 q3 = true := by rcases HOK2.out with ⟨_, h⟩ | h; exact h; simp at h
            have TA := fun W : World => ptAdd_any A B a b c q1 q2 q3 W hA hB hpa hpq
            obtain ⟨s1, s2, s3, s4, hs4⟩ := pt4 (ptS A a b c q1 q2 q3)
            rw [hs4] at hz
            simp only [hs4] at TA
            have HZ2 := Lib.hid hz
            clear hz hs4 hpa hpq
            go_upto_region 11 with (first | (have _t := tok6; go_at_call 25; (with_reducible refine ((TA _)).mono ?_); rintro e w6 ⟨rfl, hb6⟩; clear tok6 _t; have hz6 := hb6.size; (try simp only [World.size_alloc, World.size_setCell, World.size_drew, World.size_drewN'] at hz6)))
            have H_C_6 := (hb6.block (w.heap.size) (blk_lt' H_C_5.out)).trans H_C_5.out
            clear k_C_5_0 k_C_5_1 f_C_5 H_C_5
            obtain ⟨k_C_6_0, k_C_6_1, f_C_6, l_C_6⟩ := bk2 H_C_6
            replace H_C_6 := Lib.hid H_C_6
            have H_O_6 := (hb6.block (w.heap.size + 1) (blk_lt' H_O_5.out)).trans H_O_5.out
            clear k_O_5_0 k_O_5_1 k_O_5_2 f_O_5 H_O_5
            obtain ⟨k_O_6_0, k_O_6_1, k_O_6_2, f_O_6, l_O_6⟩ := bk3 H_O_6
            replace H_O_6 := Lib.hid H_O_6
            have H_S_6 := (hb6.block (w2.heap.size) (blk_lt' H_S_5.out)).trans H_S_5.out
            clear k_S_5_0 k_S_5_1 k_S_5_2 f_S_5 H_S_5
            obtain ⟨k_S_6_0, k_S_6_1, k_S_6_2, f_S_6, l_S_6⟩ := bk3 H_S_6
            replace H_S_6 := Lib.hid H_S_6
            have H_Q_6 := (hb6.block (w3.heap.size) (blk_lt' H_Q_5.out)).trans H_Q_5.out
            clear k_Q_5_0 k_Q_5_1 k_Q_5_2 f_Q_5 H_Q_5
            obtain ⟨k_Q_6_0, k_Q_6_1, k_Q_6_2, f_Q_6, l_Q_6⟩ := bk3 H_Q_6
            replace H_Q_6 := Lib.hid H_Q_6
            have hB6 : Below w.heap.size w w6 := below_via hb6 (by assumption) (by go_size)
            replace H_C_6 := H_C_6.out
            replace H_O_6 := H_O_6.out
            replace H_S_6 := H_S_6.out
            replace H_Q_6 := H_Q_6.out
            refine chk (fun W => Below w.heap.size w W ∧ W.heap[w.heap.size]? = some (.cells #[.int .i64 A, .int .i64 B] 31 (0, 0)) ∧ W.heap[w.heap.size + 1]? = some (.cells #[.int .i64 0, .int .i64 0, .int .i64 0] 28 (0, 0)) ∧ W.heap[w2.heap.size]? = some (.cells #[.int .i64 a, .int .i64 b, .int .i64 c] 28 (0, 0)) ∧ W.heap[w6.heap.size]? = some (.cells #[.int .i64 s1, .int .i64 s2, .int .i64 s3] 28 (0, 0))) (by refine ⟨?_, ?_, ?_, ?_, ?_⟩ <;> (repeat' first | (with_reducible first | assumption | (apply Ne.symm; assumption) | apply Nat.le_refl | apply Nat.le_add_right | apply zL | apply zRf | apply Wx.box | apply Wx.box4 | apply zWa | apply Wx.drew | apply zWn | apply bx_drew | apply bx_drewN | apply bx_set3 | apply bx_set2 | apply bx_set4 | apply bx_set1) | ((with_reducible apply bx_new); (focus (go_size; done))) | (with_reducible first | apply zOl | apply zFa | apply zDn | apply zDr | apply zAl | apply zSt | refine zVi (by assumption) ?_ ?_) | go_size | omega)) ?_
            clear k_C_6_0 k_C_6_1 f_C_6 H_C_6
            clear k_O_6_0 k_O_6_1 k_O_6_2 f_O_6 H_O_6
            clear k_S_6_0 k_S_6_1 k_S_6_2 f_S_6 H_S_6
            clear k_Q_6_0 k_Q_6_1 k_Q_6_2 f_Q_6 H_Q_6
            clear hB6
            rintro w7 ⟨hB7, H_C_7, H_O_7, H_S_7, H_T_7⟩
            obtain ⟨k_C_7_0, k_C_7_1, f_C_7, l_C_7⟩ := bk2 H_C_7
            replace H_C_7 := Lib.hid H_C_7
            obtain ⟨k_O_7_0, k_O_7_1, k_O_7_2, f_O_7, l_O_7⟩ := bk3 H_O_7
            replace H_O_7 := Lib.hid H_O_7
            obtain ⟨k_S_7_0, k_S_7_1, k_S_7_2, f_S_7, l_S_7⟩ := bk3 H_S_7
            replace H_S_7 := Lib.hid H_S_7
            obtain ⟨k_T_7_0, k_T_7_1, k_T_7_2, f_T_7, l_T_7⟩ := bk3 H_T_7
            replace H_T_7 := Lib.hid H_T_7
            cases s4
            · have hz := HZ2.out
              have hok := cmS_ok (ns := ns) hA hB HFT.out.1 (k + 1) (by omega)
              rw [hz] at hok
              have h0 : (s1, s2, s3, false) = ((0, 0, 0, false) : P4) := by
                rcases hok with ⟨h, _⟩ | h
                · cases h
                · exact h
              rw [h0] at hz
              have hR := cmS_out hz hlt
              rw [HR.out] at hR
              obtain ⟨rfl, rfl, rfl, rfl⟩ : r1 = 0 ∧ r2 = 0 ∧ r3 = 0 ∧ r4 = false := by simpa using hR
              go_upto_region 12 with fail
              iterate 40 (first | (with_reducible show bodyPost _ _ _ _ _ _) | (with_reducible refine wp_ret ?_) | go_values | go_skip | go_guarded | go_step | go_upon | go_back | skip)
              refine bodyPost_ret (v := .tuple #[.agg #[.int .i64 0, .int .i64 0, .int .i64 0], .bool false]) (by simp [results, Try.results7, go_sem, k_O_7_0, k_O_7_1, k_O_7_2]) rfl ⟨rfl, ?_⟩
              have HO := H_O_7.out
              (repeat' first | (with_reducible first | assumption | (apply Ne.symm; assumption) | apply Nat.le_refl | apply Nat.le_add_right | apply zL | apply zRf | apply Wx.box | apply Wx.box4 | apply zWa | apply Wx.drew | apply zWn | apply bx_drew | apply bx_drewN | apply bx_set3 | apply bx_set2 | apply bx_set4 | apply bx_set1) | ((with_reducible apply bx_new); (focus (go_size; done))) | (with_reducible first | apply zOl | apply zFa | apply zDn | apply zDr | apply zAl | apply zSt | refine zVi (by assumption) ?_ ?_) | go_size | omega)
            · have _t := trivial
              go_wp2_with fail
              go_roundw
              have q1 := H_C_7.out
              have q2 := H_O_7.out
              have q3 := H_S_7.out
              case rel => exact ⟨k + 1, s1, s2, s3, by go_num, by omega, HZ2.out, by (repeat' first | (with_reducible first | assumption | (apply Ne.symm; assumption) | apply Nat.le_refl | apply Nat.le_add_right | apply zL | apply zRf | apply Wx.box | apply Wx.box4 | apply zWa | apply Wx.drew | apply zWn | apply bx_drew | apply bx_drewN | apply bx_set3 | apply bx_set2 | apply bx_set4 | apply bx_set1) | ((with_reducible apply bx_new); (focus (go_size; done))) | (with_reducible first | apply zOl | apply zFa | apply zDn | apply zDr | apply zAl | apply zSt | refine zVi (by assumption) ?_ ?_) | go_size | omega), by (repeat' first | (with_reducible first | assumption | (apply Ne.symm; assumption) | apply Nat.le_refl | apply Nat.le_add_right | apply zL | apply zRf | apply Wx.box | apply Wx.box4 | apply zWa | apply Wx.drew | apply zWn | apply bx_drew | apply bx_drewN | apply bx_set3 | apply bx_set2 | apply bx_set4 | apply bx_set1) | ((with_reducible apply bx_new); (focus (go_size; done))) | (with_reducible first | apply zOl | apply zFa | apply zDn | apply zDr | apply zAl | apply zSt | refine zVi (by assumption) ?_ ?_) | go_size | omega), by (repeat' first | (with_reducible first | assumption | (apply Ne.symm; assumption) | apply Nat.le_refl | apply Nat.le_add_right | apply zL | apply zRf | apply Wx.box | apply Wx.box4 | apply zWa | apply Wx.drew | apply zWn | apply bx_drew | apply bx_drewN | apply bx_set3 | apply bx_set2 | apply bx_set4 | apply bx_set1) | ((with_reducible apply bx_new); (focus (go_size; done))) | (with_reducible first | apply zOl | apply zFa | apply zDn | apply zDr | apply zAl | apply zSt | refine zVi (by assumption) ?_ ?_) | go_size | omega), by (repeat' first | (with_reducible first | assumption | (apply Ne.symm; assumption) | apply Nat.le_refl | apply Nat.le_add_right | apply zL | apply zRf | apply Wx.box | apply Wx.box4 | apply zWa | apply Wx.drew | apply zWn | apply bx_drew | apply bx_drewN | apply bx_set3 | apply bx_set2 | apply bx_set4 | apply bx_set1) | ((with_reducible apply bx_new); (focus (go_size; done))) | (with_reducible first | apply zOl | apply zFa | apply zDn | apply zDr | apply zAl | apply zSt | refine zVi (by assumption) ?_ ?_) | go_size | omega)⟩
              case measure => simp [intOf]; omega
      · obtain rfl : k = m := by omega
        have hR := HR.out
        rw [HM.out] at hR
        obtain ⟨rfl, rfl, rfl, rfl⟩ : a = r1 ∧ b = r2 ∧ c = r3 ∧ true = r4 := by simpa using hR
        go_upto_region 15 with fail
        replace H_C_2 := H_C_2.out
        replace H_O_2 := H_O_2.out
        refine chk (fun W => Below w.heap.size w W ∧ W.heap[w.heap.size + 1]? = some (.cells #[.int .i64 0, .int .i64 0, .int .i64 0] 28 (0, 0)) ∧ W.heap[w2.heap.size]? = some (.cells #[.int .i64 a, .int .i64 b, .int .i64 c] 28 (0, 0))) (by refine ⟨?_, ?_, ?_⟩ <;> (repeat' first | (with_reducible first | assumption | (apply Ne.symm; assumption) | apply Nat.le_refl | apply Nat.le_add_right | apply zL | apply zRf | apply Wx.box | apply Wx.box4 | apply zWa | apply Wx.drew | apply zWn | apply bx_drew | apply bx_drewN | apply bx_set3 | apply bx_set2 | apply bx_set4 | apply bx_set1) | ((with_reducible apply bx_new); (focus (go_size; done))) | (with_reducible first | apply zOl | apply zFa | apply zDn | apply zDr | apply zAl | apply zSt | refine zVi (by assumption) ?_ ?_) | go_size | omega)) ?_
        clear k_C_2_0 k_C_2_1 f_C_2 H_C_2
        clear k_O_2_0 k_O_2_1 k_O_2_2 f_O_2 H_O_2
        clear hB2
        rintro w1 ⟨hB1, H_O_1, H_S_1⟩
        obtain ⟨k_O_1_0, k_O_1_1, k_O_1_2, f_O_1, l_O_1⟩ := bk3 H_O_1
        replace H_O_1 := Lib.hid H_O_1
        obtain ⟨k_S_1_0, k_S_1_1, k_S_1_2, f_S_1, l_S_1⟩ := bk3 H_S_1
        replace H_S_1 := Lib.hid H_S_1
        iterate 40 (first | (with_reducible show bodyPost _ _ _ _ _ _) | (with_reducible refine wp_ret ?_) | go_values | go_skip | go_guarded | go_step | go_upon | go_back | skip)
        refine bodyPost_ret (v := .tuple #[.agg #[.int .i64 a, .int .i64 b, .int .i64 c], .bool true]) (by simp [results, Try.results7, go_sem, k_O_1_0, k_O_1_1, k_O_1_2]) rfl ⟨rfl, ?_⟩
        have HO := H_O_1.out
        (repeat' first | (with_reducible first | assumption | (apply Ne.symm; assumption) | apply Nat.le_refl | apply Nat.le_add_right | apply zL | apply zRf | apply Wx.box | apply Wx.box4 | apply zWa | apply Wx.drew | apply zWn | apply bx_drew | apply bx_drewN | apply bx_set3 | apply bx_set2 | apply bx_set4 | apply bx_set1) | ((with_reducible apply bx_new); (focus (go_size; done))) | (with_reducible first | apply zOl | apply zFa | apply zDn | apply zDr | apply zAl | apply zSt | refine zVi (by assumption) ?_ ?_) | go_size | omega)
end Go.Proofs.Ytgjppinjapdbeaa
