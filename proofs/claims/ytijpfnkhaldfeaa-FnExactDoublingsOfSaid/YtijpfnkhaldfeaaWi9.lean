/- The doubled ratio: the program. -/
import Derived.Test.YtijpfnkhaldfeaaXd5
import Derived.Test.YtijpfnkhaldfeaaWi7
namespace Go.Proofs.Ytijpfnkhaldfeaa
open Go.RowKit
set_option linter.unusedVariables false
set_option maxHeartbeats 1000000
set_option maxRecDepth 20000
set_option linter.unusedSimpArgs false
attribute [local go_sem] openAt openUpon
theorem sg_div {d s : Int} (hd : 1 ≤ d) (h : d ∣ s) : (s / d < 0 ↔ s < 0) := by
  obtain ⟨q, rfl⟩ := h
  rw [Int.mul_ediv_cancel_left _ (by omega)]
  constructor
  · intro hq
    exact Int.mul_neg_of_pos_of_neg (by omega) hq
  · intro hq
    rcases Int.lt_or_le q 0 with h' | h'
    · exact h'
    · have := Int.mul_nonneg (show 0 ≤ d by omega) h'; omega
theorem doubleX_any (A B x z : Int) (b b2 : Bool) (a a2 : Option Addr) (n c n2 c2 : Nat) (w : World) (hA : -1000 ≤ A ∧ A ≤ 1000) (hBB : -10000 ≤ B ∧ B ≤ 10000) (hcv : coV A B ≠ 0) (hx : Wx w b a n c x) (hz : Wx w b2 a2 n2 c2 z) (lx : ln x ≤ 80) (lz : ln z ≤ 80) :
    Calls Try.prog 38 #[.agg #[.int .i64 A, .int .i64 B], .agg #[.bool b, .slice a n c, .bool b2, .slice a2 n2 c2]] w (NewRR w (dbl (4 * absI (coV A B)) A B x z).1 (dbl (4 * absI (coV A B)) A B x z).2.1 (dbl (4 * absI (coV A B)) A B x z).2.2) := by
  obtain ⟨t, ht0⟩ : ∃ v, topZ A B x z = v := ⟨_, rfl⟩
  obtain ⟨s, hs0⟩ : ∃ v, botZ A B x z = v := ⟨_, rfl⟩
  obtain ⟨d, hd0⟩ : ∃ v, dvZ (4 * absI (coV A B)) t s = v := ⟨_, rfl⟩
  have TT : ∀ W, Wx W b a n c x → Wx W b2 a2 n2 c2 z → Calls Try.prog 54 #[.agg #[.int .i64 A, .int .i64 B], .agg #[.bool b, .slice a n c, .bool b2, .slice a2 n2 c2]] W (NewW W t) := fun W h1 h2 => numeratorOf_eq hA hBB h1 h2 lx lz ht0
  have TS : ∀ W, Wx W b a n c x → Wx W b2 a2 n2 c2 z → Calls Try.prog 51 #[.agg #[.int .i64 A, .int .i64 B], .agg #[.bool b, .slice a n c, .bool b2, .slice a2 n2 c2]] W (NewW W s) := fun W h1 h2 => denominatorOf_eq hA hBB h1 h2 lx lz hs0
  have TV : ∀ W, Wx W b a n c x → Wx W b2 a2 n2 c2 z → Calls Try.prog 52 #[.agg #[.int .i64 A, .int .i64 B], .agg #[.bool b, .slice a n c, .bool b2, .slice a2 n2 c2]] W fun e w' => e = .returned (.int .i64 d) ∧ Below W.heap.size W w' := fun W h1 h2 => divisorTaken_eq hA hBB hcv h1 h2 lx lz ht0 hs0 hd0
  have hlt : ln t ≤ 8000 := by rw [← ht0]; exact top_ln hA hBB lx lz
  have hls : ln s ≤ 8000 := by rw [← hs0]; exact bot_ln hA hBB lx lz
  have hN : 1 ≤ 4 * absI (coV A B) := by unfold absI; omega
  have hd1 := dv_pos (n := 4 * absI (coV A B)) (t := t) (b := s) (by omega)
  have hd2 := dv_le (n := 4 * absI (coV A B)) (t := t) (b := s) (by omega)
  have hcb := coV_bd hA hBB
  have hab : absI (coV A B) ≤ 6700000000 := by unfold absI; omega
  have hsg := sg_div (d := d) (s := s) (by omega) (by rw [← hd0]; exact dv_bot _ _ _)
  obtain ⟨p, hp⟩ : ∃ v, t / d = v := ⟨_, rfl⟩
  obtain ⟨q, hq⟩ : ∃ v, s / d = v := ⟨_, rfl⟩
  have lnp : ln p ≤ 8000 := by rw [← hp]; exact Nat.le_trans (ln_div (by omega) (by rw [← hd0]; exact dv_top _ _ _)) hlt
  have lnq : ln q ≤ 8000 := by rw [← hq]; exact Nat.le_trans (ln_div (by omega) (by rw [← hd0]; exact dv_bot _ _ _)) hls
  have TO1 : ∀ W (b : Bool) (a : Option Addr) (n c : Nat), Wx W b a n c t → Calls Try.prog 53 #[.agg #[.bool b, .slice a n c], .int .i64 d] W (NewQp W p) := fun W b a n c h1 => (divWhole_any h1 (by omega) (by omega) (by omega)).mono fun e w' h => h.qp hp
  have TO2 : ∀ W (b : Bool) (a : Option Addr) (n c : Nat), Wx W b a n c s → Calls Try.prog 53 #[.agg #[.bool b, .slice a n c], .int .i64 d] W (NewQp W q) := fun W b a n c h1 => (divWhole_any h1 (by omega) (by omega) (by omega)).mono fun e w' h => h.qp hq
  have hD : (s = 0 ∧ dbl (4 * absI (coV A B)) A B x z = (0, 0, false)) ∨ (s ≠ 0 ∧ (raB (sgZ s p) (sgZ s q) = true ∧ dbl (4 * absI (coV A B)) A B x z = (sgZ s p, sgZ s q, true) ∨ raB (sgZ s p) (sgZ s q) = false ∧ dbl (4 * absI (coV A B)) A B x z = (0, 0, false))) := by
    have e1 : dbN (4 * absI (coV A B)) t s = sgZ s p := by unfold dbN; rw [hd0, hp]
    have e2 : dbD (4 * absI (coV A B)) t s = sgZ s q := by unfold dbD; rw [hd0, hq]
    unfold dbl
    rw [ht0, hs0, e1, e2]
    by_cases h : s = 0
    · left; exact ⟨h, by rw [if_pos h]⟩
    · right
      refine ⟨h, ?_⟩
      rw [if_neg h]
      cases hr : raB (sgZ s p) (sgZ s q)
      · right; exact ⟨rfl, by simp⟩
      · left; exact ⟨rfl, by simp⟩
  rw [hq] at hsg
  generalize dbl (4 * absI (coV A B)) A B x z = DB at *
  clear ht0 hs0 hd0 hp hq hd1 hd2 hcb hab hN hcv
  have HD := Lib.hid hD
  clear hD
  have tok1 : True := trivial
  have tok2 : True := trivial
  have tok3 : True := trivial
  have tok4 : True := trivial
  have tok5 : True := trivial
  have tok6 : True := trivial
  have tok7 : True := trivial
  have tok8 : True := trivial
  have tok9 : True := trivial
  have tok10 : True := trivial
  have tok11 : True := trivial
  have tok12 : True := trivial
  have tok13 : True := trivial
  have tok14 : True := trivial
  have tok15 : True := trivial
  have tok16 : True := trivial
  have tok17 : True := trivial
  have tok18 : True := trivial
  have tok19 : True := trivial
  have tok20 : True := trivial
  have tok21 : True := trivial
  have tok22 : True := trivial
  have tok23 : True := trivial
  have tok24 : True := trivial
  go_enter Try.func38, Try.ntmps38
  go_upto_region 1 with (fail)
  refine chk (fun W => Below w.heap.size w W ∧ W.heap[w.heap.size]? = some (.cells #[.int .i64 A, .int .i64 B] 33 (0, 0)) ∧ W.heap[w.heap.size + 1]? = some (.cells #[.bool b, .slice a n c, .bool b2, .slice a2 n2 c2] 37 (0, 0)) ∧ W.heap[w.heap.size + 1 + 1]? = some (.cells #[.bool false, .slice none 0 0, .bool false, .slice none 0 0] 37 (0, 0)) ∧ Wx W b a n c x ∧ Wx W b2 a2 n2 c2 z) (by refine ⟨?_, ?_, ?_, ?_, ?_, ?_⟩ <;> (repeat' first | (with_reducible first | assumption | (apply Ne.symm; assumption) | apply Nat.le_refl | apply Nat.le_add_right | apply zL | apply zRf | apply Wx.box | apply Wx.box4 | apply zWa | apply Wx.drew | apply zWn | apply bx_drew | apply bx_drewN | apply bx_set3 | apply bx_set2 | apply bx_set4 | apply bx_set1) | ((with_reducible apply bx_new); (focus (go_size; done))) | (with_reducible first | apply zOl | apply zFa | apply zDn | apply zDr | apply zAl | apply zSt | refine zVi (by assumption) ?_ ?_) | go_size | omega)) ?_
  try clear hx
  try clear hz
  rintro w1 ⟨hB1, H_C_1, H_R_1, H_O_1, hx', hz'⟩
  obtain ⟨k_C_1_0, k_C_1_1, f_C_1, l_C_1⟩ := bk2 H_C_1
  replace H_C_1 := Lib.hid H_C_1
  obtain ⟨k_R_1_0, k_R_1_1, k_R_1_2, k_R_1_3, f_R_1, l_R_1⟩ := bk4 H_R_1
  replace H_R_1 := Lib.hid H_R_1
  obtain ⟨k_O_1_0, k_O_1_1, k_O_1_2, k_O_1_3, f_O_1, l_O_1⟩ := bk4 H_O_1
  replace H_O_1 := Lib.hid H_O_1
  have hx := hx'
  clear hx'
  have hz := hz'
  clear hz'
  go_upto_region 2 with (first | (have _t := tok2; go_at_call 51; (with_reducible refine ((TS _ (hx.below (by repeat' first | (with_reducible first | apply zRf | assumption | apply zDn | apply zDr | apply zAl | apply zSt | refine zVi (by assumption) ?_ ?_) | go_size)) (hz.below (by repeat' first | (with_reducible first | apply zRf | assumption | apply zDn | apply zDr | apply zAl | apply zSt | refine zVi (by assumption) ?_ ?_) | go_size)))).mono ?_); rintro e w2 ⟨b3, a3, n3, c3, rfl, hs3, f3, hb2⟩; clear tok2 _t; have hz2 := hb2.size; (try simp only [World.size_alloc, World.size_setCell, World.size_drew, World.size_drewN'] at hz2); (try (have kq := cellAt hb2 (w.heap.size) (by go_size); have k2_w_0_0 := kq 0; have k2_w_0_1 := kq 1; clear kq; have f2_w_0 := frozAt hb2 (w.heap.size) (by go_size); simp [go_sem, *] at k2_w_0_0 k2_w_0_1 f2_w_0)); (try have l2_w_0 : w.heap.size < w2.heap.size := by omega); (try (have kq := cellAt hb2 (w.heap.size + 1) (by go_size); have k2_w_1_0 := kq 0; have k2_w_1_1 := kq 1; have k2_w_1_2 := kq 2; have k2_w_1_3 := kq 3; clear kq; have f2_w_1 := frozAt hb2 (w.heap.size + 1) (by go_size); simp [go_sem, *] at k2_w_1_0 k2_w_1_1 k2_w_1_2 k2_w_1_3 f2_w_1)); (try have l2_w_1 : w.heap.size + 1 < w2.heap.size := by omega); (try (have kq := cellAt hb2 (w.heap.size + 1 + 1) (by go_size); have k2_w_2_0 := kq 0; have k2_w_2_1 := kq 1; have k2_w_2_2 := kq 2; have k2_w_2_3 := kq 3; clear kq; have f2_w_2 := frozAt hb2 (w.heap.size + 1 + 1) (by go_size); simp [go_sem, *] at k2_w_2_0 k2_w_2_1 k2_w_2_2 k2_w_2_3 f2_w_2)); (try have l2_w_2 : w.heap.size + 1 + 1 < w2.heap.size := by omega); (try clear k1_w_0_0 k1_w_0_1 f1_w_0); (try clear l1_w_0); (try clear k1_w_1_0 k1_w_1_1 k1_w_1_2 k1_w_1_3 f1_w_1); (try clear l1_w_1); (try clear k1_w_2_0 k1_w_2_1 k1_w_2_2 k1_w_2_3 f1_w_2); (try clear l1_w_2)))
  have H_C_2 := (hb2.block (w.heap.size) (blk_lt' H_C_1.out)).trans H_C_1.out
  clear k_C_1_0 k_C_1_1 f_C_1 H_C_1
  obtain ⟨k_C_2_0, k_C_2_1, f_C_2, l_C_2⟩ := bk2 H_C_2
  replace H_C_2 := Lib.hid H_C_2
  have H_R_2 := (hb2.block (w.heap.size + 1) (blk_lt' H_R_1.out)).trans H_R_1.out
  clear k_R_1_0 k_R_1_1 k_R_1_2 k_R_1_3 f_R_1 H_R_1
  obtain ⟨k_R_2_0, k_R_2_1, k_R_2_2, k_R_2_3, f_R_2, l_R_2⟩ := bk4 H_R_2
  replace H_R_2 := Lib.hid H_R_2
  have H_O_2 := (hb2.block (w.heap.size + 1 + 1) (blk_lt' H_O_1.out)).trans H_O_1.out
  clear k_O_1_0 k_O_1_1 k_O_1_2 k_O_1_3 f_O_1 H_O_1
  obtain ⟨k_O_2_0, k_O_2_1, k_O_2_2, k_O_2_3, f_O_2, l_O_2⟩ := bk4 H_O_2
  replace H_O_2 := Lib.hid H_O_2
  replace hx := hx.below hb2
  replace hz := hz.below hb2
  have hB2 : Below w.heap.size w w2 := below_via hb2 (by assumption) (by first | exact hB1.size | go_size)
  replace H_C_2 := H_C_2.out
  replace H_R_2 := H_R_2.out
  replace H_O_2 := H_O_2.out
  refine chk (fun W => Below w.heap.size w W ∧ W.heap[w.heap.size]? = some (.cells #[.int .i64 A, .int .i64 B] 33 (0, 0)) ∧ W.heap[w.heap.size + 1]? = some (.cells #[.bool b, .slice a n c, .bool b2, .slice a2 n2 c2] 37 (0, 0)) ∧ W.heap[w.heap.size + 1 + 1]? = some (.cells #[.bool false, .slice none 0 0, .bool false, .slice none 0 0] 37 (0, 0)) ∧ W.heap[w2.heap.size]? = some (.cells #[.bool b3, .slice a3 n3 c3] 35 (0, 0)) ∧ Wx W b a n c x ∧ Wx W b2 a2 n2 c2 z ∧ Wx W b3 a3 n3 c3 s) (by refine ⟨?_, ?_, ?_, ?_, ?_, ?_, ?_, ?_⟩ <;> (repeat' first | (with_reducible first | assumption | (apply Ne.symm; assumption) | apply Nat.le_refl | apply Nat.le_add_right | apply zL | apply zRf | apply Wx.box | apply Wx.box4 | apply zWa | apply Wx.drew | apply zWn | apply bx_drew | apply bx_drewN | apply bx_set3 | apply bx_set2 | apply bx_set4 | apply bx_set1) | ((with_reducible apply bx_new); (focus (go_size; done))) | (with_reducible first | apply zOl | apply zFa | apply zDn | apply zDr | apply zAl | apply zSt | refine zVi (by assumption) ?_ ?_) | go_size | omega)) ?_
  try clear hx
  try clear hz
  try clear hs3
  clear k_C_2_0 k_C_2_1 f_C_2 H_C_2
  clear k_R_2_0 k_R_2_1 k_R_2_2 k_R_2_3 f_R_2 H_R_2
  clear k_O_2_0 k_O_2_1 k_O_2_2 k_O_2_3 f_O_2 H_O_2
  clear hB2
  rintro w3 ⟨hB3, H_C_3, H_R_3, H_O_3, H_G_3, hx', hz', hs3'⟩
  obtain ⟨k_C_3_0, k_C_3_1, f_C_3, l_C_3⟩ := bk2 H_C_3
  replace H_C_3 := Lib.hid H_C_3
  obtain ⟨k_R_3_0, k_R_3_1, k_R_3_2, k_R_3_3, f_R_3, l_R_3⟩ := bk4 H_R_3
  replace H_R_3 := Lib.hid H_R_3
  obtain ⟨k_O_3_0, k_O_3_1, k_O_3_2, k_O_3_3, f_O_3, l_O_3⟩ := bk4 H_O_3
  replace H_O_3 := Lib.hid H_O_3
  obtain ⟨k_G_3_0, k_G_3_1, f_G_3, l_G_3⟩ := bk2 H_G_3
  replace H_G_3 := Lib.hid H_G_3
  have hx := hx'
  clear hx'
  have hz := hz'
  clear hz'
  have hs3 := hs3'
  clear hs3'
  have hn3b : n3 ≤ 8000 := by rw [hs3.ln]; exact hls
  rcases HD.out with ⟨h0, hd⟩ | ⟨h0, hd⟩
  · subst hd
    have hn3 : n3 = 0 := by rw [hs3.ln]; exact ln_zero.2 h0
    have hn3' : ((n3 : Int) == 0) = true := by simp; omega
    clear HD h0 hn3 TT TS TV TO1 TO2
    go_upto_region 3 with (fail)
    replace H_C_3 := H_C_3.out
    replace H_R_3 := H_R_3.out
    replace H_O_3 := H_O_3.out
    replace H_G_3 := H_G_3.out
    refine chk (fun W => Below w.heap.size w W ∧ W.heap[w.heap.size + 1 + 1]? = some (.cells #[.bool false, .slice none 0 0, .bool false, .slice none 0 0] 37 (0, 0))) (by refine ⟨?_, ?_⟩ <;> (repeat' first | (with_reducible first | assumption | (apply Ne.symm; assumption) | apply Nat.le_refl | apply Nat.le_add_right | apply zL | apply zRf | apply Wx.box | apply Wx.box4 | apply zWa | apply Wx.drew | apply zWn | apply bx_drew | apply bx_drewN | apply bx_set3 | apply bx_set2 | apply bx_set4 | apply bx_set1) | ((with_reducible apply bx_new); (focus (go_size; done))) | (with_reducible first | apply zOl | apply zFa | apply zDn | apply zDr | apply zAl | apply zSt | refine zVi (by assumption) ?_ ?_) | go_size | omega)) ?_
    clear k_C_3_0 k_C_3_1 f_C_3 H_C_3
    clear k_R_3_0 k_R_3_1 k_R_3_2 k_R_3_3 f_R_3 H_R_3
    clear k_O_3_0 k_O_3_1 k_O_3_2 k_O_3_3 f_O_3 H_O_3
    clear k_G_3_0 k_G_3_1 f_G_3 H_G_3
    clear hB3
    rintro w4 ⟨hB4, H_O_4⟩
    obtain ⟨k_O_4_0, k_O_4_1, k_O_4_2, k_O_4_3, f_O_4, l_O_4⟩ := bk4 H_O_4
    replace H_O_4 := Lib.hid H_O_4
    iterate 24 (first | (with_reducible show bodyPost _ _ _ _ _ _) | (with_reducible refine wp_ret ?_) | go_values | go_skip | go_guarded | go_step | go_upon | go_back | skip)
    refine bodyPost_ret (v := .tuple #[.agg #[.bool false, .slice none 0 0, .bool false, .slice none 0 0], .bool false]) (by simp [results, Try.results38, go_sem, k_O_4_0, k_O_4_1, k_O_4_2, k_O_4_3]) rfl ⟨_, _, _, _, _, _, _, _, rfl, Wx.zero' _, Wx.zero' _, fr_none _, fr_none _, ?_⟩
    have HO := H_O_4.out
    (repeat' first | (with_reducible first | assumption | (apply Ne.symm; assumption) | apply Nat.le_refl | apply Nat.le_add_right | apply zL | apply zRf | apply Wx.box | apply Wx.box4 | apply zWa | apply Wx.drew | apply zWn | apply bx_drew | apply bx_drewN | apply bx_set3 | apply bx_set2 | apply bx_set4 | apply bx_set1) | ((with_reducible apply bx_new); (focus (go_size; done))) | (with_reducible first | apply zOl | apply zFa | apply zDn | apply zDr | apply zAl | apply zSt | refine zVi (by assumption) ?_ ?_) | go_size | omega)
  · have hn3 : n3 ≠ 0 := by rw [hs3.ln]; exact fun e => h0 (ln_zero.1 e)
    have hn3' : ((n3 : Int) == 0) = false := by simp; omega
    have HR := Lib.hid hd
    clear HD hd hn3
    go_upto_region 4 with (fail)
    go_upto_region 5 with (first | (have _t := tok4; go_at_call 52; (with_reducible refine ((TV _ (hx.below (by repeat' first | (with_reducible first | apply zRf | assumption | apply zDn | apply zDr | apply zAl | apply zSt | refine zVi (by assumption) ?_ ?_) | go_size)) (hz.below (by repeat' first | (with_reducible first | apply zRf | assumption | apply zDn | apply zDr | apply zAl | apply zSt | refine zVi (by assumption) ?_ ?_) | go_size)))).mono ?_); rintro e w4 ⟨rfl, hb4⟩; clear tok4 _t; have hz4 := hb4.size; (try simp only [World.size_alloc, World.size_setCell, World.size_drew, World.size_drewN'] at hz4); (try (have kq := cellAt hb4 (w.heap.size) (by go_size); have k4_w_0_0 := kq 0; have k4_w_0_1 := kq 1; clear kq; have f4_w_0 := frozAt hb4 (w.heap.size) (by go_size); simp [go_sem, *] at k4_w_0_0 k4_w_0_1 f4_w_0)); (try have l4_w_0 : w.heap.size < w4.heap.size := by omega); (try (have kq := cellAt hb4 (w.heap.size + 1) (by go_size); have k4_w_1_0 := kq 0; have k4_w_1_1 := kq 1; have k4_w_1_2 := kq 2; have k4_w_1_3 := kq 3; clear kq; have f4_w_1 := frozAt hb4 (w.heap.size + 1) (by go_size); simp [go_sem, *] at k4_w_1_0 k4_w_1_1 k4_w_1_2 k4_w_1_3 f4_w_1)); (try have l4_w_1 : w.heap.size + 1 < w4.heap.size := by omega); (try (have kq := cellAt hb4 (w.heap.size + 1 + 1) (by go_size); have k4_w_2_0 := kq 0; have k4_w_2_1 := kq 1; have k4_w_2_2 := kq 2; have k4_w_2_3 := kq 3; clear kq; have f4_w_2 := frozAt hb4 (w.heap.size + 1 + 1) (by go_size); simp [go_sem, *] at k4_w_2_0 k4_w_2_1 k4_w_2_2 k4_w_2_3 f4_w_2)); (try have l4_w_2 : w.heap.size + 1 + 1 < w4.heap.size := by omega); (try clear k1_w_0_0 k1_w_0_1 f1_w_0); (try clear l1_w_0); (try clear k1_w_1_0 k1_w_1_1 k1_w_1_2 k1_w_1_3 f1_w_1); (try clear l1_w_1); (try clear k1_w_2_0 k1_w_2_1 k1_w_2_2 k1_w_2_3 f1_w_2); (try clear l1_w_2); (try clear k2_w_0_0 k2_w_0_1 f2_w_0); (try clear l2_w_0); (try clear k2_w_1_0 k2_w_1_1 k2_w_1_2 k2_w_1_3 f2_w_1); (try clear l2_w_1); (try clear k2_w_2_0 k2_w_2_1 k2_w_2_2 k2_w_2_3 f2_w_2); (try clear l2_w_2); (try clear k3_w_0_0 k3_w_0_1 f3_w_0); (try clear l3_w_0); (try clear k3_w_1_0 k3_w_1_1 k3_w_1_2 k3_w_1_3 f3_w_1); (try clear l3_w_1); (try clear k3_w_2_0 k3_w_2_1 k3_w_2_2 k3_w_2_3 f3_w_2); (try clear l3_w_2)))
    have H_C_4 := (hb4.block (w.heap.size) (blk_lt' H_C_3.out)).trans H_C_3.out
    clear k_C_3_0 k_C_3_1 f_C_3 H_C_3
    obtain ⟨k_C_4_0, k_C_4_1, f_C_4, l_C_4⟩ := bk2 H_C_4
    replace H_C_4 := Lib.hid H_C_4
    have H_R_4 := (hb4.block (w.heap.size + 1) (blk_lt' H_R_3.out)).trans H_R_3.out
    clear k_R_3_0 k_R_3_1 k_R_3_2 k_R_3_3 f_R_3 H_R_3
    obtain ⟨k_R_4_0, k_R_4_1, k_R_4_2, k_R_4_3, f_R_4, l_R_4⟩ := bk4 H_R_4
    replace H_R_4 := Lib.hid H_R_4
    have H_O_4 := (hb4.block (w.heap.size + 1 + 1) (blk_lt' H_O_3.out)).trans H_O_3.out
    clear k_O_3_0 k_O_3_1 k_O_3_2 k_O_3_3 f_O_3 H_O_3
    obtain ⟨k_O_4_0, k_O_4_1, k_O_4_2, k_O_4_3, f_O_4, l_O_4⟩ := bk4 H_O_4
    replace H_O_4 := Lib.hid H_O_4
    have H_G_4 := (hb4.block (w2.heap.size) (blk_lt' H_G_3.out)).trans H_G_3.out
    clear k_G_3_0 k_G_3_1 f_G_3 H_G_3
    obtain ⟨k_G_4_0, k_G_4_1, f_G_4, l_G_4⟩ := bk2 H_G_4
    replace H_G_4 := Lib.hid H_G_4
    replace hx := hx.below hb4
    replace hz := hz.below hb4
    replace hs3 := hs3.below hb4
    have hB4 : Below w.heap.size w w4 := below_via hb4 (by assumption) (by first | exact hB3.size | go_size)
    go_upto_region 6 with (first | (have _t := tok5; go_at_call 54; (with_reducible refine ((TT _ (hx.below (by repeat' first | (with_reducible first | apply zRf | assumption | apply zDn | apply zDr | apply zAl | apply zSt | refine zVi (by assumption) ?_ ?_) | go_size)) (hz.below (by repeat' first | (with_reducible first | apply zRf | assumption | apply zDn | apply zDr | apply zAl | apply zSt | refine zVi (by assumption) ?_ ?_) | go_size)))).mono ?_); rintro e w5 ⟨b5, a5, n5, c5, rfl, ht5, f5, hb5⟩; clear tok5 _t; have hz5 := hb5.size; (try simp only [World.size_alloc, World.size_setCell, World.size_drew, World.size_drewN'] at hz5); (try (have kq := cellAt hb5 (w.heap.size) (by go_size); have k5_w_0_0 := kq 0; have k5_w_0_1 := kq 1; clear kq; have f5_w_0 := frozAt hb5 (w.heap.size) (by go_size); simp [go_sem, *] at k5_w_0_0 k5_w_0_1 f5_w_0)); (try have l5_w_0 : w.heap.size < w5.heap.size := by omega); (try (have kq := cellAt hb5 (w.heap.size + 1) (by go_size); have k5_w_1_0 := kq 0; have k5_w_1_1 := kq 1; have k5_w_1_2 := kq 2; have k5_w_1_3 := kq 3; clear kq; have f5_w_1 := frozAt hb5 (w.heap.size + 1) (by go_size); simp [go_sem, *] at k5_w_1_0 k5_w_1_1 k5_w_1_2 k5_w_1_3 f5_w_1)); (try have l5_w_1 : w.heap.size + 1 < w5.heap.size := by omega); (try (have kq := cellAt hb5 (w.heap.size + 1 + 1) (by go_size); have k5_w_2_0 := kq 0; have k5_w_2_1 := kq 1; have k5_w_2_2 := kq 2; have k5_w_2_3 := kq 3; clear kq; have f5_w_2 := frozAt hb5 (w.heap.size + 1 + 1) (by go_size); simp [go_sem, *] at k5_w_2_0 k5_w_2_1 k5_w_2_2 k5_w_2_3 f5_w_2)); (try have l5_w_2 : w.heap.size + 1 + 1 < w5.heap.size := by omega); (try (have kq := cellAt hb5 (w2.heap.size) (by go_size); have k5_w2_0_0 := kq 0; have k5_w2_0_1 := kq 1; clear kq; have f5_w2_0 := frozAt hb5 (w2.heap.size) (by go_size); simp [go_sem, *] at k5_w2_0_0 k5_w2_0_1 f5_w2_0)); (try have l5_w2_0 : w2.heap.size < w5.heap.size := by omega); (try clear k1_w_0_0 k1_w_0_1 f1_w_0); (try clear l1_w_0); (try clear k1_w_1_0 k1_w_1_1 k1_w_1_2 k1_w_1_3 f1_w_1); (try clear l1_w_1); (try clear k1_w_2_0 k1_w_2_1 k1_w_2_2 k1_w_2_3 f1_w_2); (try clear l1_w_2); (try clear k2_w_0_0 k2_w_0_1 f2_w_0); (try clear l2_w_0); (try clear k2_w_1_0 k2_w_1_1 k2_w_1_2 k2_w_1_3 f2_w_1); (try clear l2_w_1); (try clear k2_w_2_0 k2_w_2_1 k2_w_2_2 k2_w_2_3 f2_w_2); (try clear l2_w_2); (try clear k3_w_0_0 k3_w_0_1 f3_w_0); (try clear l3_w_0); (try clear k3_w_1_0 k3_w_1_1 k3_w_1_2 k3_w_1_3 f3_w_1); (try clear l3_w_1); (try clear k3_w_2_0 k3_w_2_1 k3_w_2_2 k3_w_2_3 f3_w_2); (try clear l3_w_2); (try clear k3_w2_0_0 k3_w2_0_1 f3_w2_0); (try clear l3_w2_0); (try clear k4_w_0_0 k4_w_0_1 f4_w_0); (try clear l4_w_0); (try clear k4_w_1_0 k4_w_1_1 k4_w_1_2 k4_w_1_3 f4_w_1); (try clear l4_w_1); (try clear k4_w_2_0 k4_w_2_1 k4_w_2_2 k4_w_2_3 f4_w_2); (try clear l4_w_2); (try clear k4_w2_0_0 k4_w2_0_1 f4_w2_0); (try clear l4_w2_0)) | (have _t := tok6; go_at_call 53; (with_reducible refine ((TO1 _ _ _ _ _ ht5)).mono ?_); rintro e w6 ⟨b6, a6, n6, c6, r6, rfl, hp6, f6, hb6⟩; clear tok6 _t; have hz6 := hb6.size; (try simp only [World.size_alloc, World.size_setCell, World.size_drew, World.size_drewN'] at hz6); (try (have kq := cellAt hb6 (w.heap.size) (by go_size); have k6_w_0_0 := kq 0; have k6_w_0_1 := kq 1; clear kq; have f6_w_0 := frozAt hb6 (w.heap.size) (by go_size); simp [go_sem, *] at k6_w_0_0 k6_w_0_1 f6_w_0)); (try have l6_w_0 : w.heap.size < w6.heap.size := by omega); (try (have kq := cellAt hb6 (w.heap.size + 1) (by go_size); have k6_w_1_0 := kq 0; have k6_w_1_1 := kq 1; have k6_w_1_2 := kq 2; have k6_w_1_3 := kq 3; clear kq; have f6_w_1 := frozAt hb6 (w.heap.size + 1) (by go_size); simp [go_sem, *] at k6_w_1_0 k6_w_1_1 k6_w_1_2 k6_w_1_3 f6_w_1)); (try have l6_w_1 : w.heap.size + 1 < w6.heap.size := by omega); (try (have kq := cellAt hb6 (w.heap.size + 1 + 1) (by go_size); have k6_w_2_0 := kq 0; have k6_w_2_1 := kq 1; have k6_w_2_2 := kq 2; have k6_w_2_3 := kq 3; clear kq; have f6_w_2 := frozAt hb6 (w.heap.size + 1 + 1) (by go_size); simp [go_sem, *] at k6_w_2_0 k6_w_2_1 k6_w_2_2 k6_w_2_3 f6_w_2)); (try have l6_w_2 : w.heap.size + 1 + 1 < w6.heap.size := by omega); (try (have kq := cellAt hb6 (w2.heap.size) (by go_size); have k6_w2_0_0 := kq 0; have k6_w2_0_1 := kq 1; clear kq; have f6_w2_0 := frozAt hb6 (w2.heap.size) (by go_size); simp [go_sem, *] at k6_w2_0_0 k6_w2_0_1 f6_w2_0)); (try have l6_w2_0 : w2.heap.size < w6.heap.size := by omega); (try clear k2_w_0_0 k2_w_0_1 f2_w_0); (try clear l2_w_0); (try clear k2_w_1_0 k2_w_1_1 k2_w_1_2 k2_w_1_3 f2_w_1); (try clear l2_w_1); (try clear k2_w_2_0 k2_w_2_1 k2_w_2_2 k2_w_2_3 f2_w_2); (try clear l2_w_2); (try clear k3_w_0_0 k3_w_0_1 f3_w_0); (try clear l3_w_0); (try clear k3_w_1_0 k3_w_1_1 k3_w_1_2 k3_w_1_3 f3_w_1); (try clear l3_w_1); (try clear k3_w_2_0 k3_w_2_1 k3_w_2_2 k3_w_2_3 f3_w_2); (try clear l3_w_2); (try clear k3_w2_0_0 k3_w2_0_1 f3_w2_0); (try clear l3_w2_0); (try clear k4_w_0_0 k4_w_0_1 f4_w_0); (try clear l4_w_0); (try clear k4_w_1_0 k4_w_1_1 k4_w_1_2 k4_w_1_3 f4_w_1); (try clear l4_w_1); (try clear k4_w_2_0 k4_w_2_1 k4_w_2_2 k4_w_2_3 f4_w_2); (try clear l4_w_2); (try clear k4_w2_0_0 k4_w2_0_1 f4_w2_0); (try clear l4_w2_0); (try clear k5_w_0_0 k5_w_0_1 f5_w_0); (try clear l5_w_0); (try clear k5_w_1_0 k5_w_1_1 k5_w_1_2 k5_w_1_3 f5_w_1); (try clear l5_w_1); (try clear k5_w_2_0 k5_w_2_1 k5_w_2_2 k5_w_2_3 f5_w_2); (try clear l5_w_2); (try clear k5_w2_0_0 k5_w2_0_1 f5_w2_0); (try clear l5_w2_0)))
    have F6 : Fr w.heap.size a6 := f6.mono (by have := hB4.size; have := hb5.size; omega)
    replace hb6 := below_via hb6 hb5 (by have := hb5.size; omega)
    have H_C_6 := (hb6.block (w.heap.size) (blk_lt' H_C_4.out)).trans H_C_4.out
    clear k_C_4_0 k_C_4_1 f_C_4 H_C_4
    obtain ⟨k_C_6_0, k_C_6_1, f_C_6, l_C_6⟩ := bk2 H_C_6
    replace H_C_6 := Lib.hid H_C_6
    have H_R_6 := (hb6.block (w.heap.size + 1) (blk_lt' H_R_4.out)).trans H_R_4.out
    clear k_R_4_0 k_R_4_1 k_R_4_2 k_R_4_3 f_R_4 H_R_4
    obtain ⟨k_R_6_0, k_R_6_1, k_R_6_2, k_R_6_3, f_R_6, l_R_6⟩ := bk4 H_R_6
    replace H_R_6 := Lib.hid H_R_6
    have H_O_6 := (hb6.block (w.heap.size + 1 + 1) (blk_lt' H_O_4.out)).trans H_O_4.out
    clear k_O_4_0 k_O_4_1 k_O_4_2 k_O_4_3 f_O_4 H_O_4
    obtain ⟨k_O_6_0, k_O_6_1, k_O_6_2, k_O_6_3, f_O_6, l_O_6⟩ := bk4 H_O_6
    replace H_O_6 := Lib.hid H_O_6
    have H_G_6 := (hb6.block (w2.heap.size) (blk_lt' H_G_4.out)).trans H_G_4.out
    clear k_G_4_0 k_G_4_1 f_G_4 H_G_4
    obtain ⟨k_G_6_0, k_G_6_1, f_G_6, l_G_6⟩ := bk2 H_G_6
    replace H_G_6 := Lib.hid H_G_6
    replace hx := hx.below hb6
    replace hz := hz.below hb6
    replace hs3 := hs3.below hb6
    have hB6 : Below w.heap.size w w6 := below_via hb6 (by assumption) (by first | exact hB4.size | go_size)
    clear f6 f5 hn3'
    replace H_C_6 := H_C_6.out
    replace H_R_6 := H_R_6.out
    replace H_O_6 := H_O_6.out
    replace H_G_6 := H_G_6.out
    refine chk (fun W => Below w.heap.size w W ∧ W.heap[w.heap.size + 1 + 1]? = some (.cells #[.bool false, .slice none 0 0, .bool false, .slice none 0 0] 37 (0, 0)) ∧ W.heap[w2.heap.size]? = some (.cells #[.bool b3, .slice a3 n3 c3] 35 (0, 0)) ∧ W.heap[w6.heap.size]? = some (.cells #[.bool b6, .slice a6 n6 c6] 35 (0, 0)) ∧ Wx W b3 a3 n3 c3 s ∧ Wx W b6 a6 n6 c6 p) (by refine ⟨?_, ?_, ?_, ?_, ?_, ?_⟩ <;> (repeat' first | (with_reducible first | assumption | (apply Ne.symm; assumption) | apply Nat.le_refl | apply Nat.le_add_right | apply zL | apply zRf | apply Wx.box | apply Wx.box4 | apply zWa | apply Wx.drew | apply zWn | apply bx_drew | apply bx_drewN | apply bx_set3 | apply bx_set2 | apply bx_set4 | apply bx_set1) | ((with_reducible apply bx_new); (focus (go_size; done))) | (with_reducible first | apply zOl | apply zFa | apply zDn | apply zDr | apply zAl | apply zSt | refine zVi (by assumption) ?_ ?_) | go_size | omega)) ?_
    try clear hs3
    try clear hp6
    clear k_C_6_0 k_C_6_1 f_C_6 H_C_6
    clear k_R_6_0 k_R_6_1 k_R_6_2 k_R_6_3 f_R_6 H_R_6
    clear k_O_6_0 k_O_6_1 k_O_6_2 k_O_6_3 f_O_6 H_O_6
    clear k_G_6_0 k_G_6_1 f_G_6 H_G_6
    clear hB6
    rintro w7 ⟨hB7, H_O_7, H_G_7, H_T_7, hs3', hp6'⟩
    obtain ⟨k_O_7_0, k_O_7_1, k_O_7_2, k_O_7_3, f_O_7, l_O_7⟩ := bk4 H_O_7
    replace H_O_7 := Lib.hid H_O_7
    obtain ⟨k_G_7_0, k_G_7_1, f_G_7, l_G_7⟩ := bk2 H_G_7
    replace H_G_7 := Lib.hid H_G_7
    obtain ⟨k_T_7_0, k_T_7_1, f_T_7, l_T_7⟩ := bk2 H_T_7
    replace H_T_7 := Lib.hid H_T_7
    have hs3 := hs3'
    clear hs3'
    have hp6 := hp6'
    clear hp6'
    go_upto_region 7 with (first | (have _t := tok8; go_at_call 53; (with_reducible refine ((TO2 _ _ _ _ _ (hs3.below (by repeat' first | (with_reducible first | apply zRf | assumption | apply zDn | apply zDr | apply zAl | apply zSt | refine zVi (by assumption) ?_ ?_) | go_size)))).mono ?_); rintro e w8 ⟨b8, a8, n8, c8, r8, rfl, hq8, f8, hb8⟩; clear tok8 _t; have hz8 := hb8.size; (try simp only [World.size_alloc, World.size_setCell, World.size_drew, World.size_drewN'] at hz8); (try (have kq := cellAt hb8 (w.heap.size) (by go_size); have k8_w_0_0 := kq 0; have k8_w_0_1 := kq 1; clear kq; have f8_w_0 := frozAt hb8 (w.heap.size) (by go_size); simp [go_sem, *] at k8_w_0_0 k8_w_0_1 f8_w_0)); (try have l8_w_0 : w.heap.size < w8.heap.size := by omega); (try (have kq := cellAt hb8 (w.heap.size + 1) (by go_size); have k8_w_1_0 := kq 0; have k8_w_1_1 := kq 1; have k8_w_1_2 := kq 2; have k8_w_1_3 := kq 3; clear kq; have f8_w_1 := frozAt hb8 (w.heap.size + 1) (by go_size); simp [go_sem, *] at k8_w_1_0 k8_w_1_1 k8_w_1_2 k8_w_1_3 f8_w_1)); (try have l8_w_1 : w.heap.size + 1 < w8.heap.size := by omega); (try (have kq := cellAt hb8 (w.heap.size + 1 + 1) (by go_size); have k8_w_2_0 := kq 0; have k8_w_2_1 := kq 1; have k8_w_2_2 := kq 2; have k8_w_2_3 := kq 3; clear kq; have f8_w_2 := frozAt hb8 (w.heap.size + 1 + 1) (by go_size); simp [go_sem, *] at k8_w_2_0 k8_w_2_1 k8_w_2_2 k8_w_2_3 f8_w_2)); (try have l8_w_2 : w.heap.size + 1 + 1 < w8.heap.size := by omega); (try (have kq := cellAt hb8 (w2.heap.size) (by go_size); have k8_w2_0_0 := kq 0; have k8_w2_0_1 := kq 1; clear kq; have f8_w2_0 := frozAt hb8 (w2.heap.size) (by go_size); simp [go_sem, *] at k8_w2_0_0 k8_w2_0_1 f8_w2_0)); (try have l8_w2_0 : w2.heap.size < w8.heap.size := by omega); (try clear k4_w_0_0 k4_w_0_1 f4_w_0); (try clear l4_w_0); (try clear k4_w_1_0 k4_w_1_1 k4_w_1_2 k4_w_1_3 f4_w_1); (try clear l4_w_1); (try clear k4_w_2_0 k4_w_2_1 k4_w_2_2 k4_w_2_3 f4_w_2); (try clear l4_w_2); (try clear k4_w2_0_0 k4_w2_0_1 f4_w2_0); (try clear l4_w2_0); (try clear k5_w_0_0 k5_w_0_1 f5_w_0); (try clear l5_w_0); (try clear k5_w_1_0 k5_w_1_1 k5_w_1_2 k5_w_1_3 f5_w_1); (try clear l5_w_1); (try clear k5_w_2_0 k5_w_2_1 k5_w_2_2 k5_w_2_3 f5_w_2); (try clear l5_w_2); (try clear k5_w2_0_0 k5_w2_0_1 f5_w2_0); (try clear l5_w2_0); (try clear k6_w_0_0 k6_w_0_1 f6_w_0); (try clear l6_w_0); (try clear k6_w_1_0 k6_w_1_1 k6_w_1_2 k6_w_1_3 f6_w_1); (try clear l6_w_1); (try clear k6_w_2_0 k6_w_2_1 k6_w_2_2 k6_w_2_3 f6_w_2); (try clear l6_w_2); (try clear k6_w2_0_0 k6_w2_0_1 f6_w2_0); (try clear l6_w2_0); (try clear k7_w_0_0 k7_w_0_1 f7_w_0); (try clear l7_w_0); (try clear k7_w_1_0 k7_w_1_1 k7_w_1_2 k7_w_1_3 f7_w_1); (try clear l7_w_1); (try clear k7_w_2_0 k7_w_2_1 k7_w_2_2 k7_w_2_3 f7_w_2); (try clear l7_w_2); (try clear k7_w2_0_0 k7_w2_0_1 f7_w2_0); (try clear l7_w2_0)))
    have H_O_8 := (hb8.block (w.heap.size + 1 + 1) (blk_lt' H_O_7.out)).trans H_O_7.out
    clear k_O_7_0 k_O_7_1 k_O_7_2 k_O_7_3 f_O_7 H_O_7
    obtain ⟨k_O_8_0, k_O_8_1, k_O_8_2, k_O_8_3, f_O_8, l_O_8⟩ := bk4 H_O_8
    replace H_O_8 := Lib.hid H_O_8
    have H_G_8 := (hb8.block (w2.heap.size) (blk_lt' H_G_7.out)).trans H_G_7.out
    clear k_G_7_0 k_G_7_1 f_G_7 H_G_7
    obtain ⟨k_G_8_0, k_G_8_1, f_G_8, l_G_8⟩ := bk2 H_G_8
    replace H_G_8 := Lib.hid H_G_8
    have H_T_8 := (hb8.block (w6.heap.size) (blk_lt' H_T_7.out)).trans H_T_7.out
    clear k_T_7_0 k_T_7_1 f_T_7 H_T_7
    obtain ⟨k_T_8_0, k_T_8_1, f_T_8, l_T_8⟩ := bk2 H_T_8
    replace H_T_8 := Lib.hid H_T_8
    replace hs3 := hs3.below hb8
    replace hp6 := hp6.below hb8
    have hB8 : Below w.heap.size w w8 := below_via hb8 (by assumption) (by first | exact hB7.size | go_size)
    have F8 : Fr w.heap.size a8 := f8.mono (by have := hB7.size; omega)
    clear f8
    replace H_O_8 := H_O_8.out
    replace H_G_8 := H_G_8.out
    replace H_T_8 := H_T_8.out
    refine chk (fun W => Below w.heap.size w W ∧ W.heap[w.heap.size + 1 + 1]? = some (.cells #[.bool false, .slice none 0 0, .bool false, .slice none 0 0] 37 (0, 0)) ∧ W.heap[w6.heap.size]? = some (.cells #[.bool b6, .slice a6 n6 c6] 35 (0, 0)) ∧ W.heap[w8.heap.size]? = some (.cells #[.bool b8, .slice a8 n8 c8] 35 (0, 0)) ∧ Wx W b6 a6 n6 c6 p ∧ Wx W b8 a8 n8 c8 q) (by refine ⟨?_, ?_, ?_, ?_, ?_, ?_⟩ <;> (repeat' first | (with_reducible first | assumption | (apply Ne.symm; assumption) | apply Nat.le_refl | apply Nat.le_add_right | apply zL | apply zRf | apply Wx.box | apply Wx.box4 | apply zWa | apply Wx.drew | apply zWn | apply bx_drew | apply bx_drewN | apply bx_set3 | apply bx_set2 | apply bx_set4 | apply bx_set1) | ((with_reducible apply bx_new); (focus (go_size; done))) | (with_reducible first | apply zOl | apply zFa | apply zDn | apply zDr | apply zAl | apply zSt | refine zVi (by assumption) ?_ ?_) | go_size | omega)) ?_
    try clear hp6
    try clear hq8
    clear k_O_8_0 k_O_8_1 k_O_8_2 k_O_8_3 f_O_8 H_O_8
    clear k_G_8_0 k_G_8_1 f_G_8 H_G_8
    clear k_T_8_0 k_T_8_1 f_T_8 H_T_8
    clear hB8
    rintro w9 ⟨hB9, H_O_9, H_T_9, H_D_9, hp6', hq8'⟩
    obtain ⟨k_O_9_0, k_O_9_1, k_O_9_2, k_O_9_3, f_O_9, l_O_9⟩ := bk4 H_O_9
    replace H_O_9 := Lib.hid H_O_9
    obtain ⟨k_T_9_0, k_T_9_1, f_T_9, l_T_9⟩ := bk2 H_T_9
    replace H_T_9 := Lib.hid H_T_9
    obtain ⟨k_D_9_0, k_D_9_1, f_D_9, l_D_9⟩ := bk2 H_D_9
    replace H_D_9 := Lib.hid H_D_9
    have hp6 := hp6'
    clear hp6'
    have hq8 := hq8'
    clear hq8'
    have hTD : w6.heap.size ≠ w8.heap.size := by omega
    have hn6 : n6 ≤ 8000 := by rw [hp6.ln]; exact lnp
    have hn8 : n8 ≤ 8000 := by rw [hq8.ln]; exact lnq
    have hb8n := Lib.hid hq8.neg
    by_cases hneg : s < 0
    · obtain rfl : b8 = true := by rw [hb8n.out]; simp [ngB, hsg.2 hneg]
      obtain ⟨p1, hp1⟩ : ∃ v, -p = v := ⟨_, rfl⟩
      obtain ⟨q1, hq1⟩ : ∃ v, -q = v := ⟨_, rfl⟩
      have HR2 := HR.out
      rw [show sgZ s p = p1 by rw [← hp1]; simp [sgZ, hneg], show sgZ s q = q1 by rw [← hq1]; simp [sgZ, hneg]] at HR2
      have TN1 : ∀ W, Wx W b6 a6 n6 c6 p → Calls Try.prog 55 #[.agg #[.bool b6, .slice a6 n6 c6]] W (NewW W p1) := fun W h => hp1 ▸ negated_any b6 a6 n6 c6 p W h (by omega)
      have TN2 : ∀ W, Wx W true a8 n8 c8 q → Calls Try.prog 55 #[.agg #[.bool true, .slice a8 n8 c8]] W (NewW W q1) := fun W h => hq1 ▸ negated_any true a8 n8 c8 q W h (by omega)
      clear HR
      have HR := Lib.hid HR2
      clear HR2 hp1 hq1
      go_upto_region 8 with (fail)
      refine wp_open (n := 4) (by kernel_rfl) (by kernel_rfl) (by kernel_rfl) (by kernel_rfl) ?_
      simp only [List.take_succ_cons, List.take_zero]
      apply wpS_quiet
      · intro γ W hW hp
        have hs := hW.size
        (try simp only [World.size_alloc, World.size_setCell, World.size_drew, World.size_drewN'] at hs)
        have kx_0 := fun x : Over W => ((cellAt x.lies (w6.heap.size) (by omega) 0).trans (cellAt hW (w6.heap.size) (by first | omega | go_size) 0)).trans k_T_9_0
        have kx_1 := fun x : Over W => ((cellAt x.lies (w6.heap.size) (by omega) 1).trans (cellAt hW (w6.heap.size) (by first | omega | go_size) 1)).trans k_T_9_1
        clear hW hp
        refine ⟨rfl, ?_⟩
        go_big_quiet_op
        first | exact rfl
      · exact locS_const _
      try simp only [Act.put, List.setIfInBounds_toArray, List.set_cons_succ, List.set_cons_zero, Nat.reduceAdd]
      apply wpS_open (openW w.heap.size p1)
      · intro γ W hW hp
        refine ⟨rfl, ?_⟩
        go_simp
        refine plainNew rfl ?_
        exact open_W (TN1 _ (hp6.below hW)) (by (have := hW.size; (try simp only [World.size_alloc, World.size_setCell, World.size_drew, World.size_drewN'] at this); omega))
      try simp only [Act.put, List.setIfInBounds_toArray, List.set_cons_succ, List.set_cons_zero, Nat.reduceAdd]
      apply wpS_quiet
      · intro γ W hW hp
        have hs := hW.size
        (try simp only [World.size_alloc, World.size_setCell, World.size_drew, World.size_drewN'] at hs)
        have kx_0 := fun x : Over W => ((cellAt x.lies (w8.heap.size) (by omega) 0).trans (cellAt hW (w8.heap.size) (by first | omega | go_size) 0)).trans k_D_9_0
        have kx_1 := fun x : Over W => ((cellAt x.lies (w8.heap.size) (by omega) 1).trans (cellAt hW (w8.heap.size) (by first | omega | go_size) 1)).trans k_D_9_1
        clear hW hp
        refine ⟨rfl, ?_⟩
        go_big_quiet_op
        first | exact rfl
      · exact locS_const _
      try simp only [Act.put, List.setIfInBounds_toArray, List.set_cons_succ, List.set_cons_zero, Nat.reduceAdd]
      apply wpS_open (openW w.heap.size q1)
      · intro γ W hW hp
        refine ⟨rfl, ?_⟩
        go_simp
        refine plainNew rfl ?_
        exact open_W (TN2 _ (hq8.below hW)) (by (have := hW.size; (try simp only [World.size_alloc, World.size_setCell, World.size_drew, World.size_drewN'] at this); omega))
      try simp only [Act.put, List.setIfInBounds_toArray, List.set_cons_succ, List.set_cons_zero, Nat.reduceAdd]
      apply wpS_end
      intro γ w10 hb10 hG10 hA10
      have hg10_1 := hG10 _ (List.mem_append_left _ (List.mem_append_right _ (List.mem_singleton.2 rfl)))
      dsimp only at hg10_1
      have hg10_3 := hG10 _ (List.mem_append_right _ (List.mem_singleton.2 rfl))
      dsimp only at hg10_3
      clear hG10 hA10
      simp only [List.drop_succ_cons, List.drop_zero]
      have hz10 := hb10.size
      (try simp only [World.size_alloc, World.size_setCell, World.size_drew, World.size_drewN'] at hz10)
      obtain ⟨b9, a9, n9, c9, e9, hp, F9⟩ := hg10_1
      obtain ⟨b10, a10, n10, c10, e10, hq, F10⟩ := hg10_3
      simp only [e9, e10]
      clear e9 e10 TN1 TN2
      have H_O_10 := (hb10.block (w.heap.size + 1 + 1) (blk_lt' H_O_9.out)).trans H_O_9.out
      clear k_O_9_0 k_O_9_1 k_O_9_2 k_O_9_3 f_O_9 H_O_9
      obtain ⟨k_O_10_0, k_O_10_1, k_O_10_2, k_O_10_3, f_O_10, l_O_10⟩ := bk4 H_O_10
      replace H_O_10 := Lib.hid H_O_10
      have H_T_10 := (hb10.block (w6.heap.size) (blk_lt' H_T_9.out)).trans H_T_9.out
      clear k_T_9_0 k_T_9_1 f_T_9 H_T_9
      obtain ⟨k_T_10_0, k_T_10_1, f_T_10, l_T_10⟩ := bk2 H_T_10
      replace H_T_10 := Lib.hid H_T_10
      have H_D_10 := (hb10.block (w8.heap.size) (blk_lt' H_D_9.out)).trans H_D_9.out
      clear k_D_9_0 k_D_9_1 f_D_9 H_D_9
      obtain ⟨k_D_10_0, k_D_10_1, f_D_10, l_D_10⟩ := bk2 H_D_10
      replace H_D_10 := Lib.hid H_D_10
      replace hp6 := hp6.below hb10
      replace hq8 := hq8.below hb10
      have hB10 : Below w.heap.size w w10 := below_via hb10 (by assumption) (by first | exact hB9.size | go_size)
      go_upto_region 9 with (fail)
      replace H_O_10 := H_O_10.out
      replace H_T_10 := H_T_10.out
      replace H_D_10 := H_D_10.out
      refine chk (fun W => Below w.heap.size w W ∧ W.heap[w.heap.size + 1 + 1]? = some (.cells #[.bool false, .slice none 0 0, .bool false, .slice none 0 0] 37 (0, 0)) ∧ W.heap[w6.heap.size]? = some (.cells #[.bool b9, .slice a9 n9 c9] 35 (0, 0)) ∧ W.heap[w8.heap.size]? = some (.cells #[.bool b10, .slice a10 n10 c10] 35 (0, 0)) ∧ Wx W b9 a9 n9 c9 p1 ∧ Wx W b10 a10 n10 c10 q1) (by refine ⟨?_, ?_, ?_, ?_, ?_, ?_⟩ <;> (repeat' first | (with_reducible first | assumption | (apply Ne.symm; assumption) | apply Nat.le_refl | apply Nat.le_add_right | apply zL | apply zRf | apply Wx.box | apply Wx.box4 | apply zWa | apply Wx.drew | apply zWn | apply bx_drew | apply bx_drewN | apply bx_set3 | apply bx_set2 | apply bx_set4 | apply bx_set1) | ((with_reducible apply bx_new); (focus (go_size; done))) | (with_reducible first | apply zOl | apply zFa | apply zDn | apply zDr | apply zAl | apply zSt | refine zVi (by assumption) ?_ ?_) | go_size | omega)) ?_
      try clear hp
      try clear hq
      clear k_O_10_0 k_O_10_1 k_O_10_2 k_O_10_3 f_O_10 H_O_10
      clear k_T_10_0 k_T_10_1 f_T_10 H_T_10
      clear k_D_10_0 k_D_10_1 f_D_10 H_D_10
      clear hB10
      rintro w20 ⟨hB20, H_O_20, H_T_20, H_D_20, hp', hq'⟩
      obtain ⟨k_O_20_0, k_O_20_1, k_O_20_2, k_O_20_3, f_O_20, l_O_20⟩ := bk4 H_O_20
      replace H_O_20 := Lib.hid H_O_20
      obtain ⟨k_T_20_0, k_T_20_1, f_T_20, l_T_20⟩ := bk2 H_T_20
      replace H_T_20 := Lib.hid H_T_20
      obtain ⟨k_D_20_0, k_D_20_1, f_D_20, l_D_20⟩ := bk2 H_D_20
      replace H_D_20 := Lib.hid H_D_20
      have hp := hp'
      clear hp'
      have hq := hq'
      clear hq'
      go_upto_region 10 with (fail)
      replace H_O_20 := H_O_20.out
      replace H_T_20 := H_T_20.out
      replace H_D_20 := H_D_20.out
      refine chk (fun W => Below w.heap.size w W ∧ W.heap[w.heap.size + 1 + 1]? = some (.cells #[.bool false, .slice none 0 0, .bool false, .slice none 0 0] 37 (0, 0)) ∧ W.heap[w20.heap.size]? = some (.cells #[.bool b9, .slice a9 n9 c9, .bool b10, .slice a10 n10 c10] 37 (0, 0)) ∧ Wx W b9 a9 n9 c9 p1 ∧ Wx W b10 a10 n10 c10 q1) (by refine ⟨?_, ?_, ?_, ?_, ?_⟩ <;> (repeat' first | (with_reducible first | assumption | (apply Ne.symm; assumption) | apply Nat.le_refl | apply Nat.le_add_right | apply zL | apply zRf | apply Wx.box | apply Wx.box4 | apply zWa | apply Wx.drew | apply zWn | apply bx_drew | apply bx_drewN | apply bx_set3 | apply bx_set2 | apply bx_set4 | apply bx_set1) | ((with_reducible apply bx_new); (focus (go_size; done))) | (with_reducible first | apply zOl | apply zFa | apply zDn | apply zDr | apply zAl | apply zSt | refine zVi (by assumption) ?_ ?_) | go_size | omega)) ?_
      try clear hp
      try clear hq
      clear k_O_20_0 k_O_20_1 k_O_20_2 k_O_20_3 f_O_20 H_O_20
      clear k_T_20_0 k_T_20_1 f_T_20 H_T_20
      clear k_D_20_0 k_D_20_1 f_D_20 H_D_20
      clear hB20
      rintro w21 ⟨hB21, H_O_21, H_N_21, hp', hq'⟩
      obtain ⟨k_O_21_0, k_O_21_1, k_O_21_2, k_O_21_3, f_O_21, l_O_21⟩ := bk4 H_O_21
      replace H_O_21 := Lib.hid H_O_21
      obtain ⟨k_N_21_0, k_N_21_1, k_N_21_2, k_N_21_3, f_N_21, l_N_21⟩ := bk4 H_N_21
      replace H_N_21 := Lib.hid H_N_21
      have hp := hp'
      clear hp'
      have hq := hq'
      clear hq'
      rcases HR.out with ⟨e1, hd⟩ | ⟨e1, hd⟩
      · subst hd
        have TG : ∀ W (b : Bool) (a : Option Addr) (n c : Nat) (b2 : Bool) (a2 : Option Addr) (n2 c2 : Nat), Wx W b a n c p1 → Wx W b2 a2 n2 c2 q1 → Calls Try.prog 20 #[.agg #[.bool b, .slice a n c, .bool b2, .slice a2 n2 c2]] W fun e w' => e = .returned (.bool true) ∧ Below W.heap.size W w' := fun W b a n c b2 a2 n2 c2 h1 h2 => e1 ▸ isRatio_any b b2 a a2 n c n2 c2 p1 q1 W h1 h2
        clear e1 HR TT TS TV TO1 TO2
        go_upto_region 12 with (first | (have _t := tok22; go_at_call 20; (with_reducible refine ((TG _ _ _ _ _ _ _ _ _ (hp.below (by repeat' first | (with_reducible first | apply zRf | assumption | apply zDn | apply zDr | apply zAl | apply zSt | refine zVi (by assumption) ?_ ?_) | go_size)) (hq.below (by repeat' first | (with_reducible first | apply zRf | assumption | apply zDn | apply zDr | apply zAl | apply zSt | refine zVi (by assumption) ?_ ?_) | go_size)))).mono ?_); rintro e w22 ⟨rfl, hb22⟩; clear tok22 _t; have hz22 := hb22.size; (try simp only [World.size_alloc, World.size_setCell, World.size_drew, World.size_drewN'] at hz22); (try (have kq := cellAt hb22 (w.heap.size) (by go_size); have k22_w_0_0 := kq 0; have k22_w_0_1 := kq 1; clear kq; have f22_w_0 := frozAt hb22 (w.heap.size) (by go_size); simp [go_sem, *] at k22_w_0_0 k22_w_0_1 f22_w_0)); (try have l22_w_0 : w.heap.size < w22.heap.size := by omega); (try (have kq := cellAt hb22 (w.heap.size + 1) (by go_size); have k22_w_1_0 := kq 0; have k22_w_1_1 := kq 1; have k22_w_1_2 := kq 2; have k22_w_1_3 := kq 3; clear kq; have f22_w_1 := frozAt hb22 (w.heap.size + 1) (by go_size); simp [go_sem, *] at k22_w_1_0 k22_w_1_1 k22_w_1_2 k22_w_1_3 f22_w_1)); (try have l22_w_1 : w.heap.size + 1 < w22.heap.size := by omega); (try (have kq := cellAt hb22 (w.heap.size + 1 + 1) (by go_size); have k22_w_2_0 := kq 0; have k22_w_2_1 := kq 1; have k22_w_2_2 := kq 2; have k22_w_2_3 := kq 3; clear kq; have f22_w_2 := frozAt hb22 (w.heap.size + 1 + 1) (by go_size); simp [go_sem, *] at k22_w_2_0 k22_w_2_1 k22_w_2_2 k22_w_2_3 f22_w_2)); (try have l22_w_2 : w.heap.size + 1 + 1 < w22.heap.size := by omega); (try (have kq := cellAt hb22 (w20.heap.size) (by go_size); have k22_w20_0_0 := kq 0; have k22_w20_0_1 := kq 1; have k22_w20_0_2 := kq 2; have k22_w20_0_3 := kq 3; clear kq; have f22_w20_0 := frozAt hb22 (w20.heap.size) (by go_size); simp [go_sem, *] at k22_w20_0_0 k22_w20_0_1 k22_w20_0_2 k22_w20_0_3 f22_w20_0)); (try have l22_w20_0 : w20.heap.size < w22.heap.size := by omega); (try clear k18_w_0_0 k18_w_0_1 f18_w_0); (try clear l18_w_0); (try clear k18_w_1_0 k18_w_1_1 k18_w_1_2 k18_w_1_3 f18_w_1); (try clear l18_w_1); (try clear k18_w_2_0 k18_w_2_1 k18_w_2_2 k18_w_2_3 f18_w_2); (try clear l18_w_2); (try clear k19_w_0_0 k19_w_0_1 f19_w_0); (try clear l19_w_0); (try clear k19_w_1_0 k19_w_1_1 k19_w_1_2 k19_w_1_3 f19_w_1); (try clear l19_w_1); (try clear k19_w_2_0 k19_w_2_1 k19_w_2_2 k19_w_2_3 f19_w_2); (try clear l19_w_2); (try clear k20_w_0_0 k20_w_0_1 f20_w_0); (try clear l20_w_0); (try clear k20_w_1_0 k20_w_1_1 k20_w_1_2 k20_w_1_3 f20_w_1); (try clear l20_w_1); (try clear k20_w_2_0 k20_w_2_1 k20_w_2_2 k20_w_2_3 f20_w_2); (try clear l20_w_2); (try clear k21_w_0_0 k21_w_0_1 f21_w_0); (try clear l21_w_0); (try clear k21_w_1_0 k21_w_1_1 k21_w_1_2 k21_w_1_3 f21_w_1); (try clear l21_w_1); (try clear k21_w_2_0 k21_w_2_1 k21_w_2_2 k21_w_2_3 f21_w_2); (try clear l21_w_2); (try clear k21_w20_0_0 k21_w20_0_1 k21_w20_0_2 k21_w20_0_3 f21_w20_0); (try clear l21_w20_0)))
        have H_O_22 := (hb22.block (w.heap.size + 1 + 1) (blk_lt' H_O_21.out)).trans H_O_21.out
        clear k_O_21_0 k_O_21_1 k_O_21_2 k_O_21_3 f_O_21 H_O_21
        obtain ⟨k_O_22_0, k_O_22_1, k_O_22_2, k_O_22_3, f_O_22, l_O_22⟩ := bk4 H_O_22
        replace H_O_22 := Lib.hid H_O_22
        have H_N_22 := (hb22.block (w20.heap.size) (blk_lt' H_N_21.out)).trans H_N_21.out
        clear k_N_21_0 k_N_21_1 k_N_21_2 k_N_21_3 f_N_21 H_N_21
        obtain ⟨k_N_22_0, k_N_22_1, k_N_22_2, k_N_22_3, f_N_22, l_N_22⟩ := bk4 H_N_22
        replace H_N_22 := Lib.hid H_N_22
        replace hp := hp.below hb22
        replace hq := hq.below hb22
        have hB22 : Below w.heap.size w w22 := below_via hb22 (by assumption) (by first | exact hB21.size | go_size)
        replace H_O_22 := H_O_22.out
        replace H_N_22 := H_N_22.out
        refine chk (fun W => Below w.heap.size w W ∧ W.heap[w.heap.size + 1 + 1]? = some (.cells #[.bool false, .slice none 0 0, .bool false, .slice none 0 0] 37 (0, 0)) ∧ W.heap[w20.heap.size]? = some (.cells #[.bool b9, .slice a9 n9 c9, .bool b10, .slice a10 n10 c10] 37 (0, 0)) ∧ Wx W b9 a9 n9 c9 p1 ∧ Wx W b10 a10 n10 c10 q1) (by refine ⟨?_, ?_, ?_, ?_, ?_⟩ <;> (repeat' first | (with_reducible first | assumption | (apply Ne.symm; assumption) | apply Nat.le_refl | apply Nat.le_add_right | apply zL | apply zRf | apply Wx.box | apply Wx.box4 | apply zWa | apply Wx.drew | apply zWn | apply bx_drew | apply bx_drewN | apply bx_set3 | apply bx_set2 | apply bx_set4 | apply bx_set1) | ((with_reducible apply bx_new); (focus (go_size; done))) | (with_reducible first | apply zOl | apply zFa | apply zDn | apply zDr | apply zAl | apply zSt | refine zVi (by assumption) ?_ ?_) | go_size | omega)) ?_
        try clear hp
        try clear hq
        clear k_O_22_0 k_O_22_1 k_O_22_2 k_O_22_3 f_O_22 H_O_22
        clear k_N_22_0 k_N_22_1 k_N_22_2 k_N_22_3 f_N_22 H_N_22
        clear hB22
        rintro w23 ⟨hB23, H_O_23, H_N_23, hp', hq'⟩
        obtain ⟨k_O_23_0, k_O_23_1, k_O_23_2, k_O_23_3, f_O_23, l_O_23⟩ := bk4 H_O_23
        replace H_O_23 := Lib.hid H_O_23
        obtain ⟨k_N_23_0, k_N_23_1, k_N_23_2, k_N_23_3, f_N_23, l_N_23⟩ := bk4 H_N_23
        replace H_N_23 := Lib.hid H_N_23
        have hp := hp'
        clear hp'
        have hq := hq'
        clear hq'
        have hON : w.heap.size + 1 + 1 ≠ w20.heap.size := by omega
        clear TG
        iterate 24 (first | (with_reducible show bodyPost _ _ _ _ _ _) | (with_reducible refine wp_ret ?_) | go_values | go_skip | go_guarded | go_step | go_upon | go_back | skip)
        refine bodyPost_ret (v := .tuple #[.agg #[.bool b9, .slice a9 n9 c9, .bool b10, .slice a10 n10 c10], .bool true]) (by simp [results, Try.results38, go_sem, k_O_23_0, k_O_23_1, k_O_23_2, k_O_23_3]) rfl ⟨_, _, _, _, _, _, _, _, rfl, ?_, ?_, F9, F10, ?_⟩
        all_goals (have HO := H_O_23.out)
        · (repeat' first | (with_reducible first | assumption | (apply Ne.symm; assumption) | apply Nat.le_refl | apply Nat.le_add_right | apply zL | apply zRf | apply Wx.box | apply Wx.box4 | apply zWa | apply Wx.drew | apply zWn | apply bx_drew | apply bx_drewN | apply bx_set3 | apply bx_set2 | apply bx_set4 | apply bx_set1) | ((with_reducible apply bx_new); (focus (go_size; done))) | (with_reducible first | apply zOl | apply zFa | apply zDn | apply zDr | apply zAl | apply zSt | refine zVi (by assumption) ?_ ?_) | go_size | omega)
        · (repeat' first | (with_reducible first | assumption | (apply Ne.symm; assumption) | apply Nat.le_refl | apply Nat.le_add_right | apply zL | apply zRf | apply Wx.box | apply Wx.box4 | apply zWa | apply Wx.drew | apply zWn | apply bx_drew | apply bx_drewN | apply bx_set3 | apply bx_set2 | apply bx_set4 | apply bx_set1) | ((with_reducible apply bx_new); (focus (go_size; done))) | (with_reducible first | apply zOl | apply zFa | apply zDn | apply zDr | apply zAl | apply zSt | refine zVi (by assumption) ?_ ?_) | go_size | omega)
        · (repeat' first | (with_reducible first | assumption | (apply Ne.symm; assumption) | apply Nat.le_refl | apply Nat.le_add_right | apply zL | apply zRf | apply Wx.box | apply Wx.box4 | apply zWa | apply Wx.drew | apply zWn | apply bx_drew | apply bx_drewN | apply bx_set3 | apply bx_set2 | apply bx_set4 | apply bx_set1) | ((with_reducible apply bx_new); (focus (go_size; done))) | (with_reducible first | apply zOl | apply zFa | apply zDn | apply zDr | apply zAl | apply zSt | refine zVi (by assumption) ?_ ?_) | go_size | omega)
      · subst hd
        have TG : ∀ W (b : Bool) (a : Option Addr) (n c : Nat) (b2 : Bool) (a2 : Option Addr) (n2 c2 : Nat), Wx W b a n c p1 → Wx W b2 a2 n2 c2 q1 → Calls Try.prog 20 #[.agg #[.bool b, .slice a n c, .bool b2, .slice a2 n2 c2]] W fun e w' => e = .returned (.bool false) ∧ Below W.heap.size W w' := fun W b a n c b2 a2 n2 c2 h1 h2 => e1 ▸ isRatio_any b b2 a a2 n c n2 c2 p1 q1 W h1 h2
        clear e1 HR TT TS TV TO1 TO2
        go_upto_region 11 with (first | (have _t := tok22; go_at_call 20; (with_reducible refine ((TG _ _ _ _ _ _ _ _ _ (hp.below (by repeat' first | (with_reducible first | apply zRf | assumption | apply zDn | apply zDr | apply zAl | apply zSt | refine zVi (by assumption) ?_ ?_) | go_size)) (hq.below (by repeat' first | (with_reducible first | apply zRf | assumption | apply zDn | apply zDr | apply zAl | apply zSt | refine zVi (by assumption) ?_ ?_) | go_size)))).mono ?_); rintro e w22 ⟨rfl, hb22⟩; clear tok22 _t; have hz22 := hb22.size; (try simp only [World.size_alloc, World.size_setCell, World.size_drew, World.size_drewN'] at hz22); (try (have kq := cellAt hb22 (w.heap.size) (by go_size); have k22_w_0_0 := kq 0; have k22_w_0_1 := kq 1; clear kq; have f22_w_0 := frozAt hb22 (w.heap.size) (by go_size); simp [go_sem, *] at k22_w_0_0 k22_w_0_1 f22_w_0)); (try have l22_w_0 : w.heap.size < w22.heap.size := by omega); (try (have kq := cellAt hb22 (w.heap.size + 1) (by go_size); have k22_w_1_0 := kq 0; have k22_w_1_1 := kq 1; have k22_w_1_2 := kq 2; have k22_w_1_3 := kq 3; clear kq; have f22_w_1 := frozAt hb22 (w.heap.size + 1) (by go_size); simp [go_sem, *] at k22_w_1_0 k22_w_1_1 k22_w_1_2 k22_w_1_3 f22_w_1)); (try have l22_w_1 : w.heap.size + 1 < w22.heap.size := by omega); (try (have kq := cellAt hb22 (w.heap.size + 1 + 1) (by go_size); have k22_w_2_0 := kq 0; have k22_w_2_1 := kq 1; have k22_w_2_2 := kq 2; have k22_w_2_3 := kq 3; clear kq; have f22_w_2 := frozAt hb22 (w.heap.size + 1 + 1) (by go_size); simp [go_sem, *] at k22_w_2_0 k22_w_2_1 k22_w_2_2 k22_w_2_3 f22_w_2)); (try have l22_w_2 : w.heap.size + 1 + 1 < w22.heap.size := by omega); (try (have kq := cellAt hb22 (w20.heap.size) (by go_size); have k22_w20_0_0 := kq 0; have k22_w20_0_1 := kq 1; have k22_w20_0_2 := kq 2; have k22_w20_0_3 := kq 3; clear kq; have f22_w20_0 := frozAt hb22 (w20.heap.size) (by go_size); simp [go_sem, *] at k22_w20_0_0 k22_w20_0_1 k22_w20_0_2 k22_w20_0_3 f22_w20_0)); (try have l22_w20_0 : w20.heap.size < w22.heap.size := by omega); (try clear k18_w_0_0 k18_w_0_1 f18_w_0); (try clear l18_w_0); (try clear k18_w_1_0 k18_w_1_1 k18_w_1_2 k18_w_1_3 f18_w_1); (try clear l18_w_1); (try clear k18_w_2_0 k18_w_2_1 k18_w_2_2 k18_w_2_3 f18_w_2); (try clear l18_w_2); (try clear k19_w_0_0 k19_w_0_1 f19_w_0); (try clear l19_w_0); (try clear k19_w_1_0 k19_w_1_1 k19_w_1_2 k19_w_1_3 f19_w_1); (try clear l19_w_1); (try clear k19_w_2_0 k19_w_2_1 k19_w_2_2 k19_w_2_3 f19_w_2); (try clear l19_w_2); (try clear k20_w_0_0 k20_w_0_1 f20_w_0); (try clear l20_w_0); (try clear k20_w_1_0 k20_w_1_1 k20_w_1_2 k20_w_1_3 f20_w_1); (try clear l20_w_1); (try clear k20_w_2_0 k20_w_2_1 k20_w_2_2 k20_w_2_3 f20_w_2); (try clear l20_w_2); (try clear k21_w_0_0 k21_w_0_1 f21_w_0); (try clear l21_w_0); (try clear k21_w_1_0 k21_w_1_1 k21_w_1_2 k21_w_1_3 f21_w_1); (try clear l21_w_1); (try clear k21_w_2_0 k21_w_2_1 k21_w_2_2 k21_w_2_3 f21_w_2); (try clear l21_w_2); (try clear k21_w20_0_0 k21_w20_0_1 k21_w20_0_2 k21_w20_0_3 f21_w20_0); (try clear l21_w20_0)))
        have H_O_22 := (hb22.block (w.heap.size + 1 + 1) (blk_lt' H_O_21.out)).trans H_O_21.out
        clear k_O_21_0 k_O_21_1 k_O_21_2 k_O_21_3 f_O_21 H_O_21
        obtain ⟨k_O_22_0, k_O_22_1, k_O_22_2, k_O_22_3, f_O_22, l_O_22⟩ := bk4 H_O_22
        replace H_O_22 := Lib.hid H_O_22
        have H_N_22 := (hb22.block (w20.heap.size) (blk_lt' H_N_21.out)).trans H_N_21.out
        clear k_N_21_0 k_N_21_1 k_N_21_2 k_N_21_3 f_N_21 H_N_21
        obtain ⟨k_N_22_0, k_N_22_1, k_N_22_2, k_N_22_3, f_N_22, l_N_22⟩ := bk4 H_N_22
        replace H_N_22 := Lib.hid H_N_22
        replace hp := hp.below hb22
        replace hq := hq.below hb22
        have hB22 : Below w.heap.size w w22 := below_via hb22 (by assumption) (by first | exact hB21.size | go_size)
        replace H_O_22 := H_O_22.out
        replace H_N_22 := H_N_22.out
        refine chk (fun W => Below w.heap.size w W ∧ W.heap[w.heap.size + 1 + 1]? = some (.cells #[.bool false, .slice none 0 0, .bool false, .slice none 0 0] 37 (0, 0))) (by refine ⟨?_, ?_⟩ <;> (repeat' first | (with_reducible first | assumption | (apply Ne.symm; assumption) | apply Nat.le_refl | apply Nat.le_add_right | apply zL | apply zRf | apply Wx.box | apply Wx.box4 | apply zWa | apply Wx.drew | apply zWn | apply bx_drew | apply bx_drewN | apply bx_set3 | apply bx_set2 | apply bx_set4 | apply bx_set1) | ((with_reducible apply bx_new); (focus (go_size; done))) | (with_reducible first | apply zOl | apply zFa | apply zDn | apply zDr | apply zAl | apply zSt | refine zVi (by assumption) ?_ ?_) | go_size | omega)) ?_
        clear k_O_22_0 k_O_22_1 k_O_22_2 k_O_22_3 f_O_22 H_O_22
        clear k_N_22_0 k_N_22_1 k_N_22_2 k_N_22_3 f_N_22 H_N_22
        clear hB22
        rintro w23 ⟨hB23, H_O_23⟩
        obtain ⟨k_O_23_0, k_O_23_1, k_O_23_2, k_O_23_3, f_O_23, l_O_23⟩ := bk4 H_O_23
        replace H_O_23 := Lib.hid H_O_23
        clear TG
        iterate 24 (first | (with_reducible show bodyPost _ _ _ _ _ _) | (with_reducible refine wp_ret ?_) | go_values | go_skip | go_guarded | go_step | go_upon | go_back | skip)
        refine bodyPost_ret (v := .tuple #[.agg #[.bool false, .slice none 0 0, .bool false, .slice none 0 0], .bool false]) (by simp [results, Try.results38, go_sem, k_O_23_0, k_O_23_1, k_O_23_2, k_O_23_3]) rfl ⟨_, _, _, _, _, _, _, _, rfl, Wx.zero' _, Wx.zero' _, fr_none _, fr_none _, ?_⟩
        have HO := H_O_23.out
        (repeat' first | (with_reducible first | assumption | (apply Ne.symm; assumption) | apply Nat.le_refl | apply Nat.le_add_right | apply zL | apply zRf | apply Wx.box | apply Wx.box4 | apply zWa | apply Wx.drew | apply zWn | apply bx_drew | apply bx_drewN | apply bx_set3 | apply bx_set2 | apply bx_set4 | apply bx_set1) | ((with_reducible apply bx_new); (focus (go_size; done))) | (with_reducible first | apply zOl | apply zFa | apply zDn | apply zDr | apply zAl | apply zSt | refine zVi (by assumption) ?_ ?_) | go_size | omega)
    · have hb8f : b8 = false := by rw [hb8n.out]; have := hsg.1; simp [ngB]; omega
      have HR2 := HR.out
      rw [show sgZ s p = p by simp [sgZ, hneg], show sgZ s q = q by simp [sgZ, hneg]] at HR2
      clear HR
      have HR := Lib.hid HR2
      clear HR2
      go_upto_region 9 with (fail)
      clear hb8f
      obtain ⟨b9, rfl⟩ : ∃ b, b = b6 := ⟨_, rfl⟩
      obtain ⟨a9, rfl⟩ : ∃ b, b = a6 := ⟨_, rfl⟩
      obtain ⟨n9, rfl⟩ : ∃ b, b = n6 := ⟨_, rfl⟩
      obtain ⟨c9, rfl⟩ : ∃ b, b = c6 := ⟨_, rfl⟩
      obtain ⟨b10, rfl⟩ : ∃ b, b = b8 := ⟨_, rfl⟩
      obtain ⟨a10, rfl⟩ : ∃ b, b = a8 := ⟨_, rfl⟩
      obtain ⟨n10, rfl⟩ : ∃ b, b = n8 := ⟨_, rfl⟩
      obtain ⟨c10, rfl⟩ : ∃ b, b = c8 := ⟨_, rfl⟩
      obtain ⟨p1, rfl⟩ : ∃ b, b = p := ⟨_, rfl⟩
      obtain ⟨q1, rfl⟩ : ∃ b, b = q := ⟨_, rfl⟩
      have F9 := F6
      have F10 := F8
      have hp := hp6
      have hq := hq8
      clear hp6 hq8 F6 F8
      replace H_O_9 := H_O_9.out
      replace H_T_9 := H_T_9.out
      replace H_D_9 := H_D_9.out
      refine chk (fun W => Below w.heap.size w W ∧ W.heap[w.heap.size + 1 + 1]? = some (.cells #[.bool false, .slice none 0 0, .bool false, .slice none 0 0] 37 (0, 0)) ∧ W.heap[w6.heap.size]? = some (.cells #[.bool b9, .slice a9 n9 c9] 35 (0, 0)) ∧ W.heap[w8.heap.size]? = some (.cells #[.bool b10, .slice a10 n10 c10] 35 (0, 0)) ∧ Wx W b9 a9 n9 c9 p1 ∧ Wx W b10 a10 n10 c10 q1) (by refine ⟨?_, ?_, ?_, ?_, ?_, ?_⟩ <;> (repeat' first | (with_reducible first | assumption | (apply Ne.symm; assumption) | apply Nat.le_refl | apply Nat.le_add_right | apply zL | apply zRf | apply Wx.box | apply Wx.box4 | apply zWa | apply Wx.drew | apply zWn | apply bx_drew | apply bx_drewN | apply bx_set3 | apply bx_set2 | apply bx_set4 | apply bx_set1) | ((with_reducible apply bx_new); (focus (go_size; done))) | (with_reducible first | apply zOl | apply zFa | apply zDn | apply zDr | apply zAl | apply zSt | refine zVi (by assumption) ?_ ?_) | go_size | omega)) ?_
      try clear hp
      try clear hq
      clear k_O_9_0 k_O_9_1 k_O_9_2 k_O_9_3 f_O_9 H_O_9
      clear k_T_9_0 k_T_9_1 f_T_9 H_T_9
      clear k_D_9_0 k_D_9_1 f_D_9 H_D_9
      clear hB9
      rintro w20 ⟨hB20, H_O_20, H_T_20, H_D_20, hp', hq'⟩
      obtain ⟨k_O_20_0, k_O_20_1, k_O_20_2, k_O_20_3, f_O_20, l_O_20⟩ := bk4 H_O_20
      replace H_O_20 := Lib.hid H_O_20
      obtain ⟨k_T_20_0, k_T_20_1, f_T_20, l_T_20⟩ := bk2 H_T_20
      replace H_T_20 := Lib.hid H_T_20
      obtain ⟨k_D_20_0, k_D_20_1, f_D_20, l_D_20⟩ := bk2 H_D_20
      replace H_D_20 := Lib.hid H_D_20
      have hp := hp'
      clear hp'
      have hq := hq'
      clear hq'
      go_upto_region 10 with (fail)
      replace H_O_20 := H_O_20.out
      replace H_T_20 := H_T_20.out
      replace H_D_20 := H_D_20.out
      refine chk (fun W => Below w.heap.size w W ∧ W.heap[w.heap.size + 1 + 1]? = some (.cells #[.bool false, .slice none 0 0, .bool false, .slice none 0 0] 37 (0, 0)) ∧ W.heap[w20.heap.size]? = some (.cells #[.bool b9, .slice a9 n9 c9, .bool b10, .slice a10 n10 c10] 37 (0, 0)) ∧ Wx W b9 a9 n9 c9 p1 ∧ Wx W b10 a10 n10 c10 q1) (by refine ⟨?_, ?_, ?_, ?_, ?_⟩ <;> (repeat' first | (with_reducible first | assumption | (apply Ne.symm; assumption) | apply Nat.le_refl | apply Nat.le_add_right | apply zL | apply zRf | apply Wx.box | apply Wx.box4 | apply zWa | apply Wx.drew | apply zWn | apply bx_drew | apply bx_drewN | apply bx_set3 | apply bx_set2 | apply bx_set4 | apply bx_set1) | ((with_reducible apply bx_new); (focus (go_size; done))) | (with_reducible first | apply zOl | apply zFa | apply zDn | apply zDr | apply zAl | apply zSt | refine zVi (by assumption) ?_ ?_) | go_size | omega)) ?_
      try clear hp
      try clear hq
      clear k_O_20_0 k_O_20_1 k_O_20_2 k_O_20_3 f_O_20 H_O_20
      clear k_T_20_0 k_T_20_1 f_T_20 H_T_20
      clear k_D_20_0 k_D_20_1 f_D_20 H_D_20
      clear hB20
      rintro w21 ⟨hB21, H_O_21, H_N_21, hp', hq'⟩
      obtain ⟨k_O_21_0, k_O_21_1, k_O_21_2, k_O_21_3, f_O_21, l_O_21⟩ := bk4 H_O_21
      replace H_O_21 := Lib.hid H_O_21
      obtain ⟨k_N_21_0, k_N_21_1, k_N_21_2, k_N_21_3, f_N_21, l_N_21⟩ := bk4 H_N_21
      replace H_N_21 := Lib.hid H_N_21
      have hp := hp'
      clear hp'
      have hq := hq'
      clear hq'
      rcases HR.out with ⟨e1, hd⟩ | ⟨e1, hd⟩
      · subst hd
        have TG : ∀ W (b : Bool) (a : Option Addr) (n c : Nat) (b2 : Bool) (a2 : Option Addr) (n2 c2 : Nat), Wx W b a n c p1 → Wx W b2 a2 n2 c2 q1 → Calls Try.prog 20 #[.agg #[.bool b, .slice a n c, .bool b2, .slice a2 n2 c2]] W fun e w' => e = .returned (.bool true) ∧ Below W.heap.size W w' := fun W b a n c b2 a2 n2 c2 h1 h2 => e1 ▸ isRatio_any b b2 a a2 n c n2 c2 p1 q1 W h1 h2
        clear e1 HR TT TS TV TO1 TO2
        go_upto_region 12 with (first | (have _t := tok22; go_at_call 20; (with_reducible refine ((TG _ _ _ _ _ _ _ _ _ (hp.below (by repeat' first | (with_reducible first | apply zRf | assumption | apply zDn | apply zDr | apply zAl | apply zSt | refine zVi (by assumption) ?_ ?_) | go_size)) (hq.below (by repeat' first | (with_reducible first | apply zRf | assumption | apply zDn | apply zDr | apply zAl | apply zSt | refine zVi (by assumption) ?_ ?_) | go_size)))).mono ?_); rintro e w22 ⟨rfl, hb22⟩; clear tok22 _t; have hz22 := hb22.size; (try simp only [World.size_alloc, World.size_setCell, World.size_drew, World.size_drewN'] at hz22); (try (have kq := cellAt hb22 (w.heap.size) (by go_size); have k22_w_0_0 := kq 0; have k22_w_0_1 := kq 1; clear kq; have f22_w_0 := frozAt hb22 (w.heap.size) (by go_size); simp [go_sem, *] at k22_w_0_0 k22_w_0_1 f22_w_0)); (try have l22_w_0 : w.heap.size < w22.heap.size := by omega); (try (have kq := cellAt hb22 (w.heap.size + 1) (by go_size); have k22_w_1_0 := kq 0; have k22_w_1_1 := kq 1; have k22_w_1_2 := kq 2; have k22_w_1_3 := kq 3; clear kq; have f22_w_1 := frozAt hb22 (w.heap.size + 1) (by go_size); simp [go_sem, *] at k22_w_1_0 k22_w_1_1 k22_w_1_2 k22_w_1_3 f22_w_1)); (try have l22_w_1 : w.heap.size + 1 < w22.heap.size := by omega); (try (have kq := cellAt hb22 (w.heap.size + 1 + 1) (by go_size); have k22_w_2_0 := kq 0; have k22_w_2_1 := kq 1; have k22_w_2_2 := kq 2; have k22_w_2_3 := kq 3; clear kq; have f22_w_2 := frozAt hb22 (w.heap.size + 1 + 1) (by go_size); simp [go_sem, *] at k22_w_2_0 k22_w_2_1 k22_w_2_2 k22_w_2_3 f22_w_2)); (try have l22_w_2 : w.heap.size + 1 + 1 < w22.heap.size := by omega); (try (have kq := cellAt hb22 (w20.heap.size) (by go_size); have k22_w20_0_0 := kq 0; have k22_w20_0_1 := kq 1; have k22_w20_0_2 := kq 2; have k22_w20_0_3 := kq 3; clear kq; have f22_w20_0 := frozAt hb22 (w20.heap.size) (by go_size); simp [go_sem, *] at k22_w20_0_0 k22_w20_0_1 k22_w20_0_2 k22_w20_0_3 f22_w20_0)); (try have l22_w20_0 : w20.heap.size < w22.heap.size := by omega); (try clear k18_w_0_0 k18_w_0_1 f18_w_0); (try clear l18_w_0); (try clear k18_w_1_0 k18_w_1_1 k18_w_1_2 k18_w_1_3 f18_w_1); (try clear l18_w_1); (try clear k18_w_2_0 k18_w_2_1 k18_w_2_2 k18_w_2_3 f18_w_2); (try clear l18_w_2); (try clear k19_w_0_0 k19_w_0_1 f19_w_0); (try clear l19_w_0); (try clear k19_w_1_0 k19_w_1_1 k19_w_1_2 k19_w_1_3 f19_w_1); (try clear l19_w_1); (try clear k19_w_2_0 k19_w_2_1 k19_w_2_2 k19_w_2_3 f19_w_2); (try clear l19_w_2); (try clear k20_w_0_0 k20_w_0_1 f20_w_0); (try clear l20_w_0); (try clear k20_w_1_0 k20_w_1_1 k20_w_1_2 k20_w_1_3 f20_w_1); (try clear l20_w_1); (try clear k20_w_2_0 k20_w_2_1 k20_w_2_2 k20_w_2_3 f20_w_2); (try clear l20_w_2); (try clear k21_w_0_0 k21_w_0_1 f21_w_0); (try clear l21_w_0); (try clear k21_w_1_0 k21_w_1_1 k21_w_1_2 k21_w_1_3 f21_w_1); (try clear l21_w_1); (try clear k21_w_2_0 k21_w_2_1 k21_w_2_2 k21_w_2_3 f21_w_2); (try clear l21_w_2); (try clear k21_w20_0_0 k21_w20_0_1 k21_w20_0_2 k21_w20_0_3 f21_w20_0); (try clear l21_w20_0)))
        have H_O_22 := (hb22.block (w.heap.size + 1 + 1) (blk_lt' H_O_21.out)).trans H_O_21.out
        clear k_O_21_0 k_O_21_1 k_O_21_2 k_O_21_3 f_O_21 H_O_21
        obtain ⟨k_O_22_0, k_O_22_1, k_O_22_2, k_O_22_3, f_O_22, l_O_22⟩ := bk4 H_O_22
        replace H_O_22 := Lib.hid H_O_22
        have H_N_22 := (hb22.block (w20.heap.size) (blk_lt' H_N_21.out)).trans H_N_21.out
        clear k_N_21_0 k_N_21_1 k_N_21_2 k_N_21_3 f_N_21 H_N_21
        obtain ⟨k_N_22_0, k_N_22_1, k_N_22_2, k_N_22_3, f_N_22, l_N_22⟩ := bk4 H_N_22
        replace H_N_22 := Lib.hid H_N_22
        replace hp := hp.below hb22
        replace hq := hq.below hb22
        have hB22 : Below w.heap.size w w22 := below_via hb22 (by assumption) (by first | exact hB21.size | go_size)
        replace H_O_22 := H_O_22.out
        replace H_N_22 := H_N_22.out
        refine chk (fun W => Below w.heap.size w W ∧ W.heap[w.heap.size + 1 + 1]? = some (.cells #[.bool false, .slice none 0 0, .bool false, .slice none 0 0] 37 (0, 0)) ∧ W.heap[w20.heap.size]? = some (.cells #[.bool b9, .slice a9 n9 c9, .bool b10, .slice a10 n10 c10] 37 (0, 0)) ∧ Wx W b9 a9 n9 c9 p1 ∧ Wx W b10 a10 n10 c10 q1) (by refine ⟨?_, ?_, ?_, ?_, ?_⟩ <;> (repeat' first | (with_reducible first | assumption | (apply Ne.symm; assumption) | apply Nat.le_refl | apply Nat.le_add_right | apply zL | apply zRf | apply Wx.box | apply Wx.box4 | apply zWa | apply Wx.drew | apply zWn | apply bx_drew | apply bx_drewN | apply bx_set3 | apply bx_set2 | apply bx_set4 | apply bx_set1) | ((with_reducible apply bx_new); (focus (go_size; done))) | (with_reducible first | apply zOl | apply zFa | apply zDn | apply zDr | apply zAl | apply zSt | refine zVi (by assumption) ?_ ?_) | go_size | omega)) ?_
        try clear hp
        try clear hq
        clear k_O_22_0 k_O_22_1 k_O_22_2 k_O_22_3 f_O_22 H_O_22
        clear k_N_22_0 k_N_22_1 k_N_22_2 k_N_22_3 f_N_22 H_N_22
        clear hB22
        rintro w23 ⟨hB23, H_O_23, H_N_23, hp', hq'⟩
        obtain ⟨k_O_23_0, k_O_23_1, k_O_23_2, k_O_23_3, f_O_23, l_O_23⟩ := bk4 H_O_23
        replace H_O_23 := Lib.hid H_O_23
        obtain ⟨k_N_23_0, k_N_23_1, k_N_23_2, k_N_23_3, f_N_23, l_N_23⟩ := bk4 H_N_23
        replace H_N_23 := Lib.hid H_N_23
        have hp := hp'
        clear hp'
        have hq := hq'
        clear hq'
        have hON : w.heap.size + 1 + 1 ≠ w20.heap.size := by omega
        clear TG
        iterate 24 (first | (with_reducible show bodyPost _ _ _ _ _ _) | (with_reducible refine wp_ret ?_) | go_values | go_skip | go_guarded | go_step | go_upon | go_back | skip)
        refine bodyPost_ret (v := .tuple #[.agg #[.bool b9, .slice a9 n9 c9, .bool b10, .slice a10 n10 c10], .bool true]) (by simp [results, Try.results38, go_sem, k_O_23_0, k_O_23_1, k_O_23_2, k_O_23_3]) rfl ⟨_, _, _, _, _, _, _, _, rfl, ?_, ?_, F9, F10, ?_⟩
        all_goals (have HO := H_O_23.out)
        · (repeat' first | (with_reducible first | assumption | (apply Ne.symm; assumption) | apply Nat.le_refl | apply Nat.le_add_right | apply zL | apply zRf | apply Wx.box | apply Wx.box4 | apply zWa | apply Wx.drew | apply zWn | apply bx_drew | apply bx_drewN | apply bx_set3 | apply bx_set2 | apply bx_set4 | apply bx_set1) | ((with_reducible apply bx_new); (focus (go_size; done))) | (with_reducible first | apply zOl | apply zFa | apply zDn | apply zDr | apply zAl | apply zSt | refine zVi (by assumption) ?_ ?_) | go_size | omega)
        · (repeat' first | (with_reducible first | assumption | (apply Ne.symm; assumption) | apply Nat.le_refl | apply Nat.le_add_right | apply zL | apply zRf | apply Wx.box | apply Wx.box4 | apply zWa | apply Wx.drew | apply zWn | apply bx_drew | apply bx_drewN | apply bx_set3 | apply bx_set2 | apply bx_set4 | apply bx_set1) | ((with_reducible apply bx_new); (focus (go_size; done))) | (with_reducible first | apply zOl | apply zFa | apply zDn | apply zDr | apply zAl | apply zSt | refine zVi (by assumption) ?_ ?_) | go_size | omega)
        · (repeat' first | (with_reducible first | assumption | (apply Ne.symm; assumption) | apply Nat.le_refl | apply Nat.le_add_right | apply zL | apply zRf | apply Wx.box | apply Wx.box4 | apply zWa | apply Wx.drew | apply zWn | apply bx_drew | apply bx_drewN | apply bx_set3 | apply bx_set2 | apply bx_set4 | apply bx_set1) | ((with_reducible apply bx_new); (focus (go_size; done))) | (with_reducible first | apply zOl | apply zFa | apply zDn | apply zDr | apply zAl | apply zSt | refine zVi (by assumption) ?_ ?_) | go_size | omega)
      · subst hd
        have TG : ∀ W (b : Bool) (a : Option Addr) (n c : Nat) (b2 : Bool) (a2 : Option Addr) (n2 c2 : Nat), Wx W b a n c p1 → Wx W b2 a2 n2 c2 q1 → Calls Try.prog 20 #[.agg #[.bool b, .slice a n c, .bool b2, .slice a2 n2 c2]] W fun e w' => e = .returned (.bool false) ∧ Below W.heap.size W w' := fun W b a n c b2 a2 n2 c2 h1 h2 => e1 ▸ isRatio_any b b2 a a2 n c n2 c2 p1 q1 W h1 h2
        clear e1 HR TT TS TV TO1 TO2
        go_upto_region 11 with (first | (have _t := tok22; go_at_call 20; (with_reducible refine ((TG _ _ _ _ _ _ _ _ _ (hp.below (by repeat' first | (with_reducible first | apply zRf | assumption | apply zDn | apply zDr | apply zAl | apply zSt | refine zVi (by assumption) ?_ ?_) | go_size)) (hq.below (by repeat' first | (with_reducible first | apply zRf | assumption | apply zDn | apply zDr | apply zAl | apply zSt | refine zVi (by assumption) ?_ ?_) | go_size)))).mono ?_); rintro e w22 ⟨rfl, hb22⟩; clear tok22 _t; have hz22 := hb22.size; (try simp only [World.size_alloc, World.size_setCell, World.size_drew, World.size_drewN'] at hz22); (try (have kq := cellAt hb22 (w.heap.size) (by go_size); have k22_w_0_0 := kq 0; have k22_w_0_1 := kq 1; clear kq; have f22_w_0 := frozAt hb22 (w.heap.size) (by go_size); simp [go_sem, *] at k22_w_0_0 k22_w_0_1 f22_w_0)); (try have l22_w_0 : w.heap.size < w22.heap.size := by omega); (try (have kq := cellAt hb22 (w.heap.size + 1) (by go_size); have k22_w_1_0 := kq 0; have k22_w_1_1 := kq 1; have k22_w_1_2 := kq 2; have k22_w_1_3 := kq 3; clear kq; have f22_w_1 := frozAt hb22 (w.heap.size + 1) (by go_size); simp [go_sem, *] at k22_w_1_0 k22_w_1_1 k22_w_1_2 k22_w_1_3 f22_w_1)); (try have l22_w_1 : w.heap.size + 1 < w22.heap.size := by omega); (try (have kq := cellAt hb22 (w.heap.size + 1 + 1) (by go_size); have k22_w_2_0 := kq 0; have k22_w_2_1 := kq 1; have k22_w_2_2 := kq 2; have k22_w_2_3 := kq 3; clear kq; have f22_w_2 := frozAt hb22 (w.heap.size + 1 + 1) (by go_size); simp [go_sem, *] at k22_w_2_0 k22_w_2_1 k22_w_2_2 k22_w_2_3 f22_w_2)); (try have l22_w_2 : w.heap.size + 1 + 1 < w22.heap.size := by omega); (try (have kq := cellAt hb22 (w20.heap.size) (by go_size); have k22_w20_0_0 := kq 0; have k22_w20_0_1 := kq 1; have k22_w20_0_2 := kq 2; have k22_w20_0_3 := kq 3; clear kq; have f22_w20_0 := frozAt hb22 (w20.heap.size) (by go_size); simp [go_sem, *] at k22_w20_0_0 k22_w20_0_1 k22_w20_0_2 k22_w20_0_3 f22_w20_0)); (try have l22_w20_0 : w20.heap.size < w22.heap.size := by omega); (try clear k18_w_0_0 k18_w_0_1 f18_w_0); (try clear l18_w_0); (try clear k18_w_1_0 k18_w_1_1 k18_w_1_2 k18_w_1_3 f18_w_1); (try clear l18_w_1); (try clear k18_w_2_0 k18_w_2_1 k18_w_2_2 k18_w_2_3 f18_w_2); (try clear l18_w_2); (try clear k19_w_0_0 k19_w_0_1 f19_w_0); (try clear l19_w_0); (try clear k19_w_1_0 k19_w_1_1 k19_w_1_2 k19_w_1_3 f19_w_1); (try clear l19_w_1); (try clear k19_w_2_0 k19_w_2_1 k19_w_2_2 k19_w_2_3 f19_w_2); (try clear l19_w_2); (try clear k20_w_0_0 k20_w_0_1 f20_w_0); (try clear l20_w_0); (try clear k20_w_1_0 k20_w_1_1 k20_w_1_2 k20_w_1_3 f20_w_1); (try clear l20_w_1); (try clear k20_w_2_0 k20_w_2_1 k20_w_2_2 k20_w_2_3 f20_w_2); (try clear l20_w_2); (try clear k21_w_0_0 k21_w_0_1 f21_w_0); (try clear l21_w_0); (try clear k21_w_1_0 k21_w_1_1 k21_w_1_2 k21_w_1_3 f21_w_1); (try clear l21_w_1); (try clear k21_w_2_0 k21_w_2_1 k21_w_2_2 k21_w_2_3 f21_w_2); (try clear l21_w_2); (try clear k21_w20_0_0 k21_w20_0_1 k21_w20_0_2 k21_w20_0_3 f21_w20_0); (try clear l21_w20_0)))
        have H_O_22 := (hb22.block (w.heap.size + 1 + 1) (blk_lt' H_O_21.out)).trans H_O_21.out
        clear k_O_21_0 k_O_21_1 k_O_21_2 k_O_21_3 f_O_21 H_O_21
        obtain ⟨k_O_22_0, k_O_22_1, k_O_22_2, k_O_22_3, f_O_22, l_O_22⟩ := bk4 H_O_22
        replace H_O_22 := Lib.hid H_O_22
        have H_N_22 := (hb22.block (w20.heap.size) (blk_lt' H_N_21.out)).trans H_N_21.out
        clear k_N_21_0 k_N_21_1 k_N_21_2 k_N_21_3 f_N_21 H_N_21
        obtain ⟨k_N_22_0, k_N_22_1, k_N_22_2, k_N_22_3, f_N_22, l_N_22⟩ := bk4 H_N_22
        replace H_N_22 := Lib.hid H_N_22
        replace hp := hp.below hb22
        replace hq := hq.below hb22
        have hB22 : Below w.heap.size w w22 := below_via hb22 (by assumption) (by first | exact hB21.size | go_size)
        replace H_O_22 := H_O_22.out
        replace H_N_22 := H_N_22.out
        refine chk (fun W => Below w.heap.size w W ∧ W.heap[w.heap.size + 1 + 1]? = some (.cells #[.bool false, .slice none 0 0, .bool false, .slice none 0 0] 37 (0, 0))) (by refine ⟨?_, ?_⟩ <;> (repeat' first | (with_reducible first | assumption | (apply Ne.symm; assumption) | apply Nat.le_refl | apply Nat.le_add_right | apply zL | apply zRf | apply Wx.box | apply Wx.box4 | apply zWa | apply Wx.drew | apply zWn | apply bx_drew | apply bx_drewN | apply bx_set3 | apply bx_set2 | apply bx_set4 | apply bx_set1) | ((with_reducible apply bx_new); (focus (go_size; done))) | (with_reducible first | apply zOl | apply zFa | apply zDn | apply zDr | apply zAl | apply zSt | refine zVi (by assumption) ?_ ?_) | go_size | omega)) ?_
        clear k_O_22_0 k_O_22_1 k_O_22_2 k_O_22_3 f_O_22 H_O_22
        clear k_N_22_0 k_N_22_1 k_N_22_2 k_N_22_3 f_N_22 H_N_22
        clear hB22
        rintro w23 ⟨hB23, H_O_23⟩
        obtain ⟨k_O_23_0, k_O_23_1, k_O_23_2, k_O_23_3, f_O_23, l_O_23⟩ := bk4 H_O_23
        replace H_O_23 := Lib.hid H_O_23
        clear TG
        iterate 24 (first | (with_reducible show bodyPost _ _ _ _ _ _) | (with_reducible refine wp_ret ?_) | go_values | go_skip | go_guarded | go_step | go_upon | go_back | skip)
        refine bodyPost_ret (v := .tuple #[.agg #[.bool false, .slice none 0 0, .bool false, .slice none 0 0], .bool false]) (by simp [results, Try.results38, go_sem, k_O_23_0, k_O_23_1, k_O_23_2, k_O_23_3]) rfl ⟨_, _, _, _, _, _, _, _, rfl, Wx.zero' _, Wx.zero' _, fr_none _, fr_none _, ?_⟩
        have HO := H_O_23.out
        (repeat' first | (with_reducible first | assumption | (apply Ne.symm; assumption) | apply Nat.le_refl | apply Nat.le_add_right | apply zL | apply zRf | apply Wx.box | apply Wx.box4 | apply zWa | apply Wx.drew | apply zWn | apply bx_drew | apply bx_drewN | apply bx_set3 | apply bx_set2 | apply bx_set4 | apply bx_set1) | ((with_reducible apply bx_new); (focus (go_size; done))) | (with_reducible first | apply zOl | apply zFa | apply zDn | apply zDr | apply zAl | apply zSt | refine zVi (by assumption) ?_ ?_) | go_size | omega)
end Go.Proofs.Ytijpfnkhaldfeaa
