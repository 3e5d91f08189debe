/- Sums and products of whole numbers: the program. -/
import Derived.Test.YtijpfnkhaldfeaaWi0
import Derived.Test.YtijpfnkhaldfeaaBg3
namespace Go.Proofs.Ytijpfnkhaldfeaa
open Go.RowKit
set_option linter.unusedVariables false
set_option maxHeartbeats 1000000
set_option maxRecDepth 20000
set_option linter.unusedSimpArgs false
attribute [local go_sem] openAt openUpon
theorem addWholes_eq {b b2 : Bool} {a a2 : Option Addr} {n c n2 c2 : Nat} {x y v : Int} {w : World} (hs : Wx w b a n c x) (hs2 : Wx w b2 a2 n2 c2 y) (e : x + y = v) (l1 : ln x ≤ 10000) (l2 : ln y ≤ 10000) :
    Calls Try.prog 66 #[.agg #[.bool b, .slice a n c], .agg #[.bool b2, .slice a2 n2 c2]] w (NewW w v) := by
  have hl : n ≤ 10000 := by have := hs.ln; omega
  have hl2 : n2 ≤ 10000 := by have := hs2.ln; omega
  have TC : ∀ {b b2 : Bool} {a a2 : Option Addr} {n c n2 c2 : Nat} {x y : Int} (W : World) (s V : Int), Wx W b a n c x → Wx W b2 a2 n2 c2 y → n ≤ 10000 → n2 ≤ 10000 → (s = 1 ∨ s = -1) → (s = -1 → ab y ≤ ab x) → ab x + s * ab y = V → Calls Try.prog 72 #[.slice a n c, .slice a2 n2 c2, .int .i64 s] W (NewD W V 90001) := fun {b b2 a a2 n c n2 c2 x y} W s V h1 h2 g1 g2 h3 h4 h5 => by
    have := addLimbs_any a a2 n c n2 c2 s _ _ W h1.row h2.row (limbs_dig _) (limbs_dig _) (by omega) (by omega) h3 (by rw [val_ab', val_ab']; exact h4)
    rwa [val_ab', val_ab', h5] at this
  have TM : ∀ (W : World) (b : Bool) (V z : Int) (a : Option Addr) (n c : Nat) (zs : List Int), Sx W a n c zs → Dig zs → val zs = V → n ≤ 100001 → mkW b V = z → Calls Try.prog 65 #[.bool b, .slice a n c] W (NewW W z) := fun W b V z a n c zs h1 h2 h3 h4 h5 => by
    have := trimmed_any b a n c zs W h1 (by omega) h2
    rw [h3, h5] at this
    exact this
  have hn := hs.neg
  have hn2 := hs2.neg
  have E := Lib.hid e
  clear e
  by_cases hsame : b = b2
  · have E1 := Lib.hid (show mkW b (ab x + ab y) = v by rw [hn, add_same (by rw [← hn, ← hn2, hsame]), E.out])
    subst hsame
    have P1 := Lib.hid (show ab x + 1 * ab y = ab x + ab y by omega)
    clear hn hn2
    go_enter Try.func66, Try.ntmps66
    go_wp2_with fail
    refine chk (fun W => Below w.heap.size w W ∧ W.heap[w.heap.size]? = some (.cells #[.bool b, .slice a n c] 35 (0, 0)) ∧ W.heap[w.heap.size + 1]? = some (.cells #[.bool b, .slice a2 n2 c2] 35 (0, 0)) ∧ W.heap[w.heap.size + 1 + 1]? = some (.cells #[.bool false, .slice none 0 0] 35 (0, 0)) ∧ Wx W b a n c x ∧ Wx W b a2 n2 c2 y) (by refine ⟨?_, ?_, ?_, ?_, ?_, ?_⟩ <;> (repeat' first | (with_reducible first | assumption | (apply Ne.symm; assumption) | apply Nat.le_refl | apply Nat.le_add_right | apply zL | apply zRf | apply Wx.box | apply Wx.box4 | apply zWa | apply Wx.drew | apply zWn | apply bx_drew | apply bx_drewN | apply bx_set3 | apply bx_set2 | apply bx_set4 | apply bx_set1) | ((with_reducible apply bx_new); (focus (go_size; done))) | (with_reducible first | apply zOl | apply zFa | apply zDn | apply zDr | apply zAl | apply zSt | refine zVi (by assumption) ?_ ?_) | go_size | omega)) ?_
    try clear hs
    try clear hs2
    rintro w1 ⟨hB1, H_C_1, H_D_1, H_O_1, hs', hs2'⟩
    obtain ⟨k_C_1_0, k_C_1_1, f_C_1, l_C_1⟩ := bk2 H_C_1
    replace H_C_1 := Lib.hid H_C_1
    obtain ⟨k_D_1_0, k_D_1_1, f_D_1, l_D_1⟩ := bk2 H_D_1
    replace H_D_1 := Lib.hid H_D_1
    obtain ⟨k_O_1_0, k_O_1_1, f_O_1, l_O_1⟩ := bk2 H_O_1
    replace H_O_1 := Lib.hid H_O_1
    have hs := hs'
    clear hs'
    have hs2 := hs2'
    clear hs2'
    refine wp_open (n := 8) (by kernel_rfl) (by kernel_rfl) (by kernel_rfl) (by kernel_rfl) ?_
    simp only [List.take_succ_cons, List.take_zero]
    apply wpS_quiet
    · intro γ W hW hp
      refine ⟨rfl, ?_⟩
      go_big_quiet_op
      first | exact rfl
    · exact locS_const _
    try simp only [Act.put, List.setIfInBounds_toArray, List.set_cons_succ, List.set_cons_zero, Nat.reduceAdd]
    apply wpS_quiet
    · intro γ W hW hp
      have hs := hW.size
      (try simp only [World.size_alloc, World.size_setCell, World.size_drew, World.size_drewN'] at hs)
      have kx_0 := fun x : Over W => ((cellAt x.lies (w.heap.size) (by omega) 0).trans (cellAt hW (w.heap.size) (by first | omega | go_size) 0)).trans k_C_1_0
      have kx_1 := fun x : Over W => ((cellAt x.lies (w.heap.size) (by omega) 1).trans (cellAt hW (w.heap.size) (by first | omega | go_size) 1)).trans k_C_1_1
      clear hW hp
      refine ⟨rfl, ?_⟩
      go_big_quiet_op
      first | exact rfl
    · exact locS_const _
    try simp only [Act.put, List.setIfInBounds_toArray, List.set_cons_succ, List.set_cons_zero, Nat.reduceAdd]
    apply wpS_quiet
    · intro γ W hW hp
      refine ⟨rfl, ?_⟩
      go_big_quiet_op
      first | exact rfl
    · exact locS_const _
    try simp only [Act.put, List.setIfInBounds_toArray, List.set_cons_succ, List.set_cons_zero, Nat.reduceAdd]
    apply wpS_quiet
    · intro γ W hW hp
      have hs := hW.size
      (try simp only [World.size_alloc, World.size_setCell, World.size_drew, World.size_drewN'] at hs)
      have kx_0 := fun x : Over W => ((cellAt x.lies (w.heap.size) (by omega) 0).trans (cellAt hW (w.heap.size) (by first | omega | go_size) 0)).trans k_C_1_0
      have kx_1 := fun x : Over W => ((cellAt x.lies (w.heap.size) (by omega) 1).trans (cellAt hW (w.heap.size) (by first | omega | go_size) 1)).trans k_C_1_1
      clear hW hp
      refine ⟨rfl, ?_⟩
      go_big_quiet_op
      first | exact rfl
    · exact locS_const _
    try simp only [Act.put, List.setIfInBounds_toArray, List.set_cons_succ, List.set_cons_zero, Nat.reduceAdd]
    apply wpS_quiet
    · intro γ W hW hp
      refine ⟨rfl, ?_⟩
      go_big_quiet_op
      first | exact rfl
    · exact locS_const _
    try simp only [Act.put, List.setIfInBounds_toArray, List.set_cons_succ, List.set_cons_zero, Nat.reduceAdd]
    apply wpS_quiet
    · intro γ W hW hp
      have hs := hW.size
      (try simp only [World.size_alloc, World.size_setCell, World.size_drew, World.size_drewN'] at hs)
      have kx_0 := fun x : Over W => ((cellAt x.lies (w.heap.size + 1) (by omega) 0).trans (cellAt hW (w.heap.size + 1) (by first | omega | go_size) 0)).trans k_D_1_0
      have kx_1 := fun x : Over W => ((cellAt x.lies (w.heap.size + 1) (by omega) 1).trans (cellAt hW (w.heap.size + 1) (by first | omega | go_size) 1)).trans k_D_1_1
      clear hW hp
      refine ⟨rfl, ?_⟩
      go_big_quiet_op
      first | exact rfl
    · exact locS_const _
    try simp only [Act.put, List.setIfInBounds_toArray, List.set_cons_succ, List.set_cons_zero, Nat.reduceAdd]
    apply wpS_open (openD w.heap.size (ab x + ab y) 90001)
    · intro γ W hW hp
      refine ⟨rfl, ?_⟩
      go_simp
      refine plainNew rfl ?_
      exact open_D (TC W 1 _ (hs.below hW) (hs2.below hW) hl hl2 (.inl rfl) (fun e => by omega) P1.out) (by (have := hW.size; (try simp only [World.size_alloc, World.size_setCell, World.size_drew, World.size_drewN'] at this); omega))
    try simp only [Act.put, List.setIfInBounds_toArray, List.set_cons_succ, List.set_cons_zero, Nat.reduceAdd]
    apply wpS_open (openW w.heap.size v)
    · intro γ W hW hp
      have hp_6 := hp _ (List.mem_append_right _ (List.mem_singleton.2 rfl)) (by kernel_rfl)
      dsimp only at hp_6
      refine ⟨rfl, ?_⟩
      go_simp
      refine plainNew rfl ?_
      obtain ⟨a6, n6, c6, zs6, e6, h6, d6, v6, m6, _⟩ := hp_6
      rw [e6]
      exact open_W (TM _ _ _ _ _ _ _ _ h6 d6 v6 (by omega) E1.out) (by (have := hW.size; (try simp only [World.size_alloc, World.size_setCell, World.size_drew, World.size_drewN'] at this); omega))
    try simp only [Act.put, List.setIfInBounds_toArray, List.set_cons_succ, List.set_cons_zero, Nat.reduceAdd]
    apply wpS_end
    intro γ w2 hb2 hG2 hA2
    have hg2_6 := hG2 _ (List.mem_append_left _ (List.mem_append_right _ (List.mem_singleton.2 rfl)))
    dsimp only at hg2_6
    have hg2_7 := hG2 _ (List.mem_append_right _ (List.mem_singleton.2 rfl))
    dsimp only at hg2_7
    clear hG2 hA2
    simp only [List.drop_succ_cons, List.drop_zero]
    have hz2 := hb2.size
    (try simp only [World.size_alloc, World.size_setCell, World.size_drew, World.size_drewN'] at hz2)
    obtain ⟨b7, a7, n7, c7, e7, h7, f7⟩ := hg2_7
    simp only [e7]
    clear e7 hg2_6
    have H_C_2 := (hb2.block (w.heap.size) (blk_lt' H_C_1.out)).trans H_C_1.out
    clear k_C_1_0 k_C_1_1 f_C_1 H_C_1
    obtain ⟨k_C_2_0, k_C_2_1, f_C_2, l_C_2⟩ := bk2 H_C_2
    replace H_C_2 := Lib.hid H_C_2
    have H_D_2 := (hb2.block (w.heap.size + 1) (blk_lt' H_D_1.out)).trans H_D_1.out
    clear k_D_1_0 k_D_1_1 f_D_1 H_D_1
    obtain ⟨k_D_2_0, k_D_2_1, f_D_2, l_D_2⟩ := bk2 H_D_2
    replace H_D_2 := Lib.hid H_D_2
    have H_O_2 := (hb2.block (w.heap.size + 1 + 1) (blk_lt' H_O_1.out)).trans H_O_1.out
    clear k_O_1_0 k_O_1_1 f_O_1 H_O_1
    obtain ⟨k_O_2_0, k_O_2_1, f_O_2, l_O_2⟩ := bk2 H_O_2
    replace H_O_2 := Lib.hid H_O_2
    replace hs := hs.below hb2
    replace hs2 := hs2.below hb2
    have hB2 : Below w.heap.size w w2 := below_via hb2 (by assumption) (by first | exact hB1.size | go_size)
    go_wp2_with fail
    refine bodyPost_ret (v := .agg #[.bool b7, .slice a7 n7 c7]) (by simp [results, Try.results66, go_sem, k_O_2_0, k_O_2_1]) rfl ⟨_, _, _, _, rfl, ?_, f7, ?_⟩
    · have HO := H_O_2.out
      (repeat' first | (with_reducible first | assumption | (apply Ne.symm; assumption) | apply Nat.le_refl | apply Nat.le_add_right | apply zL | apply zRf | apply Wx.box | apply Wx.box4 | apply zWa | apply Wx.drew | apply zWn | apply bx_drew | apply bx_drewN | apply bx_set3 | apply bx_set2 | apply bx_set4 | apply bx_set1) | ((with_reducible apply bx_new); (focus (go_size; done))) | (with_reducible first | apply zOl | apply zFa | apply zDn | apply zDr | apply zAl | apply zSt | refine zVi (by assumption) ?_ ?_) | go_size | omega)
    · (repeat' first | (with_reducible first | assumption | (apply Ne.symm; assumption) | apply Nat.le_refl | apply Nat.le_add_right | apply zL | apply zRf | apply Wx.box | apply Wx.box4 | apply zWa | apply Wx.drew | apply zWn | apply bx_drew | apply bx_drewN | apply bx_set3 | apply bx_set2 | apply bx_set4 | apply bx_set1) | ((with_reducible apply bx_new); (focus (go_size; done))) | (with_reducible first | apply zOl | apply zFa | apply zDn | apply zDr | apply zAl | apply zSt | refine zVi (by assumption) ?_ ?_) | go_size | omega)
  · have hb : (b == b2) = false := by simpa using hsame
    have hne : ngB x ≠ ngB y := by rw [← hn, ← hn2]; exact hsame
    by_cases hge : ab y ≤ ab x
    · have E1 := Lib.hid (show mkW b (ab x - ab y) = v by rw [hn, add_other hne hge, E.out])
      have P1 := Lib.hid (show ab x + -1 * ab y = ab x - ab y by omega)
      have HG := Lib.hid hge
      have hcm : ¬ cmpI (ab x) (ab y) < 0 := by
        unfold cmpI
        split
        · omega
        · split <;> omega
      have T3 := fun (W : World) (h1 : Wx W b a n c x) (h2 : Wx W b2 a2 n2 c2 y) => Lib.hid (compareSizes_any b b2 a a2 n c n2 c2 x y W h1 h2 (by omega) (by omega))
      generalize cmpI (ab x) (ab y) = cm at *
      clear hn hn2 hne hge hsame
      have tok1 : True := trivial
      have tok2 : True := trivial
      go_enter Try.func66, Try.ntmps66
      go_upto_region 1 with (fail)
      refine chk (fun W => Below w.heap.size w W ∧ W.heap[w.heap.size]? = some (.cells #[.bool b, .slice a n c] 35 (0, 0)) ∧ W.heap[w.heap.size + 1]? = some (.cells #[.bool b2, .slice a2 n2 c2] 35 (0, 0)) ∧ W.heap[w.heap.size + 1 + 1]? = some (.cells #[.bool false, .slice none 0 0] 35 (0, 0)) ∧ Wx W b a n c x ∧ Wx W b2 a2 n2 c2 y) (by refine ⟨?_, ?_, ?_, ?_, ?_, ?_⟩ <;> (repeat' first | (with_reducible first | assumption | (apply Ne.symm; assumption) | apply Nat.le_refl | apply Nat.le_add_right | apply zL | apply zRf | apply Wx.box | apply Wx.box4 | apply zWa | apply Wx.drew | apply zWn | apply bx_drew | apply bx_drewN | apply bx_set3 | apply bx_set2 | apply bx_set4 | apply bx_set1) | ((with_reducible apply bx_new); (focus (go_size; done))) | (with_reducible first | apply zOl | apply zFa | apply zDn | apply zDr | apply zAl | apply zSt | refine zVi (by assumption) ?_ ?_) | go_size | omega)) ?_
      try clear hs
      try clear hs2
      rintro w1 ⟨hB1, H_C_1, H_D_1, H_O_1, hs', hs2'⟩
      obtain ⟨k_C_1_0, k_C_1_1, f_C_1, l_C_1⟩ := bk2 H_C_1
      replace H_C_1 := Lib.hid H_C_1
      obtain ⟨k_D_1_0, k_D_1_1, f_D_1, l_D_1⟩ := bk2 H_D_1
      replace H_D_1 := Lib.hid H_D_1
      obtain ⟨k_O_1_0, k_O_1_1, f_O_1, l_O_1⟩ := bk2 H_O_1
      replace H_O_1 := Lib.hid H_O_1
      have hs := hs'
      clear hs'
      have hs2 := hs2'
      clear hs2'
      go_wp2_with (first | (have _t := tok2; go_at_call 73; (with_reducible refine ((T3 _ hs hs2).out).mono ?_); rintro e w2 ⟨rfl, hb2⟩; clear tok2 _t; have hz2 := hb2.size; (try simp only [World.size_alloc, World.size_setCell, World.size_drew, World.size_drewN'] at hz2); (try (have kq := cellAt hb2 (w.heap.size) (by go_size); have k2_w_0_0 := kq 0; have k2_w_0_1 := kq 1; clear kq; have f2_w_0 := frozAt hb2 (w.heap.size) (by go_size); simp [go_sem, *] at k2_w_0_0 k2_w_0_1 f2_w_0)); (try have l2_w_0 : w.heap.size < w2.heap.size := by omega); (try (have kq := cellAt hb2 (w.heap.size + 1) (by go_size); have k2_w_1_0 := kq 0; have k2_w_1_1 := kq 1; clear kq; have f2_w_1 := frozAt hb2 (w.heap.size + 1) (by go_size); simp [go_sem, *] at k2_w_1_0 k2_w_1_1 f2_w_1)); (try have l2_w_1 : w.heap.size + 1 < w2.heap.size := by omega); (try (have kq := cellAt hb2 (w.heap.size + 1 + 1) (by go_size); have k2_w_2_0 := kq 0; have k2_w_2_1 := kq 1; clear kq; have f2_w_2 := frozAt hb2 (w.heap.size + 1 + 1) (by go_size); simp [go_sem, *] at k2_w_2_0 k2_w_2_1 f2_w_2)); (try have l2_w_2 : w.heap.size + 1 + 1 < w2.heap.size := by omega); (try clear k1_w_0_0 k1_w_0_1 f1_w_0); (try clear l1_w_0); (try clear k1_w_1_0 k1_w_1_1 f1_w_1); (try clear l1_w_1); (try clear k1_w_2_0 k1_w_2_1 f1_w_2); (try clear l1_w_2)))
      have H_C_2 := (hb2.block (w.heap.size) (blk_lt' H_C_1.out)).trans H_C_1.out
      clear k_C_1_0 k_C_1_1 f_C_1 H_C_1
      obtain ⟨k_C_2_0, k_C_2_1, f_C_2, l_C_2⟩ := bk2 H_C_2
      replace H_C_2 := Lib.hid H_C_2
      have H_D_2 := (hb2.block (w.heap.size + 1) (blk_lt' H_D_1.out)).trans H_D_1.out
      clear k_D_1_0 k_D_1_1 f_D_1 H_D_1
      obtain ⟨k_D_2_0, k_D_2_1, f_D_2, l_D_2⟩ := bk2 H_D_2
      replace H_D_2 := Lib.hid H_D_2
      have H_O_2 := (hb2.block (w.heap.size + 1 + 1) (blk_lt' H_O_1.out)).trans H_O_1.out
      clear k_O_1_0 k_O_1_1 f_O_1 H_O_1
      obtain ⟨k_O_2_0, k_O_2_1, f_O_2, l_O_2⟩ := bk2 H_O_2
      replace H_O_2 := Lib.hid H_O_2
      replace hs := hs.below hb2
      replace hs2 := hs2.below hb2
      have hB2 : Below w.heap.size w w2 := below_via hb2 (by assumption) (by first | exact hB1.size | go_size)
      refine wp_open (n := 8) (by kernel_rfl) (by kernel_rfl) (by kernel_rfl) (by kernel_rfl) ?_
      simp only [List.take_succ_cons, List.take_zero]
      apply wpS_quiet
      · intro γ W hW hp
        refine ⟨rfl, ?_⟩
        go_big_quiet_op
        first | exact rfl
      · exact locS_const _
      try simp only [Act.put, List.setIfInBounds_toArray, List.set_cons_succ, List.set_cons_zero, Nat.reduceAdd]
      apply wpS_quiet
      · intro γ W hW hp
        have hs := hW.size
        (try simp only [World.size_alloc, World.size_setCell, World.size_drew, World.size_drewN'] at hs)
        have kx_0 := fun x : Over W => ((cellAt x.lies (w.heap.size) (by omega) 0).trans (cellAt hW (w.heap.size) (by first | omega | go_size) 0)).trans k_C_2_0
        have kx_1 := fun x : Over W => ((cellAt x.lies (w.heap.size) (by omega) 1).trans (cellAt hW (w.heap.size) (by first | omega | go_size) 1)).trans k_C_2_1
        clear hW hp
        refine ⟨rfl, ?_⟩
        go_big_quiet_op
        first | exact rfl
      · exact locS_const _
      try simp only [Act.put, List.setIfInBounds_toArray, List.set_cons_succ, List.set_cons_zero, Nat.reduceAdd]
      apply wpS_quiet
      · intro γ W hW hp
        refine ⟨rfl, ?_⟩
        go_big_quiet_op
        first | exact rfl
      · exact locS_const _
      try simp only [Act.put, List.setIfInBounds_toArray, List.set_cons_succ, List.set_cons_zero, Nat.reduceAdd]
      apply wpS_quiet
      · intro γ W hW hp
        have hs := hW.size
        (try simp only [World.size_alloc, World.size_setCell, World.size_drew, World.size_drewN'] at hs)
        have kx_0 := fun x : Over W => ((cellAt x.lies (w.heap.size) (by omega) 0).trans (cellAt hW (w.heap.size) (by first | omega | go_size) 0)).trans k_C_2_0
        have kx_1 := fun x : Over W => ((cellAt x.lies (w.heap.size) (by omega) 1).trans (cellAt hW (w.heap.size) (by first | omega | go_size) 1)).trans k_C_2_1
        clear hW hp
        refine ⟨rfl, ?_⟩
        go_big_quiet_op
        first | exact rfl
      · exact locS_const _
      try simp only [Act.put, List.setIfInBounds_toArray, List.set_cons_succ, List.set_cons_zero, Nat.reduceAdd]
      apply wpS_quiet
      · intro γ W hW hp
        refine ⟨rfl, ?_⟩
        go_big_quiet_op
        first | exact rfl
      · exact locS_const _
      try simp only [Act.put, List.setIfInBounds_toArray, List.set_cons_succ, List.set_cons_zero, Nat.reduceAdd]
      apply wpS_quiet
      · intro γ W hW hp
        have hs := hW.size
        (try simp only [World.size_alloc, World.size_setCell, World.size_drew, World.size_drewN'] at hs)
        have kx_0 := fun x : Over W => ((cellAt x.lies (w.heap.size + 1) (by omega) 0).trans (cellAt hW (w.heap.size + 1) (by first | omega | go_size) 0)).trans k_D_2_0
        have kx_1 := fun x : Over W => ((cellAt x.lies (w.heap.size + 1) (by omega) 1).trans (cellAt hW (w.heap.size + 1) (by first | omega | go_size) 1)).trans k_D_2_1
        clear hW hp
        refine ⟨rfl, ?_⟩
        go_big_quiet_op
        first | exact rfl
      · exact locS_const _
      try simp only [Act.put, List.setIfInBounds_toArray, List.set_cons_succ, List.set_cons_zero, Nat.reduceAdd]
      apply wpS_open (openD w.heap.size (ab x - ab y) 90001)
      · intro γ W hW hp
        refine ⟨rfl, ?_⟩
        go_simp
        refine plainNew rfl ?_
        exact open_D (TC W (-1) _ (hs.below hW) (hs2.below hW) hl hl2 (.inr rfl) (fun e => HG.out) P1.out) (by (have := hW.size; (try simp only [World.size_alloc, World.size_setCell, World.size_drew, World.size_drewN'] at this); omega))
      try simp only [Act.put, List.setIfInBounds_toArray, List.set_cons_succ, List.set_cons_zero, Nat.reduceAdd]
      apply wpS_open (openW w.heap.size v)
      · intro γ W hW hp
        have hp_6 := hp _ (List.mem_append_right _ (List.mem_singleton.2 rfl)) (by kernel_rfl)
        dsimp only at hp_6
        refine ⟨rfl, ?_⟩
        go_simp
        refine plainNew rfl ?_
        obtain ⟨a6, n6, c6, zs6, e6, h6, d6, v6, m6, _⟩ := hp_6
        rw [e6]
        exact open_W (TM _ _ _ _ _ _ _ _ h6 d6 v6 (by omega) E1.out) (by (have := hW.size; (try simp only [World.size_alloc, World.size_setCell, World.size_drew, World.size_drewN'] at this); omega))
      try simp only [Act.put, List.setIfInBounds_toArray, List.set_cons_succ, List.set_cons_zero, Nat.reduceAdd]
      apply wpS_end
      intro γ w3 hb3 hG3 hA3
      have hg3_6 := hG3 _ (List.mem_append_left _ (List.mem_append_right _ (List.mem_singleton.2 rfl)))
      dsimp only at hg3_6
      have hg3_7 := hG3 _ (List.mem_append_right _ (List.mem_singleton.2 rfl))
      dsimp only at hg3_7
      clear hG3 hA3
      simp only [List.drop_succ_cons, List.drop_zero]
      have hz3 := hb3.size
      (try simp only [World.size_alloc, World.size_setCell, World.size_drew, World.size_drewN'] at hz3)
      obtain ⟨b7, a7, n7, c7, e7, h7, f7⟩ := hg3_7
      simp only [e7]
      clear e7 hg3_6
      have H_C_3 := (hb3.block (w.heap.size) (blk_lt' H_C_2.out)).trans H_C_2.out
      clear k_C_2_0 k_C_2_1 f_C_2 H_C_2
      obtain ⟨k_C_3_0, k_C_3_1, f_C_3, l_C_3⟩ := bk2 H_C_3
      replace H_C_3 := Lib.hid H_C_3
      have H_D_3 := (hb3.block (w.heap.size + 1) (blk_lt' H_D_2.out)).trans H_D_2.out
      clear k_D_2_0 k_D_2_1 f_D_2 H_D_2
      obtain ⟨k_D_3_0, k_D_3_1, f_D_3, l_D_3⟩ := bk2 H_D_3
      replace H_D_3 := Lib.hid H_D_3
      have H_O_3 := (hb3.block (w.heap.size + 1 + 1) (blk_lt' H_O_2.out)).trans H_O_2.out
      clear k_O_2_0 k_O_2_1 f_O_2 H_O_2
      obtain ⟨k_O_3_0, k_O_3_1, f_O_3, l_O_3⟩ := bk2 H_O_3
      replace H_O_3 := Lib.hid H_O_3
      replace hs := hs.below hb3
      replace hs2 := hs2.below hb3
      have hB3 : Below w.heap.size w w3 := below_via hb3 (by assumption) (by first | exact hB2.size | go_size)
      go_wp2_with fail
      refine bodyPost_ret (v := .agg #[.bool b7, .slice a7 n7 c7]) (by simp [results, Try.results66, go_sem, k_O_3_0, k_O_3_1]) rfl ⟨_, _, _, _, rfl, ?_, f7, ?_⟩
      · have HO := H_O_3.out
        (repeat' first | (with_reducible first | assumption | (apply Ne.symm; assumption) | apply Nat.le_refl | apply Nat.le_add_right | apply zL | apply zRf | apply Wx.box | apply Wx.box4 | apply zWa | apply Wx.drew | apply zWn | apply bx_drew | apply bx_drewN | apply bx_set3 | apply bx_set2 | apply bx_set4 | apply bx_set1) | ((with_reducible apply bx_new); (focus (go_size; done))) | (with_reducible first | apply zOl | apply zFa | apply zDn | apply zDr | apply zAl | apply zSt | refine zVi (by assumption) ?_ ?_) | go_size | omega)
      · (repeat' first | (with_reducible first | assumption | (apply Ne.symm; assumption) | apply Nat.le_refl | apply Nat.le_add_right | apply zL | apply zRf | apply Wx.box | apply Wx.box4 | apply zWa | apply Wx.drew | apply zWn | apply bx_drew | apply bx_drewN | apply bx_set3 | apply bx_set2 | apply bx_set4 | apply bx_set1) | ((with_reducible apply bx_new); (focus (go_size; done))) | (with_reducible first | apply zOl | apply zFa | apply zDn | apply zDr | apply zAl | apply zSt | refine zVi (by assumption) ?_ ?_) | go_size | omega)
    · have E1 := Lib.hid (show mkW b2 (ab y - ab x) = v by rw [hn2, add_other (fun e => hne e.symm) (by omega), Int.add_comm, E.out])
      have P1 := Lib.hid (show ab y + -1 * ab x = ab y - ab x by omega)
      have HG := Lib.hid (show ab x ≤ ab y by omega)
      have hcm : cmpI (ab x) (ab y) < 0 := by rw [cmp_lt (by omega)]; omega
      have T3 := fun (W : World) (h1 : Wx W b a n c x) (h2 : Wx W b2 a2 n2 c2 y) => Lib.hid (compareSizes_any b b2 a a2 n c n2 c2 x y W h1 h2 (by omega) (by omega))
      generalize cmpI (ab x) (ab y) = cm at *
      clear hn hn2 hne hge hsame
      have tok1 : True := trivial
      have tok2 : True := trivial
      go_enter Try.func66, Try.ntmps66
      go_upto_region 1 with (fail)
      refine chk (fun W => Below w.heap.size w W ∧ W.heap[w.heap.size]? = some (.cells #[.bool b, .slice a n c] 35 (0, 0)) ∧ W.heap[w.heap.size + 1]? = some (.cells #[.bool b2, .slice a2 n2 c2] 35 (0, 0)) ∧ W.heap[w.heap.size + 1 + 1]? = some (.cells #[.bool false, .slice none 0 0] 35 (0, 0)) ∧ Wx W b a n c x ∧ Wx W b2 a2 n2 c2 y) (by refine ⟨?_, ?_, ?_, ?_, ?_, ?_⟩ <;> (repeat' first | (with_reducible first | assumption | (apply Ne.symm; assumption) | apply Nat.le_refl | apply Nat.le_add_right | apply zL | apply zRf | apply Wx.box | apply Wx.box4 | apply zWa | apply Wx.drew | apply zWn | apply bx_drew | apply bx_drewN | apply bx_set3 | apply bx_set2 | apply bx_set4 | apply bx_set1) | ((with_reducible apply bx_new); (focus (go_size; done))) | (with_reducible first | apply zOl | apply zFa | apply zDn | apply zDr | apply zAl | apply zSt | refine zVi (by assumption) ?_ ?_) | go_size | omega)) ?_
      try clear hs
      try clear hs2
      rintro w1 ⟨hB1, H_C_1, H_D_1, H_O_1, hs', hs2'⟩
      obtain ⟨k_C_1_0, k_C_1_1, f_C_1, l_C_1⟩ := bk2 H_C_1
      replace H_C_1 := Lib.hid H_C_1
      obtain ⟨k_D_1_0, k_D_1_1, f_D_1, l_D_1⟩ := bk2 H_D_1
      replace H_D_1 := Lib.hid H_D_1
      obtain ⟨k_O_1_0, k_O_1_1, f_O_1, l_O_1⟩ := bk2 H_O_1
      replace H_O_1 := Lib.hid H_O_1
      have hs := hs'
      clear hs'
      have hs2 := hs2'
      clear hs2'
      go_wp2_with (first | (have _t := tok2; go_at_call 73; (with_reducible refine ((T3 _ hs hs2).out).mono ?_); rintro e w2 ⟨rfl, hb2⟩; clear tok2 _t; have hz2 := hb2.size; (try simp only [World.size_alloc, World.size_setCell, World.size_drew, World.size_drewN'] at hz2); (try (have kq := cellAt hb2 (w.heap.size) (by go_size); have k2_w_0_0 := kq 0; have k2_w_0_1 := kq 1; clear kq; have f2_w_0 := frozAt hb2 (w.heap.size) (by go_size); simp [go_sem, *] at k2_w_0_0 k2_w_0_1 f2_w_0)); (try have l2_w_0 : w.heap.size < w2.heap.size := by omega); (try (have kq := cellAt hb2 (w.heap.size + 1) (by go_size); have k2_w_1_0 := kq 0; have k2_w_1_1 := kq 1; clear kq; have f2_w_1 := frozAt hb2 (w.heap.size + 1) (by go_size); simp [go_sem, *] at k2_w_1_0 k2_w_1_1 f2_w_1)); (try have l2_w_1 : w.heap.size + 1 < w2.heap.size := by omega); (try (have kq := cellAt hb2 (w.heap.size + 1 + 1) (by go_size); have k2_w_2_0 := kq 0; have k2_w_2_1 := kq 1; clear kq; have f2_w_2 := frozAt hb2 (w.heap.size + 1 + 1) (by go_size); simp [go_sem, *] at k2_w_2_0 k2_w_2_1 f2_w_2)); (try have l2_w_2 : w.heap.size + 1 + 1 < w2.heap.size := by omega); (try clear k1_w_0_0 k1_w_0_1 f1_w_0); (try clear l1_w_0); (try clear k1_w_1_0 k1_w_1_1 f1_w_1); (try clear l1_w_1); (try clear k1_w_2_0 k1_w_2_1 f1_w_2); (try clear l1_w_2)))
      have H_C_2 := (hb2.block (w.heap.size) (blk_lt' H_C_1.out)).trans H_C_1.out
      clear k_C_1_0 k_C_1_1 f_C_1 H_C_1
      obtain ⟨k_C_2_0, k_C_2_1, f_C_2, l_C_2⟩ := bk2 H_C_2
      replace H_C_2 := Lib.hid H_C_2
      have H_D_2 := (hb2.block (w.heap.size + 1) (blk_lt' H_D_1.out)).trans H_D_1.out
      clear k_D_1_0 k_D_1_1 f_D_1 H_D_1
      obtain ⟨k_D_2_0, k_D_2_1, f_D_2, l_D_2⟩ := bk2 H_D_2
      replace H_D_2 := Lib.hid H_D_2
      have H_O_2 := (hb2.block (w.heap.size + 1 + 1) (blk_lt' H_O_1.out)).trans H_O_1.out
      clear k_O_1_0 k_O_1_1 f_O_1 H_O_1
      obtain ⟨k_O_2_0, k_O_2_1, f_O_2, l_O_2⟩ := bk2 H_O_2
      replace H_O_2 := Lib.hid H_O_2
      replace hs := hs.below hb2
      replace hs2 := hs2.below hb2
      have hB2 : Below w.heap.size w w2 := below_via hb2 (by assumption) (by first | exact hB1.size | go_size)
      replace H_C_2 := H_C_2.out
      replace H_D_2 := H_D_2.out
      replace H_O_2 := H_O_2.out
      refine chk (fun W => Below w.heap.size w W ∧ W.heap[w.heap.size]? = some (.cells #[.bool b2, .slice a2 n2 c2] 35 (0, 0)) ∧ W.heap[w.heap.size + 1]? = some (.cells #[.bool b, .slice a n c] 35 (0, 0)) ∧ W.heap[w.heap.size + 1 + 1]? = some (.cells #[.bool false, .slice none 0 0] 35 (0, 0)) ∧ Wx W b a n c x ∧ Wx W b2 a2 n2 c2 y) (by refine ⟨?_, ?_, ?_, ?_, ?_, ?_⟩ <;> (repeat' first | (with_reducible first | assumption | (apply Ne.symm; assumption) | apply Nat.le_refl | apply Nat.le_add_right | apply zL | apply zRf | apply Wx.box | apply Wx.box4 | apply zWa | apply Wx.drew | apply zWn | apply bx_drew | apply bx_drewN | apply bx_set3 | apply bx_set2 | apply bx_set4 | apply bx_set1) | ((with_reducible apply bx_new); (focus (go_size; done))) | (with_reducible first | apply zOl | apply zFa | apply zDn | apply zDr | apply zAl | apply zSt | refine zVi (by assumption) ?_ ?_) | go_size | omega)) ?_
      try clear hs
      try clear hs2
      clear k_C_2_0 k_C_2_1 f_C_2 H_C_2
      clear k_D_2_0 k_D_2_1 f_D_2 H_D_2
      clear k_O_2_0 k_O_2_1 f_O_2 H_O_2
      clear hB2
      rintro w3 ⟨hB3, H_C_3, H_D_3, H_O_3, hs', hs2'⟩
      obtain ⟨k_C_3_0, k_C_3_1, f_C_3, l_C_3⟩ := bk2 H_C_3
      replace H_C_3 := Lib.hid H_C_3
      obtain ⟨k_D_3_0, k_D_3_1, f_D_3, l_D_3⟩ := bk2 H_D_3
      replace H_D_3 := Lib.hid H_D_3
      obtain ⟨k_O_3_0, k_O_3_1, f_O_3, l_O_3⟩ := bk2 H_O_3
      replace H_O_3 := Lib.hid H_O_3
      have hs := hs'
      clear hs'
      have hs2 := hs2'
      clear hs2'
      refine wp_open (n := 8) (by kernel_rfl) (by kernel_rfl) (by kernel_rfl) (by kernel_rfl) ?_
      simp only [List.take_succ_cons, List.take_zero]
      apply wpS_quiet
      · intro γ W hW hp
        refine ⟨rfl, ?_⟩
        go_big_quiet_op
        first | exact rfl
      · exact locS_const _
      try simp only [Act.put, List.setIfInBounds_toArray, List.set_cons_succ, List.set_cons_zero, Nat.reduceAdd]
      apply wpS_quiet
      · intro γ W hW hp
        have hs := hW.size
        (try simp only [World.size_alloc, World.size_setCell, World.size_drew, World.size_drewN'] at hs)
        have kx_0 := fun x : Over W => ((cellAt x.lies (w.heap.size) (by omega) 0).trans (cellAt hW (w.heap.size) (by first | omega | go_size) 0)).trans k_C_3_0
        have kx_1 := fun x : Over W => ((cellAt x.lies (w.heap.size) (by omega) 1).trans (cellAt hW (w.heap.size) (by first | omega | go_size) 1)).trans k_C_3_1
        clear hW hp
        refine ⟨rfl, ?_⟩
        go_big_quiet_op
        first | exact rfl
      · exact locS_const _
      try simp only [Act.put, List.setIfInBounds_toArray, List.set_cons_succ, List.set_cons_zero, Nat.reduceAdd]
      apply wpS_quiet
      · intro γ W hW hp
        refine ⟨rfl, ?_⟩
        go_big_quiet_op
        first | exact rfl
      · exact locS_const _
      try simp only [Act.put, List.setIfInBounds_toArray, List.set_cons_succ, List.set_cons_zero, Nat.reduceAdd]
      apply wpS_quiet
      · intro γ W hW hp
        have hs := hW.size
        (try simp only [World.size_alloc, World.size_setCell, World.size_drew, World.size_drewN'] at hs)
        have kx_0 := fun x : Over W => ((cellAt x.lies (w.heap.size) (by omega) 0).trans (cellAt hW (w.heap.size) (by first | omega | go_size) 0)).trans k_C_3_0
        have kx_1 := fun x : Over W => ((cellAt x.lies (w.heap.size) (by omega) 1).trans (cellAt hW (w.heap.size) (by first | omega | go_size) 1)).trans k_C_3_1
        clear hW hp
        refine ⟨rfl, ?_⟩
        go_big_quiet_op
        first | exact rfl
      · exact locS_const _
      try simp only [Act.put, List.setIfInBounds_toArray, List.set_cons_succ, List.set_cons_zero, Nat.reduceAdd]
      apply wpS_quiet
      · intro γ W hW hp
        refine ⟨rfl, ?_⟩
        go_big_quiet_op
        first | exact rfl
      · exact locS_const _
      try simp only [Act.put, List.setIfInBounds_toArray, List.set_cons_succ, List.set_cons_zero, Nat.reduceAdd]
      apply wpS_quiet
      · intro γ W hW hp
        have hs := hW.size
        (try simp only [World.size_alloc, World.size_setCell, World.size_drew, World.size_drewN'] at hs)
        have kx_0 := fun x : Over W => ((cellAt x.lies (w.heap.size + 1) (by omega) 0).trans (cellAt hW (w.heap.size + 1) (by first | omega | go_size) 0)).trans k_D_3_0
        have kx_1 := fun x : Over W => ((cellAt x.lies (w.heap.size + 1) (by omega) 1).trans (cellAt hW (w.heap.size + 1) (by first | omega | go_size) 1)).trans k_D_3_1
        clear hW hp
        refine ⟨rfl, ?_⟩
        go_big_quiet_op
        first | exact rfl
      · exact locS_const _
      try simp only [Act.put, List.setIfInBounds_toArray, List.set_cons_succ, List.set_cons_zero, Nat.reduceAdd]
      apply wpS_open (openD w.heap.size (ab y - ab x) 90001)
      · intro γ W hW hp
        refine ⟨rfl, ?_⟩
        go_simp
        refine plainNew rfl ?_
        exact open_D (TC W (-1) _ (hs2.below hW) (hs.below hW) hl2 hl (.inr rfl) (fun e => HG.out) P1.out) (by (have := hW.size; (try simp only [World.size_alloc, World.size_setCell, World.size_drew, World.size_drewN'] at this); omega))
      try simp only [Act.put, List.setIfInBounds_toArray, List.set_cons_succ, List.set_cons_zero, Nat.reduceAdd]
      apply wpS_open (openW w.heap.size v)
      · intro γ W hW hp
        have hp_6 := hp _ (List.mem_append_right _ (List.mem_singleton.2 rfl)) (by kernel_rfl)
        dsimp only at hp_6
        refine ⟨rfl, ?_⟩
        go_simp
        refine plainNew rfl ?_
        obtain ⟨a6, n6, c6, zs6, e6, h6, d6, v6, m6, _⟩ := hp_6
        rw [e6]
        exact open_W (TM _ _ _ _ _ _ _ _ h6 d6 v6 (by omega) E1.out) (by (have := hW.size; (try simp only [World.size_alloc, World.size_setCell, World.size_drew, World.size_drewN'] at this); omega))
      try simp only [Act.put, List.setIfInBounds_toArray, List.set_cons_succ, List.set_cons_zero, Nat.reduceAdd]
      apply wpS_end
      intro γ w4 hb4 hG4 hA4
      have hg4_6 := hG4 _ (List.mem_append_left _ (List.mem_append_right _ (List.mem_singleton.2 rfl)))
      dsimp only at hg4_6
      have hg4_7 := hG4 _ (List.mem_append_right _ (List.mem_singleton.2 rfl))
      dsimp only at hg4_7
      clear hG4 hA4
      simp only [List.drop_succ_cons, List.drop_zero]
      have hz4 := hb4.size
      (try simp only [World.size_alloc, World.size_setCell, World.size_drew, World.size_drewN'] at hz4)
      obtain ⟨b7, a7, n7, c7, e7, h7, f7⟩ := hg4_7
      simp only [e7]
      clear e7 hg4_6
      have H_C_4 := (hb4.block (w.heap.size) (blk_lt' H_C_3.out)).trans H_C_3.out
      clear k_C_3_0 k_C_3_1 f_C_3 H_C_3
      obtain ⟨k_C_4_0, k_C_4_1, f_C_4, l_C_4⟩ := bk2 H_C_4
      replace H_C_4 := Lib.hid H_C_4
      have H_D_4 := (hb4.block (w.heap.size + 1) (blk_lt' H_D_3.out)).trans H_D_3.out
      clear k_D_3_0 k_D_3_1 f_D_3 H_D_3
      obtain ⟨k_D_4_0, k_D_4_1, f_D_4, l_D_4⟩ := bk2 H_D_4
      replace H_D_4 := Lib.hid H_D_4
      have H_O_4 := (hb4.block (w.heap.size + 1 + 1) (blk_lt' H_O_3.out)).trans H_O_3.out
      clear k_O_3_0 k_O_3_1 f_O_3 H_O_3
      obtain ⟨k_O_4_0, k_O_4_1, f_O_4, l_O_4⟩ := bk2 H_O_4
      replace H_O_4 := Lib.hid H_O_4
      replace hs := hs.below hb4
      replace hs2 := hs2.below hb4
      have hB4 : Below w.heap.size w w4 := below_via hb4 (by assumption) (by first | exact hB3.size | go_size)
      go_wp2_with fail
      refine bodyPost_ret (v := .agg #[.bool b7, .slice a7 n7 c7]) (by simp [results, Try.results66, go_sem, k_O_4_0, k_O_4_1]) rfl ⟨_, _, _, _, rfl, ?_, f7, ?_⟩
      · have HO := H_O_4.out
        (repeat' first | (with_reducible first | assumption | (apply Ne.symm; assumption) | apply Nat.le_refl | apply Nat.le_add_right | apply zL | apply zRf | apply Wx.box | apply Wx.box4 | apply zWa | apply Wx.drew | apply zWn | apply bx_drew | apply bx_drewN | apply bx_set3 | apply bx_set2 | apply bx_set4 | apply bx_set1) | ((with_reducible apply bx_new); (focus (go_size; done))) | (with_reducible first | apply zOl | apply zFa | apply zDn | apply zDr | apply zAl | apply zSt | refine zVi (by assumption) ?_ ?_) | go_size | omega)
      · (repeat' first | (with_reducible first | assumption | (apply Ne.symm; assumption) | apply Nat.le_refl | apply Nat.le_add_right | apply zL | apply zRf | apply Wx.box | apply Wx.box4 | apply zWa | apply Wx.drew | apply zWn | apply bx_drew | apply bx_drewN | apply bx_set3 | apply bx_set2 | apply bx_set4 | apply bx_set1) | ((with_reducible apply bx_new); (focus (go_size; done))) | (with_reducible first | apply zOl | apply zFa | apply zDn | apply zDr | apply zAl | apply zSt | refine zVi (by assumption) ?_ ?_) | go_size | omega)
end Go.Proofs.Ytijpfnkhaldfeaa
