/- Lemmas and contracts of functions. No condition. -/
import Derived.Test.YtgjppinjapdbeaaGreatPk5
import Derived.Test.YtgjppinjapdbeaaGreatPk7
import Derived.IntWalk
namespace Go.Proofs.YtgjppinjapdbeaaGreat
section
open Go.RowKit
set_option linter.unusedVariables false
set_option maxHeartbeats 1000000
set_option maxRecDepth 20000
set_option linter.unusedSimpArgs false
attribute [local go_sem] openAt openUpon
theorem addWholes_eq {b b2 : Bool} {a a2 : Option Addr} {n c n2 c2 : Nat} {x y v : Int} {w : World} (hs : Wx w b a n c x) (hs2 : Wx w b2 a2 n2 c2 y) (e : x + y = v) (l1 : ln x ≤ 10000) (l2 : ln y ≤ 10000) :
    Calls Tryz.prog 61 #[.agg #[.bool b, .slice a n c], .agg #[.bool b2, .slice a2 n2 c2]] w (NewW w v) := by
  have hl : n ≤ 10000 := by have := hs.ln; omega
  have hl2 : n2 ≤ 10000 := by have := hs2.ln; omega
  have TC : ∀ {b b2 : Bool} {a a2 : Option Addr} {n c n2 c2 : Nat} {x y : Int} (W : World) (s V : Int), Wx W b a n c x → Wx W b2 a2 n2 c2 y → n ≤ 10000 → n2 ≤ 10000 → (s = 1 ∨ s = -1) → (s = -1 → ab y ≤ ab x) → ab x + s * ab y = V → Calls Tryz.prog 80 #[.slice a n c, .slice a2 n2 c2, .int .i64 s] W (NewD W V 90001) := fun {b b2 a a2 n c n2 c2 x y} W s V h1 h2 g1 g2 h3 h4 h5 => by
    have := addLimbs_any a a2 n c n2 c2 s _ _ W h1.row h2.row (limbs_dig _) (limbs_dig _) (by omega) (by omega) h3 (by rw [val_ab', val_ab']; exact h4)
    rwa [val_ab', val_ab', h5] at this
  have TM : ∀ (W : World) (b : Bool) (V z : Int) (a : Option Addr) (n c : Nat) (zs : List Int), Sx W a n c zs → Dig zs → val zs = V → n ≤ 100001 → mkW b V = z → Calls Tryz.prog 79 #[.bool b, .slice a n c] W (NewW W z) := fun W b V z a n c zs h1 h2 h3 h4 h5 => by
    have := trimmed_any b a n c zs W h1 (by omega) h2
    rw [h3, h5] at this
    exact this
  have hn := hs.neg
  have hn2 := hs2.neg
  have E := Lib.hid e
  clear e
  by_cases hsame : b = b2
  · have E1 := Lib.hid (show mkW b (ab x + ab y) = v by rw [hn, add_same (by rw [← hn, ← hn2, hsame]), E.out])
    subst hsame
    have P1 := Lib.hid (show ab x + 1 * ab y = ab x + ab y by omega)
    clear hn hn2
    go_enter Tryz.func61, Tryz.ntmps61
    go_wp2_with fail
    refine chk (fun W => Below w.heap.size w W ∧ W.heap[w.heap.size]? = some (.cells #[.bool b, .slice a n c] 82 (0, 0)) ∧ W.heap[w.heap.size + 1]? = some (.cells #[.bool b, .slice a2 n2 c2] 82 (0, 0)) ∧ W.heap[w.heap.size + 1 + 1]? = some (.cells #[.bool false, .slice none 0 0] 82 (0, 0)) ∧ Wx W b a n c x ∧ Wx W b a2 n2 c2 y) (by refine ⟨?_, ?_, ?_, ?_, ?_, ?_⟩ <;> (repeat' first | (with_reducible first | assumption | (apply Ne.symm; assumption) | apply Nat.le_refl | apply Nat.le_add_right | apply zL | apply zRf | apply Wx.box | apply Wx.box4 | apply zWa | apply Wx.drew | apply zWn | apply bx_drew | apply bx_drewN | apply bx_set3 | apply bx_set2 | apply bx_set4 | apply bx_set1) | ((with_reducible apply bx_new); (focus (go_size; done))) | (with_reducible first | apply zOl | apply zFa | apply zDn | apply zDr | apply zAl | apply zSt | refine zVi (by assumption) ?_ ?_) | go_size | omega)) ?_
    try clear hs
    try clear hs2
    rintro w1 ⟨hB1, H_C_1, H_D_1, H_O_1, hs', hs2'⟩
    obtain ⟨k_C_1_0, k_C_1_1, f_C_1, l_C_1⟩ := bk2 H_C_1
    replace H_C_1 := Lib.hid H_C_1
    obtain ⟨k_D_1_0, k_D_1_1, f_D_1, l_D_1⟩ := bk2 H_D_1
    replace H_D_1 := Lib.hid H_D_1
    obtain ⟨k_O_1_0, k_O_1_1, f_O_1, l_O_1⟩ := bk2 H_O_1
    replace H_O_1 := Lib.hid H_O_1
    have hs := hs'
    clear hs'
    have hs2 := hs2'
    clear hs2'
    refine wp_open (n := 8) (by kernel_rfl) (by kernel_rfl) (by kernel_rfl) (by kernel_rfl) ?_
    simp only [List.take_succ_cons, List.take_zero]
    apply wpS_quiet
    · intro γ W hW hp
      refine ⟨rfl, ?_⟩
      go_big_quiet_op
      first | exact rfl
    · exact locS_const _
    try simp only [Act.put, List.setIfInBounds_toArray, List.set_cons_succ, List.set_cons_zero, Nat.reduceAdd]
    apply wpS_quiet
    · intro γ W hW hp
      have hs := hW.size
      (try simp only [World.size_alloc, World.size_setCell, World.size_drew, World.size_drewN'] at hs)
      have kx_0 := fun x : Over W => ((cellAt x.lies (w.heap.size) (by omega) 0).trans (cellAt hW (w.heap.size) (by first | omega | go_size) 0)).trans k_C_1_0
      have kx_1 := fun x : Over W => ((cellAt x.lies (w.heap.size) (by omega) 1).trans (cellAt hW (w.heap.size) (by first | omega | go_size) 1)).trans k_C_1_1
      clear hW hp
      refine ⟨rfl, ?_⟩
      go_big_quiet_op
      first | exact rfl
    · exact locS_const _
    try simp only [Act.put, List.setIfInBounds_toArray, List.set_cons_succ, List.set_cons_zero, Nat.reduceAdd]
    apply wpS_quiet
    · intro γ W hW hp
      refine ⟨rfl, ?_⟩
      go_big_quiet_op
      first | exact rfl
    · exact locS_const _
    try simp only [Act.put, List.setIfInBounds_toArray, List.set_cons_succ, List.set_cons_zero, Nat.reduceAdd]
    apply wpS_quiet
    · intro γ W hW hp
      have hs := hW.size
      (try simp only [World.size_alloc, World.size_setCell, World.size_drew, World.size_drewN'] at hs)
      have kx_0 := fun x : Over W => ((cellAt x.lies (w.heap.size) (by omega) 0).trans (cellAt hW (w.heap.size) (by first | omega | go_size) 0)).trans k_C_1_0
      have kx_1 := fun x : Over W => ((cellAt x.lies (w.heap.size) (by omega) 1).trans (cellAt hW (w.heap.size) (by first | omega | go_size) 1)).trans k_C_1_1
      clear hW hp
      refine ⟨rfl, ?_⟩
      go_big_quiet_op
      first | exact rfl
    · exact locS_const _
    try simp only [Act.put, List.setIfInBounds_toArray, List.set_cons_succ, List.set_cons_zero, Nat.reduceAdd]
    apply wpS_quiet
    · intro γ W hW hp
      refine ⟨rfl, ?_⟩
      go_big_quiet_op
      first | exact rfl
    · exact locS_const _
    try simp only [Act.put, List.setIfInBounds_toArray, List.set_cons_succ, List.set_cons_zero, Nat.reduceAdd]
    apply wpS_quiet
    · intro γ W hW hp
      have hs := hW.size
      (try simp only [World.size_alloc, World.size_setCell, World.size_drew, World.size_drewN'] at hs)
      have kx_0 := fun x : Over W => ((cellAt x.lies (w.heap.size + 1) (by omega) 0).trans (cellAt hW (w.heap.size + 1) (by first | omega | go_size) 0)).trans k_D_1_0
      have kx_1 := fun x : Over W => ((cellAt x.lies (w.heap.size + 1) (by omega) 1).trans (cellAt hW (w.heap.size + 1) (by first | omega | go_size) 1)).trans k_D_1_1
      clear hW hp
      refine ⟨rfl, ?_⟩
      go_big_quiet_op
      first | exact rfl
    · exact locS_const _
    try simp only [Act.put, List.setIfInBounds_toArray, List.set_cons_succ, List.set_cons_zero, Nat.reduceAdd]
    apply wpS_open (openD w.heap.size (ab x + ab y) 90001)
    · intro γ W hW hp
      refine ⟨rfl, ?_⟩
      go_simp
      refine plainNew rfl ?_
      exact open_D (TC W 1 _ (hs.below hW) (hs2.below hW) hl hl2 (.inl rfl) (fun e => by omega) P1.out) (by (have := hW.size; (try simp only [World.size_alloc, World.size_setCell, World.size_drew, World.size_drewN'] at this); omega))
    try simp only [Act.put, List.setIfInBounds_toArray, List.set_cons_succ, List.set_cons_zero, Nat.reduceAdd]
    apply wpS_open (openW w.heap.size v)
    · intro γ W hW hp
      have hp_6 := hp _ (List.mem_append_right _ (List.mem_singleton.2 rfl)) (by kernel_rfl)
      dsimp only at hp_6
      refine ⟨rfl, ?_⟩
      go_simp
      refine plainNew rfl ?_
      obtain ⟨a6, n6, c6, zs6, e6, h6, d6, v6, m6, _⟩ := hp_6
      rw [e6]
      exact open_W (TM _ _ _ _ _ _ _ _ h6 d6 v6 (by omega) E1.out) (by (have := hW.size; (try simp only [World.size_alloc, World.size_setCell, World.size_drew, World.size_drewN'] at this); omega))
    try simp only [Act.put, List.setIfInBounds_toArray, List.set_cons_succ, List.set_cons_zero, Nat.reduceAdd]
    apply wpS_end
    intro γ w2 hb2 hG2 hA2
    have hg2_6 := hG2 _ (List.mem_append_left _ (List.mem_append_right _ (List.mem_singleton.2 rfl)))
    dsimp only at hg2_6
    have hg2_7 := hG2 _ (List.mem_append_right _ (List.mem_singleton.2 rfl))
    dsimp only at hg2_7
    clear hG2 hA2
    simp only [List.drop_succ_cons, List.drop_zero]
    have hz2 := hb2.size
    (try simp only [World.size_alloc, World.size_setCell, World.size_drew, World.size_drewN'] at hz2)
    obtain ⟨b7, a7, n7, c7, e7, h7, f7⟩ := hg2_7
    simp only [e7]
    clear e7 hg2_6
    have H_C_2 := (hb2.block (w.heap.size) (blk_lt' H_C_1.out)).trans H_C_1.out
    clear k_C_1_0 k_C_1_1 f_C_1 H_C_1
    obtain ⟨k_C_2_0, k_C_2_1, f_C_2, l_C_2⟩ := bk2 H_C_2
    replace H_C_2 := Lib.hid H_C_2
    have H_D_2 := (hb2.block (w.heap.size + 1) (blk_lt' H_D_1.out)).trans H_D_1.out
    clear k_D_1_0 k_D_1_1 f_D_1 H_D_1
    obtain ⟨k_D_2_0, k_D_2_1, f_D_2, l_D_2⟩ := bk2 H_D_2
    replace H_D_2 := Lib.hid H_D_2
    have H_O_2 := (hb2.block (w.heap.size + 1 + 1) (blk_lt' H_O_1.out)).trans H_O_1.out
    clear k_O_1_0 k_O_1_1 f_O_1 H_O_1
    obtain ⟨k_O_2_0, k_O_2_1, f_O_2, l_O_2⟩ := bk2 H_O_2
    replace H_O_2 := Lib.hid H_O_2
    replace hs := hs.below hb2
    replace hs2 := hs2.below hb2
    have hB2 : Below w.heap.size w w2 := below_via hb2 (by assumption) (by go_size)
    go_wp2_with fail
    refine bodyPost_ret (v := .agg #[.bool b7, .slice a7 n7 c7]) (by simp [results, Tryz.results61, go_sem, k_O_2_0, k_O_2_1]) rfl ⟨_, _, _, _, rfl, ?_, f7, ?_⟩
    · have HO := H_O_2.out
      (repeat' first | (with_reducible first | assumption | (apply Ne.symm; assumption) | apply Nat.le_refl | apply Nat.le_add_right | apply zL | apply zRf | apply Wx.box | apply Wx.box4 | apply zWa | apply Wx.drew | apply zWn | apply bx_drew | apply bx_drewN | apply bx_set3 | apply bx_set2 | apply bx_set4 | apply bx_set1) | ((with_reducible apply bx_new); (focus (go_size; done))) | (with_reducible first | apply zOl | apply zFa | apply zDn | apply zDr | apply zAl | apply zSt | refine zVi (by assumption) ?_ ?_) | go_size | omega)
    · (repeat' first | (with_reducible first | assumption | (apply Ne.symm; assumption) | apply Nat.le_refl | apply Nat.le_add_right | apply zL | apply zRf | apply Wx.box | apply Wx.box4 | apply zWa | apply Wx.drew | apply zWn | apply bx_drew | apply bx_drewN | apply bx_set3 | apply bx_set2 | apply bx_set4 | apply bx_set1) | ((with_reducible apply bx_new); (focus (go_size; done))) | (with_reducible first | apply zOl | apply zFa | apply zDn | apply zDr | apply zAl | apply zSt | refine zVi (by assumption) ?_ ?_) | go_size | omega)
  · have hb : (b == b2) = false := by simpa using hsame
    have hne : ngB x ≠ ngB y := by rw [← hn, ← hn2]; exact hsame
    by_cases hge : ab y ≤ ab x
    · have E1 := Lib.hid (show mkW b (ab x - ab y) = v by rw [hn, add_other hne hge, E.out])
      have P1 := Lib.hid (show ab x + -1 * ab y = ab x - ab y by omega)
      have HG := Lib.hid hge
      have hcm : ¬ cmpI (ab x) (ab y) < 0 := by
        unfold cmpI
        split
        · omega
        · split <;> omega
      have T3 := fun (W : World) (h1 : Wx W b a n c x) (h2 : Wx W b2 a2 n2 c2 y) => Lib.hid (compareSizes_any b b2 a a2 n c n2 c2 x y W h1 h2 (by omega) (by omega))
      generalize cmpI (ab x) (ab y) = cm at *
      clear hn hn2 hne hge hsame
      have tok1 : True := trivial
      have tok2 : True := trivial
      go_enter Tryz.func61, Tryz.ntmps61
      go_upto_region 1 with (fail)
      refine chk (fun W => Below w.heap.size w W ∧ W.heap[w.heap.size]? = some (.cells #[.bool b, .slice a n c] 82 (0, 0)) ∧ W.heap[w.heap.size + 1]? = some (.cells #[.bool b2, .slice a2 n2 c2] 82 (0, 0)) ∧ W.heap[w.heap.size + 1 + 1]? = some (.cells #[.bool false, .slice none 0 0] 82 (0, 0)) ∧ Wx W b a n c x ∧ Wx W b2 a2 n2 c2 y) (by refine ⟨?_, ?_, ?_, ?_, ?_, ?_⟩ <;> (repeat' first | (with_reducible first | assumption | (apply Ne.symm; assumption) | apply Nat.le_refl | apply Nat.le_add_right | apply zL | apply zRf | apply Wx.box | apply Wx.box4 | apply zWa | apply Wx.drew | apply zWn | apply bx_drew | apply bx_drewN | apply bx_set3 | apply bx_set2 | apply bx_set4 | apply bx_set1) | ((with_reducible apply bx_new); (focus (go_size; done))) | (with_reducible first | apply zOl | apply zFa | apply zDn | apply zDr | apply zAl | apply zSt | refine zVi (by assumption) ?_ ?_) | go_size | omega)) ?_
      try clear hs
      try clear hs2
      rintro w1 ⟨hB1, H_C_1, H_D_1, H_O_1, hs', hs2'⟩
      obtain ⟨k_C_1_0, k_C_1_1, f_C_1, l_C_1⟩ := bk2 H_C_1
      replace H_C_1 := Lib.hid H_C_1
      obtain ⟨k_D_1_0, k_D_1_1, f_D_1, l_D_1⟩ := bk2 H_D_1
      replace H_D_1 := Lib.hid H_D_1
      obtain ⟨k_O_1_0, k_O_1_1, f_O_1, l_O_1⟩ := bk2 H_O_1
      replace H_O_1 := Lib.hid H_O_1
      have hs := hs'
      clear hs'
      have hs2 := hs2'
      clear hs2'
      go_wp2_with (first | (have _t := tok2; go_at_call 81; (with_reducible refine ((T3 _ hs hs2).out).mono ?_); rintro e w2 ⟨rfl, hb2⟩; clear tok2 _t; have hz2 := hb2.size; (try simp only [World.size_alloc, World.size_setCell, World.size_drew, World.size_drewN'] at hz2); (try (have kq := cellAt hb2 (w.heap.size) (by go_size); have k2_w_0_0 := kq 0; have k2_w_0_1 := kq 1; clear kq; have f2_w_0 := frozAt hb2 (w.heap.size) (by go_size); simp [go_sem, *] at k2_w_0_0 k2_w_0_1 f2_w_0)); (try have l2_w_0 : w.heap.size < w2.heap.size := by omega); (try (have kq := cellAt hb2 (w.heap.size + 1) (by go_size); have k2_w_1_0 := kq 0; have k2_w_1_1 := kq 1; clear kq; have f2_w_1 := frozAt hb2 (w.heap.size + 1) (by go_size); simp [go_sem, *] at k2_w_1_0 k2_w_1_1 f2_w_1)); (try have l2_w_1 : w.heap.size + 1 < w2.heap.size := by omega); (try (have kq := cellAt hb2 (w.heap.size + 1 + 1) (by go_size); have k2_w_2_0 := kq 0; have k2_w_2_1 := kq 1; clear kq; have f2_w_2 := frozAt hb2 (w.heap.size + 1 + 1) (by go_size); simp [go_sem, *] at k2_w_2_0 k2_w_2_1 f2_w_2)); (try have l2_w_2 : w.heap.size + 1 + 1 < w2.heap.size := by omega); (try clear k1_w_0_0 k1_w_0_1 f1_w_0); (try clear l1_w_0); (try clear k1_w_1_0 k1_w_1_1 f1_w_1); (try clear l1_w_1); (try clear k1_w_2_0 k1_w_2_1 f1_w_2); (try clear l1_w_2)))
      have H_C_2 := (hb2.block (w.heap.size) (blk_lt' H_C_1.out)).trans H_C_1.out
      clear k_C_1_0 k_C_1_1 f_C_1 H_C_1
      obtain ⟨k_C_2_0, k_C_2_1, f_C_2, l_C_2⟩ := bk2 H_C_2
      replace H_C_2 := Lib.hid H_C_2
      have H_D_2 := (hb2.block (w.heap.size + 1) (blk_lt' H_D_1.out)).trans H_D_1.out
      clear k_D_1_0 k_D_1_1 f_D_1 H_D_1
      obtain ⟨k_D_2_0, k_D_2_1, f_D_2, l_D_2⟩ := bk2 H_D_2
      replace H_D_2 := Lib.hid H_D_2
      have H_O_2 := (hb2.block (w.heap.size + 1 + 1) (blk_lt' H_O_1.out)).trans H_O_1.out
      clear k_O_1_0 k_O_1_1 f_O_1 H_O_1
      obtain ⟨k_O_2_0, k_O_2_1, f_O_2, l_O_2⟩ := bk2 H_O_2
      replace H_O_2 := Lib.hid H_O_2
      replace hs := hs.below hb2
      replace hs2 := hs2.below hb2
      have hB2 : Below w.heap.size w w2 := below_via hb2 (by assumption) (by go_size)
      refine wp_open (n := 8) (by kernel_rfl) (by kernel_rfl) (by kernel_rfl) (by kernel_rfl) ?_
      simp only [List.take_succ_cons, List.take_zero]
      apply wpS_quiet
      · intro γ W hW hp
        refine ⟨rfl, ?_⟩
        go_big_quiet_op
        first | exact rfl
      · exact locS_const _
      try simp only [Act.put, List.setIfInBounds_toArray, List.set_cons_succ, List.set_cons_zero, Nat.reduceAdd]
      apply wpS_quiet
      · intro γ W hW hp
        have hs := hW.size
        (try simp only [World.size_alloc, World.size_setCell, World.size_drew, World.size_drewN'] at hs)
        have kx_0 := fun x : Over W => ((cellAt x.lies (w.heap.size) (by omega) 0).trans (cellAt hW (w.heap.size) (by first | omega | go_size) 0)).trans k_C_2_0
        have kx_1 := fun x : Over W => ((cellAt x.lies (w.heap.size) (by omega) 1).trans (cellAt hW (w.heap.size) (by first | omega | go_size) 1)).trans k_C_2_1
        clear hW hp
        refine ⟨rfl, ?_⟩
        go_big_quiet_op
        first | exact rfl
      · exact locS_const _
      try simp only [Act.put, List.setIfInBounds_toArray, List.set_cons_succ, List.set_cons_zero, Nat.reduceAdd]
      apply wpS_quiet
      · intro γ W hW hp
        refine ⟨rfl, ?_⟩
        go_big_quiet_op
        first | exact rfl
      · exact locS_const _
      try simp only [Act.put, List.setIfInBounds_toArray, List.set_cons_succ, List.set_cons_zero, Nat.reduceAdd]
      apply wpS_quiet
      · intro γ W hW hp
        have hs := hW.size
        (try simp only [World.size_alloc, World.size_setCell, World.size_drew, World.size_drewN'] at hs)
        have kx_0 := fun x : Over W => ((cellAt x.lies (w.heap.size) (by omega) 0).trans (cellAt hW (w.heap.size) (by first | omega | go_size) 0)).trans k_C_2_0
        have kx_1 := fun x : Over W => ((cellAt x.lies (w.heap.size) (by omega) 1).trans (cellAt hW (w.heap.size) (by first | omega | go_size) 1)).trans k_C_2_1
        clear hW hp
        refine ⟨rfl, ?_⟩
        go_big_quiet_op
        first | exact rfl
      · exact locS_const _
      try simp only [Act.put, List.setIfInBounds_toArray, List.set_cons_succ, List.set_cons_zero, Nat.reduceAdd]
      apply wpS_quiet
      · intro γ W hW hp
        refine ⟨rfl, ?_⟩
        go_big_quiet_op
        first | exact rfl
      · exact locS_const _
      try simp only [Act.put, List.setIfInBounds_toArray, List.set_cons_succ, List.set_cons_zero, Nat.reduceAdd]
      apply wpS_quiet
      · intro γ W hW hp
        have hs := hW.size
        (try simp only [World.size_alloc, World.size_setCell, World.size_drew, World.size_drewN'] at hs)
        have kx_0 := fun x : Over W => ((cellAt x.lies (w.heap.size + 1) (by omega) 0).trans (cellAt hW (w.heap.size + 1) (by first | omega | go_size) 0)).trans k_D_2_0
        have kx_1 := fun x : Over W => ((cellAt x.lies (w.heap.size + 1) (by omega) 1).trans (cellAt hW (w.heap.size + 1) (by first | omega | go_size) 1)).trans k_D_2_1
        clear hW hp
        refine ⟨rfl, ?_⟩
        go_big_quiet_op
        first | exact rfl
      · exact locS_const _
      try simp only [Act.put, List.setIfInBounds_toArray, List.set_cons_succ, List.set_cons_zero, Nat.reduceAdd]
      apply wpS_open (openD w.heap.size (ab x - ab y) 90001)
      · intro γ W hW hp
        refine ⟨rfl, ?_⟩
        go_simp
        refine plainNew rfl ?_
        exact open_D (TC W (-1) _ (hs.below hW) (hs2.below hW) hl hl2 (.inr rfl) (fun e => HG.out) P1.out) (by (have := hW.size; (try simp only [World.size_alloc, World.size_setCell, World.size_drew, World.size_drewN'] at this); omega))
      try simp only [Act.put, List.setIfInBounds_toArray, List.set_cons_succ, List.set_cons_zero, Nat.reduceAdd]
      apply wpS_open (openW w.heap.size v)
      · intro γ W hW hp
        have hp_6 := hp _ (List.mem_append_right _ (List.mem_singleton.2 rfl)) (by kernel_rfl)
        dsimp only at hp_6
        refine ⟨rfl, ?_⟩
        go_simp
        refine plainNew rfl ?_
        obtain ⟨a6, n6, c6, zs6, e6, h6, d6, v6, m6, _⟩ := hp_6
        rw [e6]
        exact open_W (TM _ _ _ _ _ _ _ _ h6 d6 v6 (by omega) E1.out) (by (have := hW.size; (try simp only [World.size_alloc, World.size_setCell, World.size_drew, World.size_drewN'] at this); omega))
      try simp only [Act.put, List.setIfInBounds_toArray, List.set_cons_succ, List.set_cons_zero, Nat.reduceAdd]
      apply wpS_end
      intro γ w3 hb3 hG3 hA3
      have hg3_6 := hG3 _ (List.mem_append_left _ (List.mem_append_right _ (List.mem_singleton.2 rfl)))
      dsimp only at hg3_6
      have hg3_7 := hG3 _ (List.mem_append_right _ (List.mem_singleton.2 rfl))
      dsimp only at hg3_7
      clear hG3 hA3
      simp only [List.drop_succ_cons, List.drop_zero]
      have hz3 := hb3.size
      (try simp only [World.size_alloc, World.size_setCell, World.size_drew, World.size_drewN'] at hz3)
      obtain ⟨b7, a7, n7, c7, e7, h7, f7⟩ := hg3_7
      simp only [e7]
      clear e7 hg3_6
      have H_C_3 := (hb3.block (w.heap.size) (blk_lt' H_C_2.out)).trans H_C_2.out
      clear k_C_2_0 k_C_2_1 f_C_2 H_C_2
      obtain ⟨k_C_3_0, k_C_3_1, f_C_3, l_C_3⟩ := bk2 H_C_3
      replace H_C_3 := Lib.hid H_C_3
      have H_D_3 := (hb3.block (w.heap.size + 1) (blk_lt' H_D_2.out)).trans H_D_2.out
      clear k_D_2_0 k_D_2_1 f_D_2 H_D_2
      obtain ⟨k_D_3_0, k_D_3_1, f_D_3, l_D_3⟩ := bk2 H_D_3
      replace H_D_3 := Lib.hid H_D_3
      have H_O_3 := (hb3.block (w.heap.size + 1 + 1) (blk_lt' H_O_2.out)).trans H_O_2.out
      clear k_O_2_0 k_O_2_1 f_O_2 H_O_2
      obtain ⟨k_O_3_0, k_O_3_1, f_O_3, l_O_3⟩ := bk2 H_O_3
      replace H_O_3 := Lib.hid H_O_3
      replace hs := hs.below hb3
      replace hs2 := hs2.below hb3
      have hB3 : Below w.heap.size w w3 := below_via hb3 (by assumption) (by go_size)
      go_wp2_with fail
      refine bodyPost_ret (v := .agg #[.bool b7, .slice a7 n7 c7]) (by simp [results, Tryz.results61, go_sem, k_O_3_0, k_O_3_1]) rfl ⟨_, _, _, _, rfl, ?_, f7, ?_⟩
      · have HO := H_O_3.out
        (repeat' first | (with_reducible first | assumption | (apply Ne.symm; assumption) | apply Nat.le_refl | apply Nat.le_add_right | apply zL | apply zRf | apply Wx.box | apply Wx.box4 | apply zWa | apply Wx.drew | apply zWn | apply bx_drew | apply bx_drewN | apply bx_set3 | apply bx_set2 | apply bx_set4 | apply bx_set1) | ((with_reducible apply bx_new); (focus (go_size; done))) | (with_reducible first | apply zOl | apply zFa | apply zDn | apply zDr | apply zAl | apply zSt | refine zVi (by assumption) ?_ ?_) | go_size | omega)
      · (repeat' first | (with_reducible first | assumption | (apply Ne.symm; assumption) | apply Nat.le_refl | apply Nat.le_add_right | apply zL | apply zRf | apply Wx.box | apply Wx.box4 | apply zWa | apply Wx.drew | apply zWn | apply bx_drew | apply bx_drewN | apply bx_set3 | apply bx_set2 | apply bx_set4 | apply bx_set1) | ((with_reducible apply bx_new); (focus (go_size; done))) | (with_reducible first | apply zOl | apply zFa | apply zDn | apply zDr | apply zAl | apply zSt | refine zVi (by assumption) ?_ ?_) | go_size | omega)
    · have E1 := Lib.hid (show mkW b2 (ab y - ab x) = v by rw [hn2, add_other (fun e => hne e.symm) (by omega), Int.add_comm, E.out])
      have P1 := Lib.hid (show ab y + -1 * ab x = ab y - ab x by omega)
      have HG := Lib.hid (show ab x ≤ ab y by omega)
      have hcm : cmpI (ab x) (ab y) < 0 := by rw [cmp_lt (by omega)]; omega
      have T3 := fun (W : World) (h1 : Wx W b a n c x) (h2 : Wx W b2 a2 n2 c2 y) => Lib.hid (compareSizes_any b b2 a a2 n c n2 c2 x y W h1 h2 (by omega) (by omega))
      generalize cmpI (ab x) (ab y) = cm at *
      clear hn hn2 hne hge hsame
      have tok1 : True := trivial
      have tok2 : True := trivial
      go_enter Tryz.func61, Tryz.ntmps61
      go_upto_region 1 with (fail)
      refine chk (fun W => Below w.heap.size w W ∧ W.heap[w.heap.size]? = some (.cells #[.bool b, .slice a n c] 82 (0, 0)) ∧ W.heap[w.heap.size + 1]? = some (.cells #[.bool b2, .slice a2 n2 c2] 82 (0, 0)) ∧ W.heap[w.heap.size + 1 + 1]? = some (.cells #[.bool false, .slice none 0 0] 82 (0, 0)) ∧ Wx W b a n c x ∧ Wx W b2 a2 n2 c2 y) (by refine ⟨?_, ?_, ?_, ?_, ?_, ?_⟩ <;> (repeat' first | (with_reducible first | assumption | (apply Ne.symm; assumption) | apply Nat.le_refl | apply Nat.le_add_right | apply zL | apply zRf | apply Wx.box | apply Wx.box4 | apply zWa | apply Wx.drew | apply zWn | apply bx_drew | apply bx_drewN | apply bx_set3 | apply bx_set2 | apply bx_set4 | apply bx_set1) | ((with_reducible apply bx_new); (focus (go_size; done))) | (with_reducible first | apply zOl | apply zFa | apply zDn | apply zDr | apply zAl | apply zSt | refine zVi (by assumption) ?_ ?_) | go_size | omega)) ?_
      try clear hs
      try clear hs2
      rintro w1 ⟨hB1, H_C_1, H_D_1, H_O_1, hs', hs2'⟩
      obtain ⟨k_C_1_0, k_C_1_1, f_C_1, l_C_1⟩ := bk2 H_C_1
      replace H_C_1 := Lib.hid H_C_1
      obtain ⟨k_D_1_0, k_D_1_1, f_D_1, l_D_1⟩ := bk2 H_D_1
      replace H_D_1 := Lib.hid H_D_1
      obtain ⟨k_O_1_0, k_O_1_1, f_O_1, l_O_1⟩ := bk2 H_O_1
      replace H_O_1 := Lib.hid H_O_1
      have hs := hs'
      clear hs'
      have hs2 := hs2'
      clear hs2'
      go_wp2_with (first | (have _t := tok2; go_at_call 81; (with_reducible refine ((T3 _ hs hs2).out).mono ?_); rintro e w2 ⟨rfl, hb2⟩; clear tok2 _t; have hz2 := hb2.size; (try simp only [World.size_alloc, World.size_setCell, World.size_drew, World.size_drewN'] at hz2); (try (have kq := cellAt hb2 (w.heap.size) (by go_size); have k2_w_0_0 := kq 0; have k2_w_0_1 := kq 1; clear kq; have f2_w_0 := frozAt hb2 (w.heap.size) (by go_size); simp [go_sem, *] at k2_w_0_0 k2_w_0_1 f2_w_0)); (try have l2_w_0 : w.heap.size < w2.heap.size := by omega); (try (have kq := cellAt hb2 (w.heap.size + 1) (by go_size); have k2_w_1_0 := kq 0; have k2_w_1_1 := kq 1; clear kq; have f2_w_1 := frozAt hb2 (w.heap.size + 1) (by go_size); simp [go_sem, *] at k2_w_1_0 k2_w_1_1 f2_w_1)); (try have l2_w_1 : w.heap.size + 1 < w2.heap.size := by omega); (try (have kq := cellAt hb2 (w.heap.size + 1 + 1) (by go_size); have k2_w_2_0 := kq 0; have k2_w_2_1 := kq 1; clear kq; have f2_w_2 := frozAt hb2 (w.heap.size + 1 + 1) (by go_size); simp [go_sem, *] at k2_w_2_0 k2_w_2_1 f2_w_2)); (try have l2_w_2 : w.heap.size + 1 + 1 < w2.heap.size := by omega); (try clear k1_w_0_0 k1_w_0_1 f1_w_0); (try clear l1_w_0); (try clear k1_w_1_0 k1_w_1_1 f1_w_1); (try clear l1_w_1); (try clear k1_w_2_0 k1_w_2_1 f1_w_2); (try clear l1_w_2)))
      have H_C_2 := (hb2.block (w.heap.size) (blk_lt' H_C_1.out)).trans H_C_1.out
      clear k_C_1_0 k_C_1_1 f_C_1 H_C_1
      obtain ⟨k_C_2_0, k_C_2_1, f_C_2, l_C_2⟩ := bk2 H_C_2
      replace H_C_2 := Lib.hid H_C_2
      have H_D_2 := (hb2.block (w.heap.size + 1) (blk_lt' H_D_1.out)).trans H_D_1.out
      clear k_D_1_0 k_D_1_1 f_D_1 H_D_1
      obtain ⟨k_D_2_0, k_D_2_1, f_D_2, l_D_2⟩ := bk2 H_D_2
      replace H_D_2 := Lib.hid H_D_2
      have H_O_2 := (hb2.block (w.heap.size + 1 + 1) (blk_lt' H_O_1.out)).trans H_O_1.out
      clear k_O_1_0 k_O_1_1 f_O_1 H_O_1
      obtain ⟨k_O_2_0, k_O_2_1, f_O_2, l_O_2⟩ := bk2 H_O_2
      replace H_O_2 := Lib.hid H_O_2
      replace hs := hs.below hb2
      replace hs2 := hs2.below hb2
      have hB2 : Below w.heap.size w w2 := below_via hb2 (by assumption) (by go_size)
      replace H_C_2 := H_C_2.out
      replace H_D_2 := H_D_2.out
      replace H_O_2 := H_O_2.out
      refine chk (fun W => Below w.heap.size w W ∧ W.heap[w.heap.size]? = some (.cells #[.bool b2, .slice a2 n2 c2] 82 (0, 0)) ∧ W.heap[w.heap.size + 1]? = some (.cells #[.bool b, .slice a n c] 82 (0, 0)) ∧ W.heap[w.heap.size + 1 + 1]? = some (.cells #[.bool false, .slice none 0 0] 82 (0, 0)) ∧ Wx W b a n c x ∧ Wx W b2 a2 n2 c2 y) (by refine ⟨?_, ?_, ?_, ?_, ?_, ?_⟩ <;> (repeat' first | (with_reducible first | assumption | (apply Ne.symm; assumption) | apply Nat.le_refl | apply Nat.le_add_right | apply zL | apply zRf | apply Wx.box | apply Wx.box4 | apply zWa | apply Wx.drew | apply zWn | apply bx_drew | apply bx_drewN | apply bx_set3 | apply bx_set2 | apply bx_set4 | apply bx_set1) | ((with_reducible apply bx_new); (focus (go_size; done))) | (with_reducible first | apply zOl | apply zFa | apply zDn | apply zDr | apply zAl | apply zSt | refine zVi (by assumption) ?_ ?_) | go_size | omega)) ?_
      try clear hs
      try clear hs2
      clear k_C_2_0 k_C_2_1 f_C_2 H_C_2
      clear k_D_2_0 k_D_2_1 f_D_2 H_D_2
      clear k_O_2_0 k_O_2_1 f_O_2 H_O_2
      clear hB2
      rintro w3 ⟨hB3, H_C_3, H_D_3, H_O_3, hs', hs2'⟩
      obtain ⟨k_C_3_0, k_C_3_1, f_C_3, l_C_3⟩ := bk2 H_C_3
      replace H_C_3 := Lib.hid H_C_3
      obtain ⟨k_D_3_0, k_D_3_1, f_D_3, l_D_3⟩ := bk2 H_D_3
      replace H_D_3 := Lib.hid H_D_3
      obtain ⟨k_O_3_0, k_O_3_1, f_O_3, l_O_3⟩ := bk2 H_O_3
      replace H_O_3 := Lib.hid H_O_3
      have hs := hs'
      clear hs'
      have hs2 := hs2'
      clear hs2'
      refine wp_open (n := 8) (by kernel_rfl) (by kernel_rfl) (by kernel_rfl) (by kernel_rfl) ?_
      simp only [List.take_succ_cons, List.take_zero]
      apply wpS_quiet
      · intro γ W hW hp
        refine ⟨rfl, ?_⟩
        go_big_quiet_op
        first | exact rfl
      · exact locS_const _
      try simp only [Act.put, List.setIfInBounds_toArray, List.set_cons_succ, List.set_cons_zero, Nat.reduceAdd]
      apply wpS_quiet
      · intro γ W hW hp
        have hs := hW.size
        (try simp only [World.size_alloc, World.size_setCell, World.size_drew, World.size_drewN'] at hs)
        have kx_0 := fun x : Over W => ((cellAt x.lies (w.heap.size) (by omega) 0).trans (cellAt hW (w.heap.size) (by first | omega | go_size) 0)).trans k_C_3_0
        have kx_1 := fun x : Over W => ((cellAt x.lies (w.heap.size) (by omega) 1).trans (cellAt hW (w.heap.size) (by first | omega | go_size) 1)).trans k_C_3_1
        clear hW hp
        refine ⟨rfl, ?_⟩
        go_big_quiet_op
        first | exact rfl
      · exact locS_const _
      try simp only [Act.put, List.setIfInBounds_toArray, List.set_cons_succ, List.set_cons_zero, Nat.reduceAdd]
      apply wpS_quiet
      · intro γ W hW hp
        refine ⟨rfl, ?_⟩
        go_big_quiet_op
        first | exact rfl
      · exact locS_const _
      try simp only [Act.put, List.setIfInBounds_toArray, List.set_cons_succ, List.set_cons_zero, Nat.reduceAdd]
      apply wpS_quiet
      · intro γ W hW hp
        have hs := hW.size
        (try simp only [World.size_alloc, World.size_setCell, World.size_drew, World.size_drewN'] at hs)
        have kx_0 := fun x : Over W => ((cellAt x.lies (w.heap.size) (by omega) 0).trans (cellAt hW (w.heap.size) (by first | omega | go_size) 0)).trans k_C_3_0
        have kx_1 := fun x : Over W => ((cellAt x.lies (w.heap.size) (by omega) 1).trans (cellAt hW (w.heap.size) (by first | omega | go_size) 1)).trans k_C_3_1
        clear hW hp
        refine ⟨rfl, ?_⟩
        go_big_quiet_op
        first | exact rfl
      · exact locS_const _
      try simp only [Act.put, List.setIfInBounds_toArray, List.set_cons_succ, List.set_cons_zero, Nat.reduceAdd]
      apply wpS_quiet
      · intro γ W hW hp
        refine ⟨rfl, ?_⟩
        go_big_quiet_op
        first | exact rfl
      · exact locS_const _
      try simp only [Act.put, List.setIfInBounds_toArray, List.set_cons_succ, List.set_cons_zero, Nat.reduceAdd]
      apply wpS_quiet
      · intro γ W hW hp
        have hs := hW.size
        (try simp only [World.size_alloc, World.size_setCell, World.size_drew, World.size_drewN'] at hs)
        have kx_0 := fun x : Over W => ((cellAt x.lies (w.heap.size + 1) (by omega) 0).trans (cellAt hW (w.heap.size + 1) (by first | omega | go_size) 0)).trans k_D_3_0
        have kx_1 := fun x : Over W => ((cellAt x.lies (w.heap.size + 1) (by omega) 1).trans (cellAt hW (w.heap.size + 1) (by first | omega | go_size) 1)).trans k_D_3_1
        clear hW hp
        refine ⟨rfl, ?_⟩
        go_big_quiet_op
        first | exact rfl
      · exact locS_const _
      try simp only [Act.put, List.setIfInBounds_toArray, List.set_cons_succ, List.set_cons_zero, Nat.reduceAdd]
      apply wpS_open (openD w.heap.size (ab y - ab x) 90001)
      · intro γ W hW hp
        refine ⟨rfl, ?_⟩
        go_simp
        refine plainNew rfl ?_
        exact open_D (TC W (-1) _ (hs2.below hW) (hs.below hW) hl2 hl (.inr rfl) (fun e => HG.out) P1.out) (by (have := hW.size; (try simp only [World.size_alloc, World.size_setCell, World.size_drew, World.size_drewN'] at this); omega))
      try simp only [Act.put, List.setIfInBounds_toArray, List.set_cons_succ, List.set_cons_zero, Nat.reduceAdd]
      apply wpS_open (openW w.heap.size v)
      · intro γ W hW hp
        have hp_6 := hp _ (List.mem_append_right _ (List.mem_singleton.2 rfl)) (by kernel_rfl)
        dsimp only at hp_6
        refine ⟨rfl, ?_⟩
        go_simp
        refine plainNew rfl ?_
        obtain ⟨a6, n6, c6, zs6, e6, h6, d6, v6, m6, _⟩ := hp_6
        rw [e6]
        exact open_W (TM _ _ _ _ _ _ _ _ h6 d6 v6 (by omega) E1.out) (by (have := hW.size; (try simp only [World.size_alloc, World.size_setCell, World.size_drew, World.size_drewN'] at this); omega))
      try simp only [Act.put, List.setIfInBounds_toArray, List.set_cons_succ, List.set_cons_zero, Nat.reduceAdd]
      apply wpS_end
      intro γ w4 hb4 hG4 hA4
      have hg4_6 := hG4 _ (List.mem_append_left _ (List.mem_append_right _ (List.mem_singleton.2 rfl)))
      dsimp only at hg4_6
      have hg4_7 := hG4 _ (List.mem_append_right _ (List.mem_singleton.2 rfl))
      dsimp only at hg4_7
      clear hG4 hA4
      simp only [List.drop_succ_cons, List.drop_zero]
      have hz4 := hb4.size
      (try simp only [World.size_alloc, World.size_setCell, World.size_drew, World.size_drewN'] at hz4)
      obtain ⟨b7, a7, n7, c7, e7, h7, f7⟩ := hg4_7
      simp only [e7]
      clear e7 hg4_6
      have H_C_4 := (hb4.block (w.heap.size) (blk_lt' H_C_3.out)).trans H_C_3.out
      clear k_C_3_0 k_C_3_1 f_C_3 H_C_3
      obtain ⟨k_C_4_0, k_C_4_1, f_C_4, l_C_4⟩ := bk2 H_C_4
      replace H_C_4 := Lib.hid H_C_4
      have H_D_4 := (hb4.block (w.heap.size + 1) (blk_lt' H_D_3.out)).trans H_D_3.out
      clear k_D_3_0 k_D_3_1 f_D_3 H_D_3
      obtain ⟨k_D_4_0, k_D_4_1, f_D_4, l_D_4⟩ := bk2 H_D_4
      replace H_D_4 := Lib.hid H_D_4
      have H_O_4 := (hb4.block (w.heap.size + 1 + 1) (blk_lt' H_O_3.out)).trans H_O_3.out
      clear k_O_3_0 k_O_3_1 f_O_3 H_O_3
      obtain ⟨k_O_4_0, k_O_4_1, f_O_4, l_O_4⟩ := bk2 H_O_4
      replace H_O_4 := Lib.hid H_O_4
      replace hs := hs.below hb4
      replace hs2 := hs2.below hb4
      have hB4 : Below w.heap.size w w4 := below_via hb4 (by assumption) (by go_size)
      go_wp2_with fail
      refine bodyPost_ret (v := .agg #[.bool b7, .slice a7 n7 c7]) (by simp [results, Tryz.results61, go_sem, k_O_4_0, k_O_4_1]) rfl ⟨_, _, _, _, rfl, ?_, f7, ?_⟩
      · have HO := H_O_4.out
        (repeat' first | (with_reducible first | assumption | (apply Ne.symm; assumption) | apply Nat.le_refl | apply Nat.le_add_right | apply zL | apply zRf | apply Wx.box | apply Wx.box4 | apply zWa | apply Wx.drew | apply zWn | apply bx_drew | apply bx_drewN | apply bx_set3 | apply bx_set2 | apply bx_set4 | apply bx_set1) | ((with_reducible apply bx_new); (focus (go_size; done))) | (with_reducible first | apply zOl | apply zFa | apply zDn | apply zDr | apply zAl | apply zSt | refine zVi (by assumption) ?_ ?_) | go_size | omega)
      · (repeat' first | (with_reducible first | assumption | (apply Ne.symm; assumption) | apply Nat.le_refl | apply Nat.le_add_right | apply zL | apply zRf | apply Wx.box | apply Wx.box4 | apply zWa | apply Wx.drew | apply zWn | apply bx_drew | apply bx_drewN | apply bx_set3 | apply bx_set2 | apply bx_set4 | apply bx_set1) | ((with_reducible apply bx_new); (focus (go_size; done))) | (with_reducible first | apply zOl | apply zFa | apply zDn | apply zDr | apply zAl | apply zSt | refine zVi (by assumption) ?_ ?_) | go_size | omega)
end
section
open Go.RowKit
set_option linter.unusedVariables false
set_option maxHeartbeats 1000000
set_option maxRecDepth 20000
set_option linter.unusedSimpArgs false
attribute [local go_sem] openAt openUpon
theorem divWhole_pos (a : Option Addr) (n c : Nat) (z d : Int) (w : World) (hs : Wx w false a n c z) (hl : n ≤ 100000) (hd : 1 ≤ d) (hd2 : d ≤ 100000000000000) :
    Calls Tryz.prog 128 #[.agg #[.bool false, .slice a n c], .int .i64 d] w (NewQ w z d) := by
  obtain ⟨i0, hi, hz0, hz1, hz2⟩ := info_parts infoInt
  have tok1 : True := trivial
  have tok2 : True := trivial
  go_enter Tryz.func128, Tryz.ntmps128
  go_wp2_with (first | (at_make; refine wpList_make_full _ rfl _ _ 80 rfl (w.heap.size + 2) 3 i0 (.int .i64 0) 1 Tryz.underlying80 hi hz0 hz1 .i64 .i64 _ _ n rfl rfl rfl rfl (by rw [hz2]; omega) (by unfold maxLen; omega) (by simp) ?_; intro W0 hm0 hg0; have hr0 := RowW.start hm0; have hb0 := made_below (B := w.heap.size) (a := w) (by repeat' first | (with_reducible first | apply zRf | assumption | apply zDn | apply zDr | apply zAl | apply zSt | refine zVi (by assumption) ?_ ?_) | go_size) hg0 (by simp; try omega); have hz0s := hg0.size; have e0 := fun o => World.cell?_of_block (a := ⟨w.heap.size, o, none⟩) (made_at hg0 (by simp; try omega)); have e1 := fun o => World.cell?_of_block (a := ⟨w.heap.size + 1, o, none⟩) (made_at hg0 (by simp; try omega)); have f0 := fun o => World.frozen?_of_block (a := ⟨w.heap.size, o, none⟩) (made_at hg0 (by simp; try omega)); have f1 := fun o => World.frozen?_of_block (a := ⟨w.heap.size + 1, o, none⟩) (made_at hg0 (by simp; try omega)); have kA := e0 0; have kB := e0 1; have kC := e1 0; have kD := e1 1; clear e0 e1 hm0 hg0; simp [go_sem] at kA kB kC kD f0 f1; simp only [World.size_alloc] at hr0 hz0s))
  have hnm : n ≤ maxLen := by unfold maxLen; omega
  have hln := Lib.hid hs.row.len
  have hng := Lib.hid hs.neg.symm
  go_loopw [7, 8] (fun rv iv wr => OvRel W0 (w.heap.size + 1 + 1) d (limbs (ab z)) n rv iv wr) (fun _ iv _ => (intOf iv + 1).toNat)
  case atStart => exact ⟨n, 0, List.replicate n 0, rfl, rfl, Nat.le_refl _, by omega, by omega, by simp, Dig.zeros n, by rw [List.drop_eq_nil_of_le (by have := hln.out; omega), List.drop_eq_nil_of_le (by simp)]; simp [val], hr0⟩
  case round =>
    obtain ⟨k, rest, qs, rfl, rfl, hk, hr1, hr2, hqn, hqd, hqv, hrow⟩ := hrel
    have kA1 := (hrow.only.cell (b := w.heap.size) (by omega) 0).trans kA
    have kB1 := (hrow.only.cell (b := w.heap.size) (by omega) 1).trans kB
    have HQ := Lib.hid hqv
    have HL := Lib.hid hqn
    by_cases h0 : 0 < k
    · obtain ⟨b, off, rfl, hb, hcs⟩ := hs.row.at (by omega)
      have hcell := (hrow.only.cell (b := b) (by omega) (off + (k - 1))).trans ((hb0.cell (p := ⟨b, off + (k - 1), none⟩) hb).trans (hcs (k - 1) (by omega)))
      have hdz := (limbs_dig (ab z)).getD (k - 1)
      have hg1 := hrow.cell (j := k - 1) (by omega)
      have hg2 := hrow.free (k - 1)
      have HS := Lib.hid (fun (y x : Int) (e : rest * 10000 + (limbs (ab z)).getD (k - 1) 0 = d * y + x) => div_step (a := limbs (ab z)) (q := qs) (n := d) (rest := rest) (x := x) (y := y) (i := k - 1) (by have := hln.out; omega) (by have := hln.out; have := HL.out; omega) (by rw [show k - 1 + 1 = k by omega]; exact HQ.out) e)
      rw [List.getD_eq_getElem?_getD] at hdz HS
      have hdd := div_digit hd ⟨hr1, hr2⟩ hdz
      have hmm := Int.emod_nonneg (rest * 10000 + (limbs (ab z))[k - 1]?.getD 0) (b := d) (by omega)
      have hml := Int.emod_lt_of_pos (rest * 10000 + (limbs (ab z))[k - 1]?.getD 0) (b := d) (by omega)
      have HE := Lib.hid (show rest * 10000 + (limbs (ab z))[k - 1]?.getD 0 = d * ((rest * 10000 + (limbs (ab z))[k - 1]?.getD 0) / d) + (rest * 10000 + (limbs (ab z))[k - 1]?.getD 0) % d by have := Int.emod_add_mul_ediv (rest * 10000 + (limbs (ab z))[k - 1]?.getD 0) d; omega)
      clear hcs hqv hqn
      go_wp2_with fail
      go_roundw
      case rel => exact ⟨k - 1, _, qs.set (k - 1) _, rfl, by congr 1; omega, by omega, hmm, hml, by simp [HL.out], hqd.set _ hdd, HS.out _ _ HE.out, hrow.set _ _⟩
      case measure => simp [intOf]; omega
    · obtain rfl : k = 0 := by omega
      have HA := Lib.hid (div_all hd hng.out ⟨hr1, hr2⟩ HQ.out)
      have T1 : ∀ W, Below wr.heap.size wr W → Calls Tryz.prog 79 #[.bool false, .slice (some ⟨w.heap.size + 1 + 1, 0, none⟩) n n] W (NewW W (z / d)) := fun W hW => by
        have := trimmed_any false _ n n qs W ((hrow.sx hqn hnm).below hW) (by omega) hqd
        rw [HA.out.1] at this
        exact this
      have hbw := hrow.below hb0 (by omega)
      have hsz := hrow.size
      have kC1 := (hrow.only.cell (b := w.heap.size + 1) (by omega) 0).trans kC
      have kD1 := (hrow.only.cell (b := w.heap.size + 1) (by omega) 1).trans kD
      have fC1 := fun o => (hrow.only.froz (b := w.heap.size + 1) (by omega) o).trans (f1 o)
      clear hqv hqn hrow
      go_wp2_with (first | (have _t := tok1; go_at_call 79; (with_reducible refine ((T1 _ (by repeat' first | (with_reducible first | apply zRf | assumption | apply zDn | apply zDr | apply zAl | apply zSt | refine zVi (by assumption) ?_ ?_) | go_size))).mono ?_); rintro e w1 ⟨b1, a1, n1, c1, rfl, hv1, hf1, hb1⟩; clear tok1 _t; have hz1 := hb1.size; (try simp only [World.size_alloc, World.size_setCell, World.size_drew, World.size_drewN'] at hz1); (try (have kq := cellAt hb1 (w.heap.size) (by go_size); have k1_w_0_0 := kq 0; have k1_w_0_1 := kq 1; clear kq; have f1_w_0 := frozAt hb1 (w.heap.size) (by go_size); simp [go_sem, *] at k1_w_0_0 k1_w_0_1 f1_w_0)); (try have l1_w_0 : w.heap.size < w1.heap.size := by omega); (try (have kq := cellAt hb1 (w.heap.size + 1) (by go_size); have k1_w_1_0 := kq 0; have k1_w_1_1 := kq 1; clear kq; have f1_w_1 := frozAt hb1 (w.heap.size + 1) (by go_size); simp [go_sem, *] at k1_w_1_0 k1_w_1_1 f1_w_1)); (try have l1_w_1 : w.heap.size + 1 < w1.heap.size := by omega)))
      refine bodyPost_ret (v := .tuple #[.agg #[.bool b1, .slice a1 n1 c1], .int .i64 rest]) (by simp [results, Tryz.results128, go_sem, *]) rfl ⟨_, _, _, _, by rw [← HA.out.2], ⟨hv1.neg, ?_⟩, ?_, ?_⟩
      · have hr1 := hv1.row
        (repeat' first | exact hr1 | refine Sx.set ?_ ?_ _ _ | refine Sx.alloc ?_ _ | refine Sx.drew ?_ | (intro A e; have := hf1 A e; (try simp only [World.size_alloc, World.size_setCell, World.size_drew, World.size_drewN'] at this); omega))
      · (intro A e; have := hf1 A e; (try simp only [World.size_alloc, World.size_setCell, World.size_drew, World.size_drewN'] at this); omega)
      repeat' first | (with_reducible first | apply zRf | assumption | apply zDn | apply zDr | apply zAl | apply zSt | refine zVi (by assumption) ?_ ?_) | go_size
theorem afarW1 {w : World} {b1 o1 b2 o2 : Nat} {x v : Value} (h : w.cell? ⟨b2, o2, none⟩ = some v) (hne : b1 ≠ b2) : (w.setCell ⟨b1, o1, none⟩ x).cell? ⟨b2, o2, none⟩ = some v := by
  rw [← h]
  exact World.cell?_of_block (a := ⟨b2, o2, none⟩) (Below.heap_setCell w ⟨b1, o1, none⟩ x b2 (fun e => hne e.symm))
theorem afarW2 {w : World} {b1 o1 o1' b2 o2 : Nat} {x y v : Value} (h : w.cell? ⟨b2, o2, none⟩ = some v) (hne : b1 ≠ b2) : ((w.setCell ⟨b1, o1, none⟩ x).setCell ⟨b1, o1', none⟩ y).cell? ⟨b2, o2, none⟩ = some v := afarW1 (afarW1 h hne) hne
theorem divWhole_neg (a : Option Addr) (n c : Nat) (z d : Int) (w : World) (hs : Wx w true a n c z) (hl : n ≤ 9000) (hd : 1 ≤ d) (hd2 : d ≤ 100000000000000) :
    Calls Tryz.prog 128 #[.agg #[.bool true, .slice a n c], .int .i64 d] w (NewQ w z d) := by
  obtain ⟨i0, hi, hz0, hz1, hz2⟩ := info_parts infoInt
  have tok1 : True := trivial
  have tok2 : True := trivial
  have tok3 : True := trivial
  go_enter Tryz.func128, Tryz.ntmps128
  go_wp2_with (first | (at_make; refine wpList_make_full _ rfl _ _ 80 rfl (w.heap.size + 2) 3 i0 (.int .i64 0) 1 Tryz.underlying80 hi hz0 hz1 .i64 .i64 _ _ n rfl rfl rfl rfl (by rw [hz2]; omega) (by unfold maxLen; omega) (by simp) ?_; intro W0 hm0 hg0; have hr0 := RowW.start hm0; have hb0 := made_below (B := w.heap.size) (a := w) (by repeat' first | (with_reducible first | apply zRf | assumption | apply zDn | apply zDr | apply zAl | apply zSt | refine zVi (by assumption) ?_ ?_) | go_size) hg0 (by simp; try omega); have hz0s := hg0.size; have e0 := fun o => World.cell?_of_block (a := ⟨w.heap.size, o, none⟩) (made_at hg0 (by simp; try omega)); have e1 := fun o => World.cell?_of_block (a := ⟨w.heap.size + 1, o, none⟩) (made_at hg0 (by simp; try omega)); have f0 := fun o => World.frozen?_of_block (a := ⟨w.heap.size, o, none⟩) (made_at hg0 (by simp; try omega)); have f1 := fun o => World.frozen?_of_block (a := ⟨w.heap.size + 1, o, none⟩) (made_at hg0 (by simp; try omega)); have kA := e0 0; have kB := e0 1; have kC := e1 0; have kD := e1 1; clear e0 e1 hm0 hg0; simp [go_sem] at kA kB kC kD f0 f1; simp only [World.size_alloc] at hr0 hz0s))
  have hnm : n ≤ maxLen := by unfold maxLen; omega
  have hln := Lib.hid hs.row.len
  have hng := Lib.hid hs.neg.symm
  have hneg : z < 0 := by have := hs.neg; simpa [ngB] using this.symm
  go_loopw [7, 8] (fun rv iv wr => OvRel W0 (w.heap.size + 1 + 1) d (limbs (ab z)) n rv iv wr) (fun _ iv _ => (intOf iv + 1).toNat)
  case atStart => exact ⟨n, 0, List.replicate n 0, rfl, rfl, Nat.le_refl _, by omega, by omega, by simp, Dig.zeros n, by rw [List.drop_eq_nil_of_le (by have := hln.out; omega), List.drop_eq_nil_of_le (by simp)]; simp [val], hr0⟩
  case round =>
    obtain ⟨k, rest, qs, rfl, rfl, hk, hr1, hr2, hqn, hqd, hqv, hrow⟩ := hrel
    have kA1 := (hrow.only.cell (b := w.heap.size) (by omega) 0).trans kA
    have kB1 := (hrow.only.cell (b := w.heap.size) (by omega) 1).trans kB
    have HQ := Lib.hid hqv
    have HL := Lib.hid hqn
    by_cases h0 : 0 < k
    · obtain ⟨b, off, rfl, hb, hcs⟩ := hs.row.at (by omega)
      have hcell := (hrow.only.cell (b := b) (by omega) (off + (k - 1))).trans ((hb0.cell (p := ⟨b, off + (k - 1), none⟩) hb).trans (hcs (k - 1) (by omega)))
      have hdz := (limbs_dig (ab z)).getD (k - 1)
      have hg1 := hrow.cell (j := k - 1) (by omega)
      have hg2 := hrow.free (k - 1)
      have HS := Lib.hid (fun (y x : Int) (e : rest * 10000 + (limbs (ab z)).getD (k - 1) 0 = d * y + x) => div_step (a := limbs (ab z)) (q := qs) (n := d) (rest := rest) (x := x) (y := y) (i := k - 1) (by have := hln.out; omega) (by have := hln.out; have := HL.out; omega) (by rw [show k - 1 + 1 = k by omega]; exact HQ.out) e)
      rw [List.getD_eq_getElem?_getD] at hdz HS
      have hdd := div_digit hd ⟨hr1, hr2⟩ hdz
      have hmm := Int.emod_nonneg (rest * 10000 + (limbs (ab z))[k - 1]?.getD 0) (b := d) (by omega)
      have hml := Int.emod_lt_of_pos (rest * 10000 + (limbs (ab z))[k - 1]?.getD 0) (b := d) (by omega)
      have HE := Lib.hid (show rest * 10000 + (limbs (ab z))[k - 1]?.getD 0 = d * ((rest * 10000 + (limbs (ab z))[k - 1]?.getD 0) / d) + (rest * 10000 + (limbs (ab z))[k - 1]?.getD 0) % d by have := Int.emod_add_mul_ediv (rest * 10000 + (limbs (ab z))[k - 1]?.getD 0) d; omega)
      clear hcs hqv hqn
      go_wp2_with fail
      go_roundw
      case rel => exact ⟨k - 1, _, qs.set (k - 1) _, rfl, by congr 1; omega, by omega, hmm, hml, by simp [HL.out], hqd.set _ hdd, HS.out _ _ HE.out, hrow.set _ _⟩
      case measure => simp [intOf]; omega
    · obtain rfl : k = 0 := by omega
      have HA := Lib.hid (show ab z = d * val qs + rest by have := HQ.out; rw [List.drop_zero, List.drop_zero, val_ab'] at this; exact this)
      have hbw := hrow.below hb0 (by omega)
      have hsz := hrow.size
      have kC1 := (hrow.only.cell (b := w.heap.size + 1) (by omega) 0).trans kC
      have kD1 := (hrow.only.cell (b := w.heap.size + 1) (by omega) 1).trans kD
      have fC1 := fun o => (hrow.only.froz (b := w.heap.size + 1) (by omega) o).trans (f1 o)
      have hlz : val qs < 10000 ^ n := by have := val_lt hqd; rwa [HL.out] at this
      have hlq : ln (mkW true (val qs)) ≤ n := by rw [ln_le, mkW_ab (val_nonneg hqd)]; exact hlz
      have T0 : ∀ W, Below wr.heap.size wr W → Calls Tryz.prog 79 #[.bool true, .slice (some ⟨w.heap.size + 1 + 1, 0, none⟩) n n] W (NewW W (mkW true (val qs))) := fun W hW => trimmed_any true _ n n qs W ((hrow.sx hqn hnm).below hW) (by omega) hqd
      have hqn0 := val_nonneg hqd
      have hngz : ngB z = true := by simp [ngB, hneg]
      by_cases hrest : 0 < rest
      · have hdn := div_neg (a := z) (n := d) (q := val qs) (r := rest) (by omega) HA.out ⟨hrest, hr2⟩ hneg
        rw [hngz] at hdn
        have HD := Lib.hid hdn
        have TS : ∀ (W : World) (b1 : Bool) (a1 : Option Addr) (n1 c1 : Nat) {b3 : Bool} {a3 : Option Addr} {n3 c3 : Nat}, Wx W b1 a1 n1 c1 (mkW true (val qs)) → Wx W b3 a3 n3 c3 (-1) → Calls Tryz.prog 61 #[.agg #[.bool b1, .slice a1 n1 c1], .agg #[.bool b3, .slice a3 n3 c3]] W (NewW W (z / d)) := fun W b1 a1 n1 c1 b3 a3 n3 c3 g1 g2 => by
          exact addWholes_eq g1 g2 (by have := HD.out.1; omega) (by omega) (by have := ln_small (a := -1) (by omega) (by omega); omega)
        have T1 := T0
        clear hqv hqn hrow hlz hlq hqn0 hdn T0
        generalize mkW true (val qs) = q at *
        go_wp2_with (first | (have _t := tok1; go_at_call 79; (with_reducible refine ((T1 _ (by repeat' first | (with_reducible first | apply zRf | assumption | apply zDn | apply zDr | apply zAl | apply zSt | refine zVi (by assumption) ?_ ?_) | go_size))).mono ?_); rintro e w1 ⟨b1, a1, n1, c1, rfl, hv1, hf1, hb1⟩; clear tok1 _t; have hz1 := hb1.size; (try simp only [World.size_alloc, World.size_setCell, World.size_drew, World.size_drewN'] at hz1); (try (have kq := cellAt hb1 (w.heap.size) (by go_size); have k1_w_0_0 := kq 0; have k1_w_0_1 := kq 1; clear kq; have f1_w_0 := frozAt hb1 (w.heap.size) (by go_size); simp [go_sem, *] at k1_w_0_0 k1_w_0_1 f1_w_0)); (try have l1_w_0 : w.heap.size < w1.heap.size := by omega); (try (have kq := cellAt hb1 (w.heap.size + 1) (by go_size); have k1_w_1_0 := kq 0; have k1_w_1_1 := kq 1; clear kq; have f1_w_1 := frozAt hb1 (w.heap.size + 1) (by go_size); simp [go_sem, *] at k1_w_1_0 k1_w_1_1 f1_w_1)); (try have l1_w_1 : w.heap.size + 1 < w1.heap.size := by omega)))
        go_region_held3 (fun w' => w'.cell? ⟨w1.heap.size, 0, none⟩ = some (.bool b1) ∧ w'.cell? ⟨w1.heap.size, 1, none⟩ = some (.slice a1 n1 c1)) (first | go_keep | exact ⟨afarW2 (by assumption) (by omega), afarW2 (by assumption) (by omega)⟩) (first | (have _t := tok2; go_at_call 60; (with_reducible refine ((wholeOf_any (-1) _ (by omega) (by omega))).mono ?_); rintro e w2 ⟨b2, a2, n2, c2, rfl, hv2, hf2, hb2⟩; clear tok2 _t; have hz2 := hb2.size; (try simp only [World.size_alloc, World.size_setCell, World.size_drew, World.size_drewN'] at hz2); (try (have kq := cellAt hb2 (w.heap.size) (by go_size); have k2_w_0_0 := kq 0; have k2_w_0_1 := kq 1; clear kq; have f2_w_0 := frozAt hb2 (w.heap.size) (by go_size); simp [go_sem, *] at k2_w_0_0 k2_w_0_1 f2_w_0)); (try have l2_w_0 : w.heap.size < w2.heap.size := by omega); (try (have kq := cellAt hb2 (w.heap.size + 1) (by go_size); have k2_w_1_0 := kq 0; have k2_w_1_1 := kq 1; clear kq; have f2_w_1 := frozAt hb2 (w.heap.size + 1) (by go_size); simp [go_sem, *] at k2_w_1_0 k2_w_1_1 f2_w_1)); (try have l2_w_1 : w.heap.size + 1 < w2.heap.size := by omega); (try (have kq := cellAt hb2 (w1.heap.size) (by go_size); have k2_w1_0_0 := kq 0; have k2_w1_0_1 := kq 1; clear kq; have f2_w1_0 := frozAt hb2 (w1.heap.size) (by go_size); simp [go_sem, *] at k2_w1_0_0 k2_w1_0_1 f2_w1_0)); (try have l2_w1_0 : w1.heap.size < w2.heap.size := by omega); (try clear k1_w_0_0 k1_w_0_1 f1_w_0); (try clear l1_w_0); (try clear k1_w_1_0 k1_w_1_1 f1_w_1); (try clear l1_w_1)) | (have _t := tok3; go_at_call 61; (with_reducible refine ((TS _ _ _ _ _ (hv1.below (by repeat' first | (with_reducible first | apply zRf | assumption | apply zDn | apply zDr | apply zAl | apply zSt | refine zVi (by assumption) ?_ ?_) | go_size)) hv2)).mono ?_); rintro e w3 ⟨b7, a7, n7, c7, rfl, h7, f7, hb3⟩; clear tok3 _t; have hz3 := hb3.size; (try simp only [World.size_alloc, World.size_setCell, World.size_drew, World.size_drewN'] at hz3); (try (have kq := cellAt hb3 (w.heap.size) (by go_size); have k3_w_0_0 := kq 0; have k3_w_0_1 := kq 1; clear kq; have f3_w_0 := frozAt hb3 (w.heap.size) (by go_size); simp [go_sem, *] at k3_w_0_0 k3_w_0_1 f3_w_0)); (try have l3_w_0 : w.heap.size < w3.heap.size := by omega); (try (have kq := cellAt hb3 (w.heap.size + 1) (by go_size); have k3_w_1_0 := kq 0; have k3_w_1_1 := kq 1; clear kq; have f3_w_1 := frozAt hb3 (w.heap.size + 1) (by go_size); simp [go_sem, *] at k3_w_1_0 k3_w_1_1 f3_w_1)); (try have l3_w_1 : w.heap.size + 1 < w3.heap.size := by omega); (try (have kq := cellAt hb3 (w1.heap.size) (by go_size); have k3_w1_0_0 := kq 0; have k3_w1_0_1 := kq 1; clear kq; have f3_w1_0 := frozAt hb3 (w1.heap.size) (by go_size); simp [go_sem, *] at k3_w1_0_0 k3_w1_0_1 f3_w1_0)); (try have l3_w1_0 : w1.heap.size < w3.heap.size := by omega); (try clear k1_w_0_0 k1_w_0_1 f1_w_0); (try clear l1_w_0); (try clear k1_w_1_0 k1_w_1_1 f1_w_1); (try clear l1_w_1); (try clear k2_w_0_0 k2_w_0_1 f2_w_0); (try clear l2_w_0); (try clear k2_w_1_0 k2_w_1_1 f2_w_1); (try clear l2_w_1); (try clear k2_w1_0_0 k2_w1_0_1 f2_w1_0); (try clear l2_w1_0)))
        go_wp2_with fail
        have hwr : IntKind.i64.wrap (d - rest) = d - rest := IntWalk.i64_in _ (by omega)
        refine bodyPost_ret (v := .tuple #[.agg #[.bool b7, .slice a7 n7 c7], .int .i64 (d - rest)]) (by simp [results, Tryz.results128, go_sem, *]) rfl ⟨_, _, _, _, by rw [← HD.out.2], ⟨h7.neg, ?_⟩, ?_, ?_⟩
        · have hr7 := h7.row
          (repeat' first | exact hr7 | refine Sx.set ?_ ?_ _ _ | refine Sx.alloc ?_ _ | refine Sx.drew ?_ | (intro A e; have := f7 A e; (try simp only [World.size_alloc, World.size_setCell, World.size_drew, World.size_drewN'] at this); omega))
        · (intro A e; have := f7 A e; (try simp only [World.size_alloc, World.size_setCell, World.size_drew, World.size_drewN'] at this); omega)
        repeat' first | (with_reducible first | apply zRf | assumption | apply zDn | apply zDr | apply zAl | apply zSt | refine zVi (by assumption) ?_ ?_) | go_size
      · obtain rfl : rest = 0 := by omega
        have hdp := div_pos (a := z) (n := d) (q := val qs) (r := 0) (by omega) HA.out ⟨by omega, by omega⟩ (.inr rfl)
        rw [hngz] at hdp
        have HD := Lib.hid hdp
        have T1 : ∀ W, Below wr.heap.size wr W → Calls Tryz.prog 79 #[.bool true, .slice (some ⟨w.heap.size + 1 + 1, 0, none⟩) n n] W (NewW W (z / d)) := fun W hW => by
          have := T0 W hW
          rw [HD.out.1] at this
          exact this
        clear hqv hqn hrow hlz hlq hqn0 hdp T0
        go_wp2_with (first | (have _t := tok1; go_at_call 79; (with_reducible refine ((T1 _ (by repeat' first | (with_reducible first | apply zRf | assumption | apply zDn | apply zDr | apply zAl | apply zSt | refine zVi (by assumption) ?_ ?_) | go_size))).mono ?_); rintro e w1 ⟨b1, a1, n1, c1, rfl, hv1, hf1, hb1⟩; clear tok1 _t; have hz1 := hb1.size; (try simp only [World.size_alloc, World.size_setCell, World.size_drew, World.size_drewN'] at hz1); (try (have kq := cellAt hb1 (w.heap.size) (by go_size); have k1_w_0_0 := kq 0; have k1_w_0_1 := kq 1; clear kq; have f1_w_0 := frozAt hb1 (w.heap.size) (by go_size); simp [go_sem, *] at k1_w_0_0 k1_w_0_1 f1_w_0)); (try have l1_w_0 : w.heap.size < w1.heap.size := by omega); (try (have kq := cellAt hb1 (w.heap.size + 1) (by go_size); have k1_w_1_0 := kq 0; have k1_w_1_1 := kq 1; clear kq; have f1_w_1 := frozAt hb1 (w.heap.size + 1) (by go_size); simp [go_sem, *] at k1_w_1_0 k1_w_1_1 f1_w_1)); (try have l1_w_1 : w.heap.size + 1 < w1.heap.size := by omega)))
        refine bodyPost_ret (v := .tuple #[.agg #[.bool b1, .slice a1 n1 c1], .int .i64 0]) (by simp [results, Tryz.results128, go_sem, *]) rfl ⟨_, _, _, _, by rw [← HD.out.2], ⟨hv1.neg, ?_⟩, ?_, ?_⟩
        · have hr1 := hv1.row
          (repeat' first | exact hr1 | refine Sx.set ?_ ?_ _ _ | refine Sx.alloc ?_ _ | refine Sx.drew ?_ | (intro A e; have := hf1 A e; (try simp only [World.size_alloc, World.size_setCell, World.size_drew, World.size_drewN'] at this); omega))
        · (intro A e; have := hf1 A e; (try simp only [World.size_alloc, World.size_setCell, World.size_drew, World.size_drewN'] at this); omega)
        repeat' first | (with_reducible first | apply zRf | assumption | apply zDn | apply zDr | apply zAl | apply zSt | refine zVi (by assumption) ?_ ?_) | go_size
theorem divWhole_any {b : Bool} {a : Option Addr} {n c : Nat} {z d : Int} {w : World} (hs : Wx w b a n c z) (hl : ln z ≤ 9000) (hd : 1 ≤ d) (hd2 : d ≤ 100000000000000) :
    Calls Tryz.prog 128 #[.agg #[.bool b, .slice a n c], .int .i64 d] w (NewQ w z d) := by
  have hn := hs.ln
  cases b
  · exact divWhole_pos a n c z d w hs (by omega) hd hd2
  · exact divWhole_neg a n c z d w hs (by omega) hd hd2
end
end Go.Proofs.YtgjppinjapdbeaaGreat
