/- Lemmas and contracts of functions. No condition. -/
import Derived.Test.YtgjppinjapdbeaaGreatPk1
import Derived.Test.YtgjppinjapdbeaaGreatPk2
import Derived.Test.YtgjppinjapdbeaaGreatPk4
import Derived.Test.YtgjppinjapdbeaaGreatPk19
import Derived.Test.YtgjppinjapdbeaaGreatPk21
namespace Go.Proofs.YtgjppinjapdbeaaGreat
section
open Go.RowKit
set_option linter.unusedVariables false
set_option maxHeartbeats 1000000
set_option maxRecDepth 20000
set_option linter.unusedSimpArgs false
attribute [local go_sem] openAt openUpon
def bitsOf : RSt → Int
  | .at p q => bitsZ p q
  | _ => 0
theorem fieldLimbsI (b : Bool) (a : Option Addr) (n c : Nat) (w : World) : (Instr.field 82 (.agg #[.bool b, .slice a n c]) 1).run Tryz.prog w = .ok (.slice a n c) w := by kernel_rfl
def BaRel (w : World) (g : Nat) (st : Nat → RSt) (A B : Int) (n : Nat) (iv : Value) (wr : World) : Prop := ∃ (j : Nat) (p q : Int) (b : Bool) (a : Option Addr) (m c : Nat) (b2 : Bool) (a2 : Option Addr) (m2 c2 : Nat), iv = .int .i64 j ∧ j ≤ n ∧ st j = .at p q ∧ wr.heap[w.heap.size]? = some (.cells #[.int .i64 A, .int .i64 B] 32 (0, 0)) ∧ wr.heap[g]? = some (.cells #[.bool b, .slice a m c, .bool b2, .slice a2 m2 c2] 109 (0, 0)) ∧ Wx wr b a m c p ∧ Wx wr b2 a2 m2 c2 q ∧ Below w.heap.size w wr
theorem bitsAt_any (A B x y e : Int) (n : Nat) (w : World) (hA : -1000 ≤ A ∧ A ≤ 1000) (hBB : -10000 ≤ B ∧ B ≤ 10000) (hcv : coV A B ≠ 0) (hx : -10000 ≤ x ∧ x ≤ 10000) (he : 0 ≤ e ∧ e ≤ 20) (hn : n ≤ 1000) :
    Calls Tryz.prog 97 #[.agg #[.int .i64 A, .int .i64 B], .agg #[.int .i64 x, .int .i64 y, .int .i64 e], .int .i64 n] w fun r w' => r = .returned (.tuple #[.int .i64 (bitsOf (ptSt A B x e n)), .bool (infB (ptSt A B x e n)), .bool (htOk (ptSt A B x e n))]) ∧ Below w.heap.size w w' := by
  have ee := mul_bd (a := e) (b := e) (A := 20) (B := 20) (by omega) (by omega)
  by_cases h0 : e = 0
  · rw [show ptSt A B x e n = .inf by simp [ptSt, h0], show bitsOf .inf = 0 from rfl, show infB .inf = true from rfl, show htOk .inf = true from rfl]
    subst h0
    go_enter Tryz.func97, Tryz.ntmps97
    go_wp2_with fail
    refine bodyPost_ret (v := .tuple #[.int .i64 0, .bool true, .bool true]) (by simp [results, Tryz.results97, go_sem, *]) rfl ⟨rfl, ?_⟩
    repeat' first | (with_reducible first | apply zRf | assumption | apply zDn | apply zDr | apply zAl | apply zSt | refine zVi (by assumption) ?_ ?_) | go_size
  · have h0' : (e == 0) = false := by simpa using h0
    have S0 := Lib.hid (ptSt_zero (A := A) (B := B) (x := x) h0)
    have SS := Lib.hid (fun k => ptSt_succ (A := A) (B := B) (x := x) h0 k)
    have SK := Lib.hid (fun k => ptSt_ok (A := A) (B := B) hx he k)
    have SI := Lib.hid (fun j (h : ptSt A B x e j = .inf) k hk => ptSt_inf h k hk)
    have SB := Lib.hid (fun j (h : ptSt A B x e j = .bad) k hk => ptSt_bad h k hk)
    generalize hst : ptSt A B x e = st at *
    clear hst
    have hnn : (n : Int) ≤ 1000 := by omega
    have hmx := max_most
    have tok1 : True := trivial
    have tok2 : True := trivial
    have tok3 : True := trivial
    have tok4 : True := trivial
    have tok5 : True := trivial
    have tok6 : True := trivial
    go_enter Tryz.func97, Tryz.ntmps97
    go_upto_region 3 with (fail)
    refine chk (fun W => Below w.heap.size w W ∧ W.heap[w.heap.size]? = some (.cells #[.int .i64 A, .int .i64 B] 32 (0, 0)) ∧ W.heap[w.heap.size + 1]? = some (.cells #[.int .i64 x, .int .i64 y, .int .i64 e] 34 (0, 0))) (by refine ⟨?_, ?_, ?_⟩ <;> (repeat' first | (with_reducible first | assumption | (apply Ne.symm; assumption) | apply Nat.le_refl | apply Nat.le_add_right | apply zL | apply zRf | apply Wx.box | apply Wx.box4 | apply zWa | apply Wx.drew | apply zWn | apply bx_drew | apply bx_drewN | apply bx_set3 | apply bx_set2 | apply bx_set4 | apply bx_set1) | ((with_reducible apply bx_new); (focus (go_size; done))) | (with_reducible first | apply zOl | apply zFa | apply zDn | apply zDr | apply zAl | apply zSt | refine zVi (by assumption) ?_ ?_) | go_size | omega)) ?_
    rintro w1 ⟨hB1, H_C_1, H_P_1⟩
    obtain ⟨k_C_1_0, k_C_1_1, f_C_1, l_C_1⟩ := bk2 H_C_1
    replace H_C_1 := Lib.hid H_C_1
    obtain ⟨k_P_1_0, k_P_1_1, k_P_1_2, f_P_1, l_P_1⟩ := bk3 H_P_1
    replace H_P_1 := Lib.hid H_P_1
    refine wp_open (n := 11) (by kernel_rfl) (by kernel_rfl) (by kernel_rfl) (by kernel_rfl) ?_
    simp only [List.take_succ_cons, List.take_zero]
    apply wpS_quiet
    · intro γ W hW hp
      refine ⟨rfl, ?_⟩
      go_big_quiet_op
      first | exact rfl
    · exact locS_const _
    try simp only [Act.put, List.setIfInBounds_toArray, List.set_cons_succ, List.set_cons_zero, Nat.reduceAdd]
    apply wpS_quiet
    · intro γ W hW hp
      have hs := hW.size
      (try simp only [World.size_alloc, World.size_setCell, World.size_drew, World.size_drewN'] at hs)
      have kx_0 := fun x : Over W => ((cellAt x.lies (w.heap.size + 1) (by omega) 0).trans (cellAt hW (w.heap.size + 1) (by first | omega | go_size) 0)).trans k_P_1_0
      have kx_1 := fun x : Over W => ((cellAt x.lies (w.heap.size + 1) (by omega) 1).trans (cellAt hW (w.heap.size + 1) (by first | omega | go_size) 1)).trans k_P_1_1
      have kx_2 := fun x : Over W => ((cellAt x.lies (w.heap.size + 1) (by omega) 2).trans (cellAt hW (w.heap.size + 1) (by first | omega | go_size) 2)).trans k_P_1_2
      clear hW hp
      refine ⟨rfl, ?_⟩
      go_big_quiet_op
      first | exact rfl
    · exact locS_const _
    try simp only [Act.put, List.setIfInBounds_toArray, List.set_cons_succ, List.set_cons_zero, Nat.reduceAdd]
    apply wpS_open (openW w.heap.size x)
    · intro γ W hW hp
      refine ⟨rfl, ?_⟩
      go_simp
      refine plainNew rfl ?_
      exact open_W (wholeOf_any x _ (by omega) (by omega)) (by (have := hW.size; (try simp only [World.size_alloc, World.size_setCell, World.size_drew, World.size_drewN'] at this); omega))
    try simp only [Act.put, List.setIfInBounds_toArray, List.set_cons_succ, List.set_cons_zero, Nat.reduceAdd]
    apply wpS_quiet
    · intro γ W hW hp
      refine ⟨rfl, ?_⟩
      go_big_quiet_op
      first | exact rfl
    · exact locS_const _
    try simp only [Act.put, List.setIfInBounds_toArray, List.set_cons_succ, List.set_cons_zero, Nat.reduceAdd]
    apply wpS_quiet
    · intro γ W hW hp
      have hs := hW.size
      (try simp only [World.size_alloc, World.size_setCell, World.size_drew, World.size_drewN'] at hs)
      have kx_0 := fun x : Over W => ((cellAt x.lies (w.heap.size + 1) (by omega) 0).trans (cellAt hW (w.heap.size + 1) (by first | omega | go_size) 0)).trans k_P_1_0
      have kx_1 := fun x : Over W => ((cellAt x.lies (w.heap.size + 1) (by omega) 1).trans (cellAt hW (w.heap.size + 1) (by first | omega | go_size) 1)).trans k_P_1_1
      have kx_2 := fun x : Over W => ((cellAt x.lies (w.heap.size + 1) (by omega) 2).trans (cellAt hW (w.heap.size + 1) (by first | omega | go_size) 2)).trans k_P_1_2
      clear hW hp
      refine ⟨rfl, ?_⟩
      go_big_quiet_op
      first | exact rfl
    · exact locS_const _
    try simp only [Act.put, List.setIfInBounds_toArray, List.set_cons_succ, List.set_cons_zero, Nat.reduceAdd]
    apply wpS_quiet
    · intro γ W hW hp
      refine ⟨rfl, ?_⟩
      go_big_quiet_op
      first | exact rfl
    · exact locS_const _
    try simp only [Act.put, List.setIfInBounds_toArray, List.set_cons_succ, List.set_cons_zero, Nat.reduceAdd]
    apply wpS_quiet
    · intro γ W hW hp
      have hs := hW.size
      (try simp only [World.size_alloc, World.size_setCell, World.size_drew, World.size_drewN'] at hs)
      have kx_0 := fun x : Over W => ((cellAt x.lies (w.heap.size + 1) (by omega) 0).trans (cellAt hW (w.heap.size + 1) (by first | omega | go_size) 0)).trans k_P_1_0
      have kx_1 := fun x : Over W => ((cellAt x.lies (w.heap.size + 1) (by omega) 1).trans (cellAt hW (w.heap.size + 1) (by first | omega | go_size) 1)).trans k_P_1_1
      have kx_2 := fun x : Over W => ((cellAt x.lies (w.heap.size + 1) (by omega) 2).trans (cellAt hW (w.heap.size + 1) (by first | omega | go_size) 2)).trans k_P_1_2
      clear hW hp
      refine ⟨rfl, ?_⟩
      go_big_quiet_op
      first | exact rfl
    · exact locS_const _
    try simp only [Act.put, List.setIfInBounds_toArray, List.set_cons_succ, List.set_cons_zero, Nat.reduceAdd]
    apply wpS_quiet
    · intro γ W hW hp
      refine ⟨rfl, ?_⟩
      go_big_quiet_op
      first | exact rfl
    · exact locS_const _
    try simp only [Act.put, List.setIfInBounds_toArray, List.set_cons_succ, List.set_cons_zero, Nat.reduceAdd]
    apply wpS_open (openW w.heap.size (e * e))
    · intro γ W hW hp
      refine ⟨rfl, ?_⟩
      go_simp
      refine plainNew rfl ?_
      exact open_W (wholeOf_any (e * e) _ (by omega) (by omega)) (by (have := hW.size; (try simp only [World.size_alloc, World.size_setCell, World.size_drew, World.size_drewN'] at this); omega))
    try simp only [Act.put, List.setIfInBounds_toArray, List.set_cons_succ, List.set_cons_zero, Nat.reduceAdd]
    apply wpS_quiet (v := fun γ => Value.agg ((γ 2).cells ++ (γ 8).cells))
    · intro γ W hW hp
      have hp_2 := hp _ (List.mem_append_left _ (List.mem_append_right _ (List.mem_singleton.2 rfl))) (by kernel_rfl)
      dsimp only at hp_2
      have hp_8 := hp _ (List.mem_append_right _ (List.mem_singleton.2 rfl)) (by kernel_rfl)
      dsimp only at hp_8
      obtain ⟨bA, aA, nA, cA, eA, -⟩ := hp_2
      obtain ⟨bB, aB, nB, cB, eB, -⟩ := hp_8
      refine ⟨rfl, ?_⟩
      simp only [eA, eB]
      go_big_quiet_op
      simp [Value.cells, eA, eB]
    · intro γ k g hk
      have h_2 : updV γ k g 2 = γ 2 := updV_other γ g (fun e => by subst e; exact absurd hk (by rw [show reachB .any _ 100 9 2 = true from by kernel_rfl]; simp))
      have h_8 : updV γ k g 8 = γ 8 := updV_other γ g (fun e => by subst e; exact absurd hk (by rw [show reachB .any _ 100 9 8 = true from by kernel_rfl]; simp))
      simp only [h_2, h_8]
    try simp only [Act.put, List.setIfInBounds_toArray, List.set_cons_succ, List.set_cons_zero, Nat.reduceAdd]
    apply wpS_open (newBox _ _ _)
    · intro γ W hW hp
      refine ⟨rfl, ?_⟩
      go_simp
      exact ⟨⟨⟨_, rfl, hW.size, heap_alloc_new _ _⟩, fun _ => ⟨_, rfl, Nat.le_refl _, by simp⟩⟩, (Below.refl _ _).alloc (Nat.le_refl _) _⟩
    try simp only [Act.put, List.setIfInBounds_toArray, List.set_cons_succ, List.set_cons_zero, Nat.reduceAdd]
    apply wpS_end
    intro γ w2 hb2 hG2 hA2
    have hg2_2 := hG2 _ (List.mem_append_left _ (List.mem_append_left _ (List.mem_append_right _ (List.mem_singleton.2 rfl))))
    dsimp only at hg2_2
    have hg2_8 := hG2 _ (List.mem_append_left _ (List.mem_append_right _ (List.mem_singleton.2 rfl)))
    dsimp only at hg2_8
    obtain ⟨g2_10, e2_10, l2_10, k2_10⟩ := hG2 _ (List.mem_append_right _ (List.mem_singleton.2 rfl))
    dsimp only at e2_10 l2_10 k2_10
    have kb2_10 := fun o => blk_cell k2_10 o
    have fb2_10 := fun o => blk_frozen k2_10 o
    have lb2_10 := blk_lt' k2_10
    have ne2_10_C : w.heap.size ≠ g2_10 := Nat.ne_of_lt (Nat.lt_of_lt_of_le l_C_1 l2_10)
    have ne2_10_P : w.heap.size + 1 ≠ g2_10 := Nat.ne_of_lt (Nat.lt_of_lt_of_le l_P_1 l2_10)
    have lw2_10 : w.heap.size ≤ g2_10 := Nat.le_trans hB1.size l2_10
    clear hG2 hA2
    try simp only [e2_10]
    clear e2_10
    simp only [List.drop_succ_cons, List.drop_zero]
    have hz2 := hb2.size
    (try simp only [World.size_alloc, World.size_setCell, World.size_drew, World.size_drewN'] at hz2)
    obtain ⟨b1, a1, n1, c1, e1, h1, -⟩ := hg2_2
    obtain ⟨b2, a2, n2, c2, e2, h2, -⟩ := hg2_8
    simp only [e1, e2]
    clear e1 e2
    have H_C_2 := (hb2.block (w.heap.size) (blk_lt' H_C_1.out)).trans H_C_1.out
    clear k_C_1_0 k_C_1_1 f_C_1 H_C_1
    obtain ⟨k_C_2_0, k_C_2_1, f_C_2, l_C_2⟩ := bk2 H_C_2
    replace H_C_2 := Lib.hid H_C_2
    have H_P_2 := (hb2.block (w.heap.size + 1) (blk_lt' H_P_1.out)).trans H_P_1.out
    clear k_P_1_0 k_P_1_1 k_P_1_2 f_P_1 H_P_1
    obtain ⟨k_P_2_0, k_P_2_1, k_P_2_2, f_P_2, l_P_2⟩ := bk3 H_P_2
    replace H_P_2 := Lib.hid H_P_2
    have hB2 : Below w.heap.size w w2 := below_via hb2 (by assumption) (by go_size)
    go_upto_region 4 with (fail)
    replace H_C_2 := H_C_2.out
    replace H_P_2 := H_P_2.out
    refine chk (fun W => Below w.heap.size w W ∧ W.heap[w.heap.size]? = some (.cells #[.int .i64 A, .int .i64 B] 32 (0, 0)) ∧ W.heap[g2_10]? = some (.cells #[.bool b1, .slice a1 n1 c1, .bool b2, .slice a2 n2 c2] 109 (0, 0)) ∧ Wx W b1 a1 n1 c1 x ∧ Wx W b2 a2 n2 c2 (e * e)) (by refine ⟨?_, ?_, ?_, ?_, ?_⟩ <;> (repeat' first | (with_reducible first | assumption | (apply Ne.symm; assumption) | apply Nat.le_refl | apply Nat.le_add_right | apply zL | apply zRf | apply Wx.box | apply Wx.box4 | apply zWa | apply Wx.drew | apply zWn | apply bx_drew | apply bx_drewN | apply bx_set3 | apply bx_set2 | apply bx_set4 | apply bx_set1) | ((with_reducible apply bx_new); (focus (go_size; done))) | (with_reducible first | apply zOl | apply zFa | apply zDn | apply zDr | apply zAl | apply zSt | refine zVi (by assumption) ?_ ?_) | go_size | omega)) ?_
    try clear h1
    try clear h2
    clear k_C_2_0 k_C_2_1 f_C_2 H_C_2
    clear k_P_2_0 k_P_2_1 k_P_2_2 f_P_2 H_P_2
    clear hB2
    try clear kb2_10
    try clear fb2_10
    try clear k2_10
    rintro w3 ⟨hB3, H_C_3, H_L_3, h1', h2'⟩
    obtain ⟨k_C_3_0, k_C_3_1, f_C_3, l_C_3⟩ := bk2 H_C_3
    replace H_C_3 := Lib.hid H_C_3
    obtain ⟨k_L_3_0, k_L_3_1, k_L_3_2, k_L_3_3, f_L_3, l_L_3⟩ := bk4 H_L_3
    replace H_L_3 := Lib.hid H_L_3
    have h1 := h1'
    clear h1'
    have h2 := h2'
    clear h2'
    have hgw : w.heap.size + 2 ≤ g2_10 := by omega
    generalize g2_10 = g at *
    have HC3 := H_C_3.out
    have HL3 := H_L_3.out
    go_wp2_with fail
    go_loopw [26] (fun iv wr => BaRel w g st A B n iv wr) (fun iv _ => (n - intOf iv).toNat)
    case atStart => exact ⟨0, x, e * e, b1, a1, n1, c1, b2, a2, n2, c2, rfl, by omega, S0.out, HC3, HL3, h1, h2, hB3⟩
    case round =>
      clear HC3 HL3 h1 h2
      clear k_C_3_0
      clear k_C_3_1
      clear f_C_3 H_C_3
      clear k_L_3_0
      clear k_L_3_1
      clear k_L_3_2
      clear k_L_3_3
      clear f_L_3 H_L_3
      try clear ne2_10_C
      try clear ne2_10_P
      obtain ⟨j, p, q, b3, a3, n3, c3, b4, a4, n4, c4, rfl, hj, hst, hC, hL, ux, uz, hbw⟩ := hrel
      have hok := raB_bd (show raB p q = true by have := SK.out j; rw [hst] at this; exact this)
      have hjc : (j : Int) ≤ n := by omega
      by_cases hlt : j < n
      · have hltc : (j : Int) < n := by omega
        have hdr := dbl_run (SS.out j) hst
        obtain ⟨s, hs⟩ : ∃ v, botZ A B p q = v := ⟨_, rfl⟩
        have TB : ∀ W (b : Bool) (a : Option Addr) (n c : Nat) (b2 : Bool) (a2 : Option Addr) (n2 c2 : Nat), Wx W b a n c p → Wx W b2 a2 n2 c2 q → Calls Tryz.prog 109 #[.agg #[.int .i64 A, .int .i64 B], .agg #[.bool b, .slice a n c, .bool b2, .slice a2 n2 c2]] W (NewW W s) := fun W b a n c b2 a2 n2 c2 g1 g2 => denominatorOf_eq hA hBB g1 g2 hok.1 hok.2.1 hs
        rw [hs] at hdr
        clear hs
        obtain ⟨DB, hDB⟩ : ∃ v, dbl (4 * absI (coV A B)) A B p q = v := ⟨_, rfl⟩
        have TD : ∀ W (b : Bool) (a : Option Addr) (n c : Nat) (b2 : Bool) (a2 : Option Addr) (n2 c2 : Nat), Wx W b a n c p → Wx W b2 a2 n2 c2 q → Calls Tryz.prog 110 #[.agg #[.int .i64 A, .int .i64 B], .agg #[.bool b, .slice a n c, .bool b2, .slice a2 n2 c2]] W (NewRR W DB.1 DB.2.1 DB.2.2) := fun W b a n c b2 a2 n2 c2 g1 g2 => hDB ▸ doubleX_any A B p q b b2 a a2 n c n2 c2 W hA hBB hcv g1 g2 hok.1 hok.2.1
        rw [hDB] at hdr
        clear hDB
        have HDR := Lib.hid hdr
        have HST := Lib.hid hst
        clear hdr hst
        go_upto_region 6 with (fail)
        refine chk (fun W => Below w.heap.size w W ∧ W.heap[w.heap.size]? = some (.cells #[.int .i64 A, .int .i64 B] 32 (0, 0)) ∧ W.heap[g]? = some (.cells #[.bool b3, .slice a3 n3 c3, .bool b4, .slice a4 n4 c4] 109 (0, 0)) ∧ Wx W b3 a3 n3 c3 p ∧ Wx W b4 a4 n4 c4 q) (by refine ⟨?_, ?_, ?_, ?_, ?_⟩ <;> (repeat' first | (with_reducible first | assumption | (apply Ne.symm; assumption) | apply Nat.le_refl | apply Nat.le_add_right | apply zL | apply zRf | apply Wx.box | apply Wx.box4 | apply zWa | apply Wx.drew | apply zWn | apply bx_drew | apply bx_drewN | apply bx_set3 | apply bx_set2 | apply bx_set4 | apply bx_set1) | ((with_reducible apply bx_new); (focus (go_size; done))) | (with_reducible first | apply zOl | apply zFa | apply zDn | apply zDr | apply zAl | apply zSt | refine zVi (by assumption) ?_ ?_) | go_size | omega)) ?_
        try clear ux
        try clear uz
        clear hB3
        rintro w3 ⟨hB3, H_C_3, H_L_3, ux', uz'⟩
        obtain ⟨k_C_3_0, k_C_3_1, f_C_3, l_C_3⟩ := bk2 H_C_3
        replace H_C_3 := Lib.hid H_C_3
        obtain ⟨k_L_3_0, k_L_3_1, k_L_3_2, k_L_3_3, f_L_3, l_L_3⟩ := bk4 H_L_3
        replace H_L_3 := Lib.hid H_L_3
        have ux := ux'
        clear ux'
        have uz := uz'
        clear uz'
        clear hC hL
        have hfd := fieldLimbsI
        rcases HDR.out with ⟨s0, hn1, hd⟩ | ⟨s0, hd⟩
        · have hls := ln_zero.2 s0
          have HN := Lib.hid (SI.out (j + 1) hn1 n (by omega))
          clear s0 hn1 hd
          go_upto_region 7 with (first | (have _t := tok4; go_at_call 109; (with_reducible refine ((TB _ _ _ _ _ _ _ _ _ (ux.below (by repeat' first | (with_reducible first | apply zRf | assumption | apply zDn | apply zDr | apply zAl | apply zSt | refine zVi (by assumption) ?_ ?_) | go_size)) (uz.below (by repeat' first | (with_reducible first | apply zRf | assumption | apply zDn | apply zDr | apply zAl | apply zSt | refine zVi (by assumption) ?_ ?_) | go_size)))).mono ?_); rintro e w4 ⟨b5, a5, n5, c5, rfl, hs5, f5, hb4⟩; clear tok4 _t; have hz4 := hb4.size; (try simp only [World.size_alloc, World.size_setCell, World.size_drew, World.size_drewN'] at hz4); (try (have kq := cellAt hb4 (w.heap.size) (by go_size); have k4_w_0_0 := kq 0; have k4_w_0_1 := kq 1; clear kq; have f4_w_0 := frozAt hb4 (w.heap.size) (by go_size); simp [go_sem, *] at k4_w_0_0 k4_w_0_1 f4_w_0)); (try have l4_w_0 : w.heap.size < w4.heap.size := by omega); (try (have kq := cellAt hb4 (w.heap.size + 1) (by go_size); have k4_w_1_0 := kq 0; have k4_w_1_1 := kq 1; have k4_w_1_2 := kq 2; clear kq; have f4_w_1 := frozAt hb4 (w.heap.size + 1) (by go_size); simp [go_sem, *] at k4_w_1_0 k4_w_1_1 k4_w_1_2 f4_w_1)); (try have l4_w_1 : w.heap.size + 1 < w4.heap.size := by omega); (try clear k1_w_0_0 k1_w_0_1 f1_w_0); (try clear l1_w_0); (try clear k1_w_1_0 k1_w_1_1 k1_w_1_2 f1_w_1); (try clear l1_w_1); (try clear k2_w_0_0 k2_w_0_1 f2_w_0); (try clear l2_w_0); (try clear k2_w_1_0 k2_w_1_1 k2_w_1_2 f2_w_1); (try clear l2_w_1); (try clear k3_w_0_0 k3_w_0_1 f3_w_0); (try clear l3_w_0); (try clear k3_w_1_0 k3_w_1_1 k3_w_1_2 f3_w_1); (try clear l3_w_1); have hn5 := hs5.ln; rw [hls] at hn5; (try subst hn5)))
          have H_C_4 := (hb4.block (w.heap.size) (blk_lt' H_C_3.out)).trans H_C_3.out
          clear k_C_3_0 k_C_3_1 f_C_3 H_C_3
          obtain ⟨k_C_4_0, k_C_4_1, f_C_4, l_C_4⟩ := bk2 H_C_4
          replace H_C_4 := Lib.hid H_C_4
          have H_L_4 := (hb4.block (g) (blk_lt' H_L_3.out)).trans H_L_3.out
          clear k_L_3_0 k_L_3_1 k_L_3_2 k_L_3_3 f_L_3 H_L_3
          obtain ⟨k_L_4_0, k_L_4_1, k_L_4_2, k_L_4_3, f_L_4, l_L_4⟩ := bk4 H_L_4
          replace H_L_4 := Lib.hid H_L_4
          replace ux := ux.below hb4
          replace uz := uz.below hb4
          have hB4 : Below w.heap.size w w4 := below_via hb4 (by assumption) (by go_size)
          go_wp2_with fail
          refine bodyPost_ret (v := .tuple #[.int .i64 0, .bool true, .bool true]) (by simp [results, Tryz.results97, go_sem]) rfl ⟨by rw [HN.out]; rfl, ?_⟩
          repeat' first | (with_reducible first | apply zRf | assumption | apply zDn | apply zDr | apply zAl | apply zSt | refine zVi (by assumption) ?_ ?_) | go_size
        · have hls : ln s ≠ 0 := fun e => s0 (ln_zero.1 e)
          go_upto_region 8 with (first | (have _t := tok4; go_at_call 109; (with_reducible refine ((TB _ _ _ _ _ _ _ _ _ (ux.below (by repeat' first | (with_reducible first | apply zRf | assumption | apply zDn | apply zDr | apply zAl | apply zSt | refine zVi (by assumption) ?_ ?_) | go_size)) (uz.below (by repeat' first | (with_reducible first | apply zRf | assumption | apply zDn | apply zDr | apply zAl | apply zSt | refine zVi (by assumption) ?_ ?_) | go_size)))).mono ?_); rintro e w4 ⟨b5, a5, n5, c5, rfl, hs5, f5, hb4⟩; clear tok4 _t; have hz4 := hb4.size; (try simp only [World.size_alloc, World.size_setCell, World.size_drew, World.size_drewN'] at hz4); (try (have kq := cellAt hb4 (w.heap.size) (by go_size); have k4_w_0_0 := kq 0; have k4_w_0_1 := kq 1; clear kq; have f4_w_0 := frozAt hb4 (w.heap.size) (by go_size); simp [go_sem, *] at k4_w_0_0 k4_w_0_1 f4_w_0)); (try have l4_w_0 : w.heap.size < w4.heap.size := by omega); (try (have kq := cellAt hb4 (w.heap.size + 1) (by go_size); have k4_w_1_0 := kq 0; have k4_w_1_1 := kq 1; have k4_w_1_2 := kq 2; clear kq; have f4_w_1 := frozAt hb4 (w.heap.size + 1) (by go_size); simp [go_sem, *] at k4_w_1_0 k4_w_1_1 k4_w_1_2 f4_w_1)); (try have l4_w_1 : w.heap.size + 1 < w4.heap.size := by omega); (try clear k1_w_0_0 k1_w_0_1 f1_w_0); (try clear l1_w_0); (try clear k1_w_1_0 k1_w_1_1 k1_w_1_2 f1_w_1); (try clear l1_w_1); (try clear k2_w_0_0 k2_w_0_1 f2_w_0); (try clear l2_w_0); (try clear k2_w_1_0 k2_w_1_1 k2_w_1_2 f2_w_1); (try clear l2_w_1); (try clear k3_w_0_0 k3_w_0_1 f3_w_0); (try clear l3_w_0); (try clear k3_w_1_0 k3_w_1_1 k3_w_1_2 f3_w_1); (try clear l3_w_1); have hn5 : ((n5 : Int) == 0) = false := by { have := hs5.ln; simp; omega }))
          have H_C_4 := (hb4.block (w.heap.size) (blk_lt' H_C_3.out)).trans H_C_3.out
          clear k_C_3_0 k_C_3_1 f_C_3 H_C_3
          obtain ⟨k_C_4_0, k_C_4_1, f_C_4, l_C_4⟩ := bk2 H_C_4
          replace H_C_4 := Lib.hid H_C_4
          have H_L_4 := (hb4.block (g) (blk_lt' H_L_3.out)).trans H_L_3.out
          clear k_L_3_0 k_L_3_1 k_L_3_2 k_L_3_3 f_L_3 H_L_3
          obtain ⟨k_L_4_0, k_L_4_1, k_L_4_2, k_L_4_3, f_L_4, l_L_4⟩ := bk4 H_L_4
          replace H_L_4 := Lib.hid H_L_4
          replace ux := ux.below hb4
          replace uz := uz.below hb4
          have hB4 : Below w.heap.size w w4 := below_via hb4 (by assumption) (by go_size)
          rcases hd with ⟨hn1, rfl⟩ | ⟨p1, q1, hn1, hq1, rfl⟩
          · have HN := Lib.hid (SB.out (j + 1) hn1 n (by omega))
            clear hn1
            go_upto_region 10 with (first | (have _t := tok5; go_at_call 110; (with_reducible refine ((TD _ _ _ _ _ _ _ _ _ (ux.below (by repeat' first | (with_reducible first | apply zRf | assumption | apply zDn | apply zDr | apply zAl | apply zSt | refine zVi (by assumption) ?_ ?_) | go_size)) (uz.below (by repeat' first | (with_reducible first | apply zRf | assumption | apply zDn | apply zDr | apply zAl | apply zSt | refine zVi (by assumption) ?_ ?_) | go_size)))).mono ?_); rintro e w5 ⟨b6, a6, n6, c6, b7, a7, n7, c7, rfl, vx, vz, f6, f7, hb5⟩; clear tok5 _t; have hz5 := hb5.size; (try simp only [World.size_alloc, World.size_setCell, World.size_drew, World.size_drewN'] at hz5); (try (have kq := cellAt hb5 (w.heap.size) (by go_size); have k5_w_0_0 := kq 0; have k5_w_0_1 := kq 1; clear kq; have f5_w_0 := frozAt hb5 (w.heap.size) (by go_size); simp [go_sem, *] at k5_w_0_0 k5_w_0_1 f5_w_0)); (try have l5_w_0 : w.heap.size < w5.heap.size := by omega); (try (have kq := cellAt hb5 (w.heap.size + 1) (by go_size); have k5_w_1_0 := kq 0; have k5_w_1_1 := kq 1; have k5_w_1_2 := kq 2; clear kq; have f5_w_1 := frozAt hb5 (w.heap.size + 1) (by go_size); simp [go_sem, *] at k5_w_1_0 k5_w_1_1 k5_w_1_2 f5_w_1)); (try have l5_w_1 : w.heap.size + 1 < w5.heap.size := by omega); (try clear k1_w_0_0 k1_w_0_1 f1_w_0); (try clear l1_w_0); (try clear k1_w_1_0 k1_w_1_1 k1_w_1_2 f1_w_1); (try clear l1_w_1); (try clear k2_w_0_0 k2_w_0_1 f2_w_0); (try clear l2_w_0); (try clear k2_w_1_0 k2_w_1_1 k2_w_1_2 f2_w_1); (try clear l2_w_1); (try clear k3_w_0_0 k3_w_0_1 f3_w_0); (try clear l3_w_0); (try clear k3_w_1_0 k3_w_1_1 k3_w_1_2 f3_w_1); (try clear l3_w_1); (try clear k4_w_0_0 k4_w_0_1 f4_w_0); (try clear l4_w_0); (try clear k4_w_1_0 k4_w_1_1 k4_w_1_2 f4_w_1); (try clear l4_w_1)))
            go_wp2_with fail
            refine bodyPost_ret (v := .tuple #[.int .i64 0, .bool false, .bool false]) (by simp [results, Tryz.results97, go_sem]) rfl ⟨by rw [HN.out]; rfl, ?_⟩
            repeat' first | (with_reducible first | apply zRf | assumption | apply zDn | apply zDr | apply zAl | apply zSt | refine zVi (by assumption) ?_ ?_) | go_size
          · have HN := Lib.hid hn1
            clear hn1
            go_upto_region 11 with (first | (have _t := tok5; go_at_call 110; (with_reducible refine ((TD _ _ _ _ _ _ _ _ _ (ux.below (by repeat' first | (with_reducible first | apply zRf | assumption | apply zDn | apply zDr | apply zAl | apply zSt | refine zVi (by assumption) ?_ ?_) | go_size)) (uz.below (by repeat' first | (with_reducible first | apply zRf | assumption | apply zDn | apply zDr | apply zAl | apply zSt | refine zVi (by assumption) ?_ ?_) | go_size)))).mono ?_); rintro e w5 ⟨b6, a6, n6, c6, b7, a7, n7, c7, rfl, vx, vz, f6, f7, hb5⟩; clear tok5 _t; have hz5 := hb5.size; (try simp only [World.size_alloc, World.size_setCell, World.size_drew, World.size_drewN'] at hz5); (try (have kq := cellAt hb5 (w.heap.size) (by go_size); have k5_w_0_0 := kq 0; have k5_w_0_1 := kq 1; clear kq; have f5_w_0 := frozAt hb5 (w.heap.size) (by go_size); simp [go_sem, *] at k5_w_0_0 k5_w_0_1 f5_w_0)); (try have l5_w_0 : w.heap.size < w5.heap.size := by omega); (try (have kq := cellAt hb5 (w.heap.size + 1) (by go_size); have k5_w_1_0 := kq 0; have k5_w_1_1 := kq 1; have k5_w_1_2 := kq 2; clear kq; have f5_w_1 := frozAt hb5 (w.heap.size + 1) (by go_size); simp [go_sem, *] at k5_w_1_0 k5_w_1_1 k5_w_1_2 f5_w_1)); (try have l5_w_1 : w.heap.size + 1 < w5.heap.size := by omega); (try clear k1_w_0_0 k1_w_0_1 f1_w_0); (try clear l1_w_0); (try clear k1_w_1_0 k1_w_1_1 k1_w_1_2 f1_w_1); (try clear l1_w_1); (try clear k2_w_0_0 k2_w_0_1 f2_w_0); (try clear l2_w_0); (try clear k2_w_1_0 k2_w_1_1 k2_w_1_2 f2_w_1); (try clear l2_w_1); (try clear k3_w_0_0 k3_w_0_1 f3_w_0); (try clear l3_w_0); (try clear k3_w_1_0 k3_w_1_1 k3_w_1_2 f3_w_1); (try clear l3_w_1); (try clear k4_w_0_0 k4_w_0_1 f4_w_0); (try clear l4_w_0); (try clear k4_w_1_0 k4_w_1_1 k4_w_1_2 f4_w_1); (try clear l4_w_1)))
            have H_C_5 := (hb5.block (w.heap.size) (blk_lt' H_C_4.out)).trans H_C_4.out
            clear k_C_4_0 k_C_4_1 f_C_4 H_C_4
            obtain ⟨k_C_5_0, k_C_5_1, f_C_5, l_C_5⟩ := bk2 H_C_5
            replace H_C_5 := Lib.hid H_C_5
            have H_L_5 := (hb5.block (g) (blk_lt' H_L_4.out)).trans H_L_4.out
            clear k_L_4_0 k_L_4_1 k_L_4_2 k_L_4_3 f_L_4 H_L_4
            obtain ⟨k_L_5_0, k_L_5_1, k_L_5_2, k_L_5_3, f_L_5, l_L_5⟩ := bk4 H_L_5
            replace H_L_5 := Lib.hid H_L_5
            replace ux := ux.below hb5
            replace uz := uz.below hb5
            have hB5 : Below w.heap.size w w5 := below_via hb5 (by assumption) (by go_size)
            clear f6 f7
            replace H_C_5 := H_C_5.out
            replace H_L_5 := H_L_5.out
            refine chk (fun W => Below w.heap.size w W ∧ W.heap[w.heap.size]? = some (.cells #[.int .i64 A, .int .i64 B] 32 (0, 0)) ∧ W.heap[g]? = some (.cells #[.bool b3, .slice a3 n3 c3, .bool b4, .slice a4 n4 c4] 109 (0, 0)) ∧ W.heap[w5.heap.size]? = some (.cells #[.bool b6, .slice a6 n6 c6, .bool b7, .slice a7 n7 c7] 109 (0, 0)) ∧ Wx W b6 a6 n6 c6 p1 ∧ Wx W b7 a7 n7 c7 q1) (by refine ⟨?_, ?_, ?_, ?_, ?_, ?_⟩ <;> (repeat' first | (with_reducible first | assumption | (apply Ne.symm; assumption) | apply Nat.le_refl | apply Nat.le_add_right | apply zL | apply zRf | apply Wx.box | apply Wx.box4 | apply zWa | apply Wx.drew | apply zWn | apply bx_drew | apply bx_drewN | apply bx_set3 | apply bx_set2 | apply bx_set4 | apply bx_set1) | ((with_reducible apply bx_new); (focus (go_size; done))) | (with_reducible first | apply zOl | apply zFa | apply zDn | apply zDr | apply zAl | apply zSt | refine zVi (by assumption) ?_ ?_) | go_size | omega)) ?_
            try clear vx
            try clear vz
            clear k_C_5_0 k_C_5_1 f_C_5 H_C_5
            clear k_L_5_0 k_L_5_1 k_L_5_2 k_L_5_3 f_L_5 H_L_5
            clear hB5
            rintro w6 ⟨hB6, H_C_6, H_L_6, H_M_6, vx', vz'⟩
            obtain ⟨k_C_6_0, k_C_6_1, f_C_6, l_C_6⟩ := bk2 H_C_6
            replace H_C_6 := Lib.hid H_C_6
            obtain ⟨k_L_6_0, k_L_6_1, k_L_6_2, k_L_6_3, f_L_6, l_L_6⟩ := bk4 H_L_6
            replace H_L_6 := Lib.hid H_L_6
            obtain ⟨k_M_6_0, k_M_6_1, k_M_6_2, k_M_6_3, f_M_6, l_M_6⟩ := bk4 H_M_6
            replace H_M_6 := Lib.hid H_M_6
            have vx := vx'
            clear vx'
            have vz := vz'
            clear vz'
            clear TB TD
            have hgo : w.heap.size ≠ g := by omega
            go_wp2_with fail
            go_roundw
            case rel =>
              have r1 := H_C_6.out
              have r2 := H_L_6.out
              (repeat apply Exists.intro)
              refine ⟨⟨j + 1, p1, q1, b6, a6, n6, c6, b7, a7, n7, c7, by go_num, by omega, HN.out, by (repeat' first | (with_reducible first | assumption | (apply Ne.symm; assumption) | apply Nat.le_refl | apply Nat.le_add_right | apply zL | apply zRf | apply Wx.box | apply Wx.box4 | apply zWa | apply Wx.drew | apply zWn | apply bx_drew | apply bx_drewN | apply bx_set3 | apply bx_set2 | apply bx_set4 | apply bx_set1) | ((with_reducible apply bx_new); (focus (go_size; done))) | (with_reducible first | apply zOl | apply zFa | apply zDn | apply zDr | apply zAl | apply zSt | refine zVi (by assumption) ?_ ?_) | go_size | omega), by (repeat' first | (with_reducible first | assumption | (apply Ne.symm; assumption) | apply Nat.le_refl | apply Nat.le_add_right | apply zL | apply zRf | apply Wx.box | apply Wx.box4 | apply zWa | apply Wx.drew | apply zWn | apply bx_drew | apply bx_drewN | apply bx_set3 | apply bx_set2 | apply bx_set4 | apply bx_set1) | ((with_reducible apply bx_new); (focus (go_size; done))) | (with_reducible first | apply zOl | apply zFa | apply zDn | apply zDr | apply zAl | apply zSt | refine zVi (by assumption) ?_ ?_) | go_size | omega), by (repeat' first | (with_reducible first | assumption | (apply Ne.symm; assumption) | apply Nat.le_refl | apply Nat.le_add_right | apply zL | apply zRf | apply Wx.box | apply Wx.box4 | apply zWa | apply Wx.drew | apply zWn | apply bx_drew | apply bx_drewN | apply bx_set3 | apply bx_set2 | apply bx_set4 | apply bx_set1) | ((with_reducible apply bx_new); (focus (go_size; done))) | (with_reducible first | apply zOl | apply zFa | apply zDn | apply zDr | apply zAl | apply zSt | refine zVi (by assumption) ?_ ?_) | go_size | omega), by (repeat' first | (with_reducible first | assumption | (apply Ne.symm; assumption) | apply Nat.le_refl | apply Nat.le_add_right | apply zL | apply zRf | apply Wx.box | apply Wx.box4 | apply zWa | apply Wx.drew | apply zWn | apply bx_drew | apply bx_drewN | apply bx_set3 | apply bx_set2 | apply bx_set4 | apply bx_set1) | ((with_reducible apply bx_new); (focus (go_size; done))) | (with_reducible first | apply zOl | apply zFa | apply zDn | apply zDr | apply zAl | apply zSt | refine zVi (by assumption) ?_ ?_) | go_size | omega), by (repeat' first | (with_reducible first | assumption | (apply Ne.symm; assumption) | apply Nat.le_refl | apply Nat.le_add_right | apply zL | apply zRf | apply Wx.box | apply Wx.box4 | apply zWa | apply Wx.drew | apply zWn | apply bx_drew | apply bx_drewN | apply bx_set3 | apply bx_set2 | apply bx_set4 | apply bx_set1) | ((with_reducible apply bx_new); (focus (go_size; done))) | (with_reducible first | apply zOl | apply zFa | apply zDn | apply zDr | apply zAl | apply zSt | refine zVi (by assumption) ?_ ?_) | go_size | omega)⟩, rfl⟩
            case measure => simp [intOf]; omega
      · obtain rfl : j = n := by omega
        have HST := Lib.hid hst
        have HBZ := Lib.hid (show most (bl (ab p) : Nat) (bl (ab q) : Nat) = bitsZ p q from rfl)
        clear hst
        go_upto_region 13 with (fail)
        refine chk (fun W => Below w.heap.size w W ∧ W.heap[g]? = some (.cells #[.bool b3, .slice a3 n3 c3, .bool b4, .slice a4 n4 c4] 109 (0, 0)) ∧ Wx W b3 a3 n3 c3 p ∧ Wx W b4 a4 n4 c4 q) (by refine ⟨?_, ?_, ?_, ?_⟩ <;> (repeat' first | (with_reducible first | assumption | (apply Ne.symm; assumption) | apply Nat.le_refl | apply Nat.le_add_right | apply zL | apply zRf | apply Wx.box | apply Wx.box4 | apply zWa | apply Wx.drew | apply zWn | apply bx_drew | apply bx_drewN | apply bx_set3 | apply bx_set2 | apply bx_set4 | apply bx_set1) | ((with_reducible apply bx_new); (focus (go_size; done))) | (with_reducible first | apply zOl | apply zFa | apply zDn | apply zDr | apply zAl | apply zSt | refine zVi (by assumption) ?_ ?_) | go_size | omega)) ?_
        try clear ux
        try clear uz
        clear hB3
        rintro w7 ⟨hB7, H_L_7, ux', uz'⟩
        obtain ⟨k_L_7_0, k_L_7_1, k_L_7_2, k_L_7_3, f_L_7, l_L_7⟩ := bk4 H_L_7
        replace H_L_7 := Lib.hid H_L_7
        have ux := ux'
        clear ux'
        have uz := uz'
        clear uz'
        have TL1 := fun (W : World) (hW : Below w7.heap.size w7 W) => bitLength_any b3 a3 n3 c3 p W (ux.below hW) (by have := ux.ln; omega)
        have TL2 := fun (W : World) (hW : Below w7.heap.size w7 W) => bitLength_any b4 a4 n4 c4 q W (uz.below hW) (by have := uz.ln; omega)
        generalize bl (ab p) = u1 at *
        generalize bl (ab q) = u2 at *
        clear hC hL
        refine wp_open (n := 9) (by kernel_rfl) (by kernel_rfl) (by kernel_rfl) (by kernel_rfl) ?_
        simp only [List.take_succ_cons, List.take_zero]
        apply wpS_quiet
        · intro γ W hW hp
          refine ⟨rfl, ?_⟩
          go_big_quiet_op
          first | exact rfl
        · exact locS_const _
        try simp only [Act.put, List.setIfInBounds_toArray, List.set_cons_succ, List.set_cons_zero, Nat.reduceAdd]
        apply wpS_quiet
        · intro γ W hW hp
          have hs := hW.size
          (try simp only [World.size_alloc, World.size_setCell, World.size_drew, World.size_drewN'] at hs)
          have kx_0 := fun x : Over W => ((cellAt x.lies (g) (by omega) 0).trans (cellAt hW (g) (by first | omega | go_size) 0)).trans k_L_7_0
          have kx_1 := fun x : Over W => ((cellAt x.lies (g) (by omega) 1).trans (cellAt hW (g) (by first | omega | go_size) 1)).trans k_L_7_1
          have kx_2 := fun x : Over W => ((cellAt x.lies (g) (by omega) 2).trans (cellAt hW (g) (by first | omega | go_size) 2)).trans k_L_7_2
          have kx_3 := fun x : Over W => ((cellAt x.lies (g) (by omega) 3).trans (cellAt hW (g) (by first | omega | go_size) 3)).trans k_L_7_3
          clear hW hp
          refine ⟨rfl, ?_⟩
          go_big_quiet_op
          first | exact rfl
        · exact locS_const _
        try simp only [Act.put, List.setIfInBounds_toArray, List.set_cons_succ, List.set_cons_zero, Nat.reduceAdd]
        apply wpS_quiet
        · intro γ W hW hp
          refine ⟨rfl, ?_⟩
          go_big_quiet_op
          apply Exists.intro
          refine ⟨fun x => ?_, ?_⟩
          · (first | (go_at_call 111; (with_reducible exact draw_of _ ((TL1 _ (below_via (Over.lies _) (below_via hW (by repeat' first | (with_reducible first | apply zRf | assumption | apply zDn | apply zDr | apply zAl | apply zSt | refine zVi (by assumption) ?_ ?_) | go_size) (by go_size)) (by (have := hW.size; (try simp only [World.size_alloc, World.size_setCell, World.size_drew, World.size_drewN'] at this); omega))))))) | (go_at_call 111; (with_reducible exact draw_of _ ((TL2 _ (below_via (Over.lies _) (below_via hW (by repeat' first | (with_reducible first | apply zRf | assumption | apply zDn | apply zDr | apply zAl | apply zSt | refine zVi (by assumption) ?_ ?_) | go_size) (by go_size)) (by (have := hW.size; (try simp only [World.size_alloc, World.size_setCell, World.size_drew, World.size_drewN'] at this); omega))))))))
          exact rfl
        · exact locS_const _
        try simp only [Act.put, List.setIfInBounds_toArray, List.set_cons_succ, List.set_cons_zero, Nat.reduceAdd]
        apply wpS_quiet
        · intro γ W hW hp
          refine ⟨rfl, ?_⟩
          go_big_quiet_op
          first | exact rfl
        · exact locS_const _
        try simp only [Act.put, List.setIfInBounds_toArray, List.set_cons_succ, List.set_cons_zero, Nat.reduceAdd]
        apply wpS_quiet
        · intro γ W hW hp
          have hs := hW.size
          (try simp only [World.size_alloc, World.size_setCell, World.size_drew, World.size_drewN'] at hs)
          have kx_0 := fun x : Over W => ((cellAt x.lies (g) (by omega) 0).trans (cellAt hW (g) (by first | omega | go_size) 0)).trans k_L_7_0
          have kx_1 := fun x : Over W => ((cellAt x.lies (g) (by omega) 1).trans (cellAt hW (g) (by first | omega | go_size) 1)).trans k_L_7_1
          have kx_2 := fun x : Over W => ((cellAt x.lies (g) (by omega) 2).trans (cellAt hW (g) (by first | omega | go_size) 2)).trans k_L_7_2
          have kx_3 := fun x : Over W => ((cellAt x.lies (g) (by omega) 3).trans (cellAt hW (g) (by first | omega | go_size) 3)).trans k_L_7_3
          clear hW hp
          refine ⟨rfl, ?_⟩
          go_big_quiet_op
          first | exact rfl
        · exact locS_const _
        try simp only [Act.put, List.setIfInBounds_toArray, List.set_cons_succ, List.set_cons_zero, Nat.reduceAdd]
        apply wpS_quiet
        · intro γ W hW hp
          refine ⟨rfl, ?_⟩
          go_big_quiet_op
          apply Exists.intro
          refine ⟨fun x => ?_, ?_⟩
          · (first | (go_at_call 111; (with_reducible exact draw_of _ ((TL1 _ (below_via (Over.lies _) (below_via hW (by repeat' first | (with_reducible first | apply zRf | assumption | apply zDn | apply zDr | apply zAl | apply zSt | refine zVi (by assumption) ?_ ?_) | go_size) (by go_size)) (by (have := hW.size; (try simp only [World.size_alloc, World.size_setCell, World.size_drew, World.size_drewN'] at this); omega))))))) | (go_at_call 111; (with_reducible exact draw_of _ ((TL2 _ (below_via (Over.lies _) (below_via hW (by repeat' first | (with_reducible first | apply zRf | assumption | apply zDn | apply zDr | apply zAl | apply zSt | refine zVi (by assumption) ?_ ?_) | go_size) (by go_size)) (by (have := hW.size; (try simp only [World.size_alloc, World.size_setCell, World.size_drew, World.size_drewN'] at this); omega))))))))
          exact rfl
        · exact locS_const _
        try simp only [Act.put, List.setIfInBounds_toArray, List.set_cons_succ, List.set_cons_zero, Nat.reduceAdd]
        apply wpS_quiet
        · intro γ W hW hp
          refine ⟨rfl, ?_⟩
          go_big_quiet_op
          first | exact rfl
        · exact locS_const _
        try simp only [Act.put, List.setIfInBounds_toArray, List.set_cons_succ, List.set_cons_zero, Nat.reduceAdd]
        apply wpS_quiet
        · intro γ W hW hp
          refine ⟨rfl, ?_⟩
          go_big_quiet_op
          first | exact rfl
        · exact locS_const _
        try simp only [Act.put, List.setIfInBounds_toArray, List.set_cons_succ, List.set_cons_zero, Nat.reduceAdd]
        apply wpS_quiet
        · intro γ W hW hp
          refine ⟨rfl, ?_⟩
          go_big_quiet_op
          first | exact rfl
        · exact locS_const _
        try simp only [Act.put, List.setIfInBounds_toArray, List.set_cons_succ, List.set_cons_zero, Nat.reduceAdd]
        apply wpS_end
        intro γ w8 hb8 hG8 hA8
        clear hG8 hA8
        simp only [List.drop_succ_cons, List.drop_zero]
        have hz8 := hb8.size
        (try simp only [World.size_alloc, World.size_setCell, World.size_drew, World.size_drewN'] at hz8)
        clear TL1 TL2
        go_wp2_with fail
        refine bodyPost_ret (v := .tuple #[.int .i64 (most u1 u2), .bool false, .bool true]) (by simp [results, Tryz.results97, go_sem]) rfl ⟨by rw [HST.out]; change _ = Ending.returned (.tuple #[.int .i64 (bitsZ p q), .bool false, .bool true]); rw [HBZ.out], ?_⟩
        repeat' first | (with_reducible first | apply zRf | assumption | apply zDn | apply zDr | apply zAl | apply zSt | refine zVi (by assumption) ?_ ?_) | go_size
end
section
open Go.RowKit
set_option linter.unusedVariables false
set_option linter.unusedSimpArgs false

/-! ### how often a number divides -/
theorem pow_pos' {p : Int} (hp : 1 ≤ p) (n : Nat) : 1 ≤ p ^ n := by
  have := Int.pow_pos (m := n) (show 0 < p by omega); omega
theorem pow_mono' {p : Int} (hp : 1 ≤ p) {m n : Nat} (h : m ≤ n) : p ^ m ≤ p ^ n := by
  obtain ⟨d, rfl⟩ := Nat.exists_eq_add_of_le h
  rw [Int.pow_add]
  have h1 := pow_pos' hp m
  have h2 := pow_pos' hp d
  have := Int.mul_le_mul_of_nonneg_left h2 (show 0 ≤ p ^ m by omega)
  omega
/-! ### squares modulo a power of a prime -/
/-! ### congruences -/
def Cg (n a b : Int) : Prop := a % n = b % n
theorem Cg.refl (n a : Int) : Cg n a a := rfl
theorem Cg.add {n a b c d : Int} (h1 : Cg n a b) (h2 : Cg n c d) : Cg n (a + c) (b + d) := by unfold Cg at *; rw [Int.add_emod, h1, h2, ← Int.add_emod]
end
section
open Go.RowKit
set_option linter.unusedVariables false
set_option linter.unusedSimpArgs false
theorem Cg.symm {n a b : Int} (h : Cg n a b) : Cg n b a := Eq.symm h
theorem Cg.trans {n a b c : Int} (h : Cg n a b) (k : Cg n b c) : Cg n a c := Eq.trans h k
/-! ### powers modulo a number, by halving -/
/-! ### primes -/
/-! ### the depth of a prime -/
end
section
open Go.RowKit
set_option linter.unusedVariables false
set_option maxHeartbeats 4000000
set_option linter.unusedSimpArgs false

def PowRel (a k : Int) (i o : Value) : Prop := ∃ j : Nat, (j : Int) ≤ k ∧ i = .int .i64 j ∧ o = .int .i64 (a ^ j)
theorem pow_step {a k : Int} {j : Nat} {M : Int} (ha : 1 ≤ a) (hj : (j : Int) < k) (hM : a ^ k.toNat ≤ M) : 1 ≤ a ^ j ∧ a ^ j ≤ M ∧ a ^ j * a = a ^ (j + 1) ∧ a ^ (j + 1) ≤ M ∧ 1 ≤ a ^ (j + 1) :=
  ⟨pow_pos' ha j, by have := pow_mono' (p := a) ha (m := j) (n := k.toNat) (by omega); omega, (Int.pow_succ _ _).symm, by have := pow_mono' (p := a) ha (m := j + 1) (n := k.toNat) (by omega); omega, pow_pos' ha (j + 1)⟩
theorem intPower_any (a k : Int) (w : World) (ha : 1 ≤ a) (hk : 0 ≤ k) (hk2 : k ≤ 1000000) (hM : a ^ k.toNat ≤ 1000000000000000) :
    Calls Tryz.prog 99 #[.int .i64 a, .int .i64 k] w fun e w' => e = .returned (.int .i64 (a ^ k.toNat)) ∧ w = w' := by
  have HM := Lib.hid hM
  clear hM
  go_enter Tryz.func99, Tryz.ntmps99
  go_wp2
  go_loop [5, 7] (fun o i => PowRel a k i o) (fun _ i => (k - intOf i).toNat)
  case atStart => exact ⟨0, by omega, rfl, by simp⟩
  case round =>
    obtain ⟨j, hj, rfl, rfl⟩ := hrel
    by_cases hlt : (j : Int) < k
    · have hs := pow_step ha hlt HM.out
      have HE := Lib.hid hs.2.2.1
      have hs1 := hs.1
      have hs2 := hs.2.1
      have hs3 := hs.2.2.2.1
      have hs4 := hs.2.2.2.2
      rw [← HE.out] at hs3 hs4
      clear hs
      generalize hq : a ^ j = q at *
      have HQ := Lib.hid hq
      clear hq
      go_wp2
      go_round
      case rel => exact ⟨j + 1, by omega, by go_num, by rw [HE.out]⟩
      case measure => simp [intOf]; omega
    · have : (j : Int) = k := by omega
      subst this
      go_wp2
      go_ret
      exact ⟨by simp, rfl⟩
end
end Go.Proofs.YtgjppinjapdbeaaGreat
