/- Lemmas and contracts of functions. No condition. -/
import Derived.Test.YtgjppinjapdbeaaGreatPk23
import Derived.Test.YtgjppinjapdbeaaGreatPk27
import Derived.Test.YtgjppinjapdbeaaGreatPk28
namespace Go.Proofs.YtgjppinjapdbeaaGreat
open Go.RowKit
set_option linter.unusedVariables false
set_option maxHeartbeats 1000000
set_option maxRecDepth 20000
set_option linter.unusedSimpArgs false
attribute [local go_sem] openAt openUpon
theorem NewL.inf {w : World} {T : TypeId} {st : Nat → RSt} {n : Nat} {e : Ending} {w' : World} (h : NewL w T st n e w') (hs : st n = .inf) : ∃ a m c, e = .returned (.tuple #[.slice a m c, .bool true]) ∧ Below w.heap.size w w' := by
  obtain ⟨v, zs, B, h1, h2, h3, h4, h5, h6⟩ := h
  obtain ⟨a, c, rfl, _, _⟩ := h2.shape
  exact ⟨a, _, c, by rw [h1, hs]; rfl, h6⟩
theorem NewL.bad {w : World} {T : TypeId} {st : Nat → RSt} {n : Nat} {e : Ending} {w' : World} (h : NewL w T st n e w') (hs : st n = .bad) : ∃ a m c, e = .returned (.tuple #[.slice a m c, .bool false]) ∧ m ≤ n ∧ Below w.heap.size w w' := by
  obtain ⟨v, zs, B, h1, h2, h3, h4, h5, h6⟩ := h
  obtain ⟨a, c, rfl, _, _⟩ := h2.shape
  refine ⟨a, _, c, by rw [h1, hs]; rfl, ?_, h6⟩
  have : ¬ zs.length = n + 1 := fun e2 => by have := h5.2 e2; rw [hs] at this; cases this
  omega
theorem NewL.at {w : World} {T : TypeId} {st : Nat → RSt} {n : Nat} {e : Ending} {w' : World} {p q : Int} (h : NewL w T st n e w') (hs : st n = .at p q) : ∃ g cap b a m c b2 a2 m2 c2, e = .returned (.tuple #[.slice (some ⟨g, 0, none⟩) (n + 1) cap, .bool false]) ∧ n + 1 ≤ cap ∧ cap ≤ maxLen ∧ g < w'.heap.size ∧
    w'.cell? ⟨g, n * 4, none⟩ = some (.bool b) ∧ w'.cell? ⟨g, n * 4 + 1, none⟩ = some (.slice a m c) ∧ w'.cell? ⟨g, n * 4 + 2, none⟩ = some (.bool b2) ∧ w'.cell? ⟨g, n * 4 + 3, none⟩ = some (.slice a2 m2 c2) ∧ Wx w' b a m c p ∧ Wx w' b2 a2 m2 c2 q ∧ Below w.heap.size w w' := by
  obtain ⟨v, zs, B, h1, h2, h3, h4, h5, h6⟩ := h
  have hl := h5.1 (by rw [hs]; rfl)
  obtain ⟨g, cap, b, a, m, c, b2, a2, m2, c2, g1, g2, g3, g4, g5, g6, g7, g8, g9, g10, g11⟩ := h2.at (i := n) (by omega)
  have hz := h3 n (by omega)
  rw [hs] at hz
  injection hz with uz hz2
  rw [hl] at g1 g2
  subst g1
  exact ⟨g, cap, b, a, m, c, b2, a2, m2, c2, by rw [h1, hs]; rfl, g2, g3, g5, g6, g7, g8, g9, uz ▸ g10, hz2 ▸ g11, h6⟩
theorem chMake_any (a b d : Int) (w : World) (ha : -1000000 ≤ a ∧ a ≤ 1000000) (hb : -1000000 ≤ b ∧ b ≤ 1000000) (hd : 1 ≤ d) :
    Calls Tryz.prog 88 #[.int .i64 a, .int .i64 b, .int .i64 d] w fun e w' => e = .returned (ivV true (down (a * 4096) d) (-(down (-(b * 4096)) d))) ∧ Below w.heap.size w w' := by
  have q1 := down_in (a := a * 4096) (b := d) (M := 10000000000) (by omega) (by omega)
  have q2 := down_in (a := -(b * 4096)) (b := d) (M := 10000000000) (by omega) (by omega)
  rw [ivV, Bool.true_and]
  have tok1 : True := trivial
  go_enter Tryz.func88, Tryz.ntmps88
  go_wp2_with (first | (go_at_call 103; refine (frDown_any _ _ _ (by omega) (by omega) (by omega)).mono ?_; rintro e w' ⟨rfl, rfl⟩) | (go_at_call 104; refine (ivUp_any _ _ _ (by omega) (by omega) (by omega)).mono ?_; rintro e w' ⟨rfl, rfl⟩) | (have _t := tok1; go_at_call 56; refine (ivMake_lit _ _ _ (by omega) (by omega)).mono ?_; rintro e w1 ⟨rfl, hb1⟩; clear tok1 _t; have hz1 := hb1.size; (try simp only [World.size_alloc, World.size_setCell, World.size_drew, World.size_drewN'] at hz1); (try (have kq := cellAt hb1 (w.heap.size) (by go_size); have k1_w_0_0 := kq 0; have k1_w_0_1 := kq 1; have k1_w_0_2 := kq 2; have k1_w_0_3 := kq 3; clear kq; have f1_w_0 := frozAt hb1 (w.heap.size) (by go_size); simp [go_sem, *] at k1_w_0_0 k1_w_0_1 k1_w_0_2 k1_w_0_3 f1_w_0)); (try have l1_w_0 : w.heap.size < w1.heap.size := by omega)))
  refine bodyPost_ret (v := _) (by simp [results, Tryz.results88, go_sem, *]) rfl ⟨rfl, ?_⟩
  repeat' first | (with_reducible first | apply zRf | assumption | apply zDn | apply zDr | apply zAl | apply zSt | refine zVi (by assumption) ?_ ?_) | go_size
theorem chHeight_any (A B x y e : Int) (n : Nat) (w : World) (hA : -1000 ≤ A ∧ A ≤ 1000) (hBB : -10000 ≤ B ∧ B ≤ 10000) (hcv : coV A B ≠ 0) (hx : -10000 ≤ x ∧ x ≤ 10000) (he : 0 ≤ e ∧ e ≤ 20) (hn : n ≤ 5) :
    Calls Tryz.prog 77 #[.agg #[.int .i64 A, .int .i64 B], .agg #[.int .i64 x, .int .i64 y, .int .i64 e], .int .i64 n] w fun r w' => r = .returned (ivV (htOk (ptSt A B x e n)) (htLo (dcV A B) n (ptSt A B x e n)) (htHi (dcV A B) n (ptSt A B x e n))) ∧ Below w.heap.size w w' := by
  have TR0 := fun W => chRatios_any A B x y e n W hA hBB hcv hx he (by omega)
  have hok := ptSt_ok (A := A) (B := B) hx he n
  have hC := dc_bd hA hBB
  have hnn : (n : Int) ≤ 5 := by omega
  cases hs : ptSt A B x e n with
  | inf =>
    have TR := fun W => (TR0 W).mono fun e w' h => h.inf hs
    clear TR0 hok
    rw [show htOk .inf = true from rfl, show htLo (dcV A B) n .inf = 0 from rfl, show htHi (dcV A B) n .inf = 0 from rfl]
    have HV := Lib.hid (ivV_yes (show validB 0 0 = true by decide))
    have TM : ∀ W, Calls Tryz.prog 88 #[.int .i64 0, .int .i64 0, .int .i64 1] W fun e w' => e = .returned (.tuple #[.agg #[.int .i64 (mkN 0 4096), .int .i64 (mkD 0 4096), .int .i64 (mkN 0 4096), .int .i64 (mkD 0 4096)], .bool true]) ∧ Below W.heap.size W w' := fun W => HV.out ▸ chMake_any 0 0 1 W (by omega) (by omega) (by omega)
    clear hs
    have tok1 : True := trivial
    have tok2 : True := trivial
    go_enter Tryz.func77, Tryz.ntmps77
    go_wp2_with (first | (have _t := tok1; go_at_call 87; (with_reducible refine ((TR _)).mono ?_); rintro e w1 ⟨a1, m1, c1, rfl, hb1⟩; clear tok1 _t; have hz1 := hb1.size; (try simp only [World.size_alloc, World.size_setCell, World.size_drew, World.size_drewN'] at hz1); (try (have kq := cellAt hb1 (w.heap.size) (by go_size); have k1_w_0_0 := kq 0; have k1_w_0_1 := kq 1; clear kq; have f1_w_0 := frozAt hb1 (w.heap.size) (by go_size); simp [go_sem, *] at k1_w_0_0 k1_w_0_1 f1_w_0)); (try have l1_w_0 : w.heap.size < w1.heap.size := by omega); (try (have kq := cellAt hb1 (w.heap.size + 1) (by go_size); have k1_w_1_0 := kq 0; have k1_w_1_1 := kq 1; have k1_w_1_2 := kq 2; clear kq; have f1_w_1 := frozAt hb1 (w.heap.size + 1) (by go_size); simp [go_sem, *] at k1_w_1_0 k1_w_1_1 k1_w_1_2 f1_w_1)); (try have l1_w_1 : w.heap.size + 1 < w1.heap.size := by omega); (try (have kq := cellAt hb1 (w.heap.size + 1 + 1) (by go_size); have k1_w_2_0 := kq 0; have k1_w_2_1 := kq 1; have k1_w_2_2 := kq 2; have k1_w_2_3 := kq 3; clear kq; have f1_w_2 := frozAt hb1 (w.heap.size + 1 + 1) (by go_size); simp [go_sem, *] at k1_w_2_0 k1_w_2_1 k1_w_2_2 k1_w_2_3 f1_w_2)); (try have l1_w_2 : w.heap.size + 1 + 1 < w1.heap.size := by omega)) | (have _t := tok2; go_at_call 88; (with_reducible refine ((TM _)).mono ?_); rintro e w2 ⟨rfl, hb2⟩; clear tok2 _t; have hz2 := hb2.size; (try simp only [World.size_alloc, World.size_setCell, World.size_drew, World.size_drewN'] at hz2); (try (have kq := cellAt hb2 (w.heap.size) (by go_size); have k2_w_0_0 := kq 0; have k2_w_0_1 := kq 1; clear kq; have f2_w_0 := frozAt hb2 (w.heap.size) (by go_size); simp [go_sem, *] at k2_w_0_0 k2_w_0_1 f2_w_0)); (try have l2_w_0 : w.heap.size < w2.heap.size := by omega); (try (have kq := cellAt hb2 (w.heap.size + 1) (by go_size); have k2_w_1_0 := kq 0; have k2_w_1_1 := kq 1; have k2_w_1_2 := kq 2; clear kq; have f2_w_1 := frozAt hb2 (w.heap.size + 1) (by go_size); simp [go_sem, *] at k2_w_1_0 k2_w_1_1 k2_w_1_2 f2_w_1)); (try have l2_w_1 : w.heap.size + 1 < w2.heap.size := by omega); (try (have kq := cellAt hb2 (w.heap.size + 1 + 1) (by go_size); have k2_w_2_0 := kq 0; have k2_w_2_1 := kq 1; have k2_w_2_2 := kq 2; have k2_w_2_3 := kq 3; clear kq; have f2_w_2 := frozAt hb2 (w.heap.size + 1 + 1) (by go_size); simp [go_sem, *] at k2_w_2_0 k2_w_2_1 k2_w_2_2 k2_w_2_3 f2_w_2)); (try have l2_w_2 : w.heap.size + 1 + 1 < w2.heap.size := by omega); (try clear k1_w_0_0 k1_w_0_1 f1_w_0); (try clear l1_w_0); (try clear k1_w_1_0 k1_w_1_1 k1_w_1_2 f1_w_1); (try clear l1_w_1); (try clear k1_w_2_0 k1_w_2_1 k1_w_2_2 k1_w_2_3 f1_w_2); (try clear l1_w_2)))
    rw [HV.out]
    refine bodyPost_ret (v := _) (by simp [results, Tryz.results77, go_sem, *]) rfl ⟨rfl, ?_⟩
    repeat' first | (with_reducible first | apply zRf | assumption | apply zDn | apply zDr | apply zAl | apply zSt | refine zVi (by assumption) ?_ ?_) | go_size
  | bad =>
    have TR := fun W => (TR0 W).mono fun e w' h => h.bad hs
    clear TR0 hok
    rw [show htOk .bad = false from rfl, ivV_no (by simp)]
    clear hs
    have tok1 : True := trivial
    go_enter Tryz.func77, Tryz.ntmps77
    go_wp2_with (first | (have _t := tok1; go_at_call 87; (with_reducible refine ((TR _)).mono ?_); rintro e w1 ⟨a1, m1, c1, rfl, hm1, hb1⟩; clear tok1 _t; have hz1 := hb1.size; (try simp only [World.size_alloc, World.size_setCell, World.size_drew, World.size_drewN'] at hz1); (try (have kq := cellAt hb1 (w.heap.size) (by go_size); have k1_w_0_0 := kq 0; have k1_w_0_1 := kq 1; clear kq; have f1_w_0 := frozAt hb1 (w.heap.size) (by go_size); simp [go_sem, *] at k1_w_0_0 k1_w_0_1 f1_w_0)); (try have l1_w_0 : w.heap.size < w1.heap.size := by omega); (try (have kq := cellAt hb1 (w.heap.size + 1) (by go_size); have k1_w_1_0 := kq 0; have k1_w_1_1 := kq 1; have k1_w_1_2 := kq 2; clear kq; have f1_w_1 := frozAt hb1 (w.heap.size + 1) (by go_size); simp [go_sem, *] at k1_w_1_0 k1_w_1_1 k1_w_1_2 f1_w_1)); (try have l1_w_1 : w.heap.size + 1 < w1.heap.size := by omega); (try (have kq := cellAt hb1 (w.heap.size + 1 + 1) (by go_size); have k1_w_2_0 := kq 0; have k1_w_2_1 := kq 1; have k1_w_2_2 := kq 2; have k1_w_2_3 := kq 3; clear kq; have f1_w_2 := frozAt hb1 (w.heap.size + 1 + 1) (by go_size); simp [go_sem, *] at k1_w_2_0 k1_w_2_1 k1_w_2_2 k1_w_2_3 f1_w_2)); (try have l1_w_2 : w.heap.size + 1 + 1 < w1.heap.size := by omega)))
    refine bodyPost_ret (v := _) (by simp [results, Tryz.results77, go_sem, *]) rfl ⟨rfl, ?_⟩
    repeat' first | (with_reducible first | apply zRf | assumption | apply zDn | apply zDr | apply zAl | apply zSt | refine zVi (by assumption) ?_ ?_) | go_size
  | «at» p q =>
    have TR := fun W => (TR0 W).mono fun e w' h => h.at hs
    rw [hs] at hok
    clear TR0 hs
    have hrb := raB_bd hok
    have hbb := bitsZ_bd (x := p) (z := q) ⟨hrb.1, hrb.2.1⟩
    have hp43 := p43 n
    have h4 := four_bd (k := n) (by omega) (by omega)
    have TP : ∀ W, Calls Tryz.prog 91 #[.int .i64 n] W fun e w' => e = .returned (.int .i64 (4 ^ n * 3)) ∧ W = w' := fun W => by have := chPower_any n W (by omega) (by omega); simpa using this
    have TC := fun W => htConstant_any A B W hA hBB
    have TB := fun W (b : Bool) (a : Option Addr) (n c : Nat) (b2 : Bool) (a2 : Option Addr) (n2 c2 : Nat) (g1 : Wx W b a n c p) (g2 : Wx W b2 a2 n2 c2 q) => xdBits_any b b2 a a2 n c n2 c2 p q W g1 g2 hrb.1 hrb.2.1
    rw [show htOk (.at p q) = true from rfl, show htLo (dcV A B) n (.at p q) = hLo (dcV A B) (bitsZ p q) (4 ^ n * 3) from rfl, show htHi (dcV A B) n (.at p q) = hHi (dcV A B) (bitsZ p q) (4 ^ n * 3) from rfl]
    generalize bitsZ p q = bz at *
    generalize dcV A B = C at *
    generalize (4 : Int) ^ n * 3 = P at *
    have hmo : most 0 (3 * (bz - 1) - C) = max 0 (3 * (bz - 1) - C) := most_eq _ _
    have hmb : 0 ≤ most 0 (3 * (bz - 1) - C) ∧ most 0 (3 * (bz - 1) - C) ≤ 10000 := by omega
    clear hmo
    have TM : ∀ W, Calls Tryz.prog 88 #[.int .i64 (most 0 (3 * (bz - 1) - C)), .int .i64 (3 * bz + C), .int .i64 P] W fun e w' => e = .returned (.tuple #[.agg #[.int .i64 (ivN1 true (hLo C bz P) (hHi C bz P)), .int .i64 (ivD1 true (hLo C bz P) (hHi C bz P)), .int .i64 (ivN2 true (hLo C bz P) (hHi C bz P)), .int .i64 (ivD2 true (hLo C bz P) (hHi C bz P))], .bool (true && validB (hLo C bz P) (hHi C bz P))]) ∧ Below W.heap.size W w' := fun W => chMake_any _ _ P W (by omega) (by omega) (by omega)
    rw [ivV]
    generalize ivN1 true (hLo C bz P) (hHi C bz P) = i1 at *
    generalize ivD1 true (hLo C bz P) (hHi C bz P) = i2 at *
    generalize ivN2 true (hLo C bz P) (hHi C bz P) = i3 at *
    generalize ivD2 true (hLo C bz P) (hHi C bz P) = i4 at *
    generalize (true && validB (hLo C bz P) (hHi C bz P)) = i5 at *
    clear hok hrb hp43 h4
    have tok1 : True := trivial
    have tok2 : True := trivial
    have tok3 : True := trivial
    have tok4 : True := trivial
    go_enter Tryz.func77, Tryz.ntmps77
    go_wp2_with (first | (have _t := tok1; go_at_call 87; (with_reducible refine ((TR _)).mono ?_); rintro e w1 ⟨g, cap, b, a, m, c, b2, a2, m2, c2, rfl, hcap, hcm, hg, k0, k1, k2, k3, ux, uz, hb1⟩; clear tok1 _t; have hz1 := hb1.size; (try simp only [World.size_alloc, World.size_setCell, World.size_drew, World.size_drewN'] at hz1); (try (have kq := cellAt hb1 (w.heap.size) (by go_size); have k1_w_0_0 := kq 0; have k1_w_0_1 := kq 1; clear kq; have f1_w_0 := frozAt hb1 (w.heap.size) (by go_size); simp [go_sem, *] at k1_w_0_0 k1_w_0_1 f1_w_0)); (try have l1_w_0 : w.heap.size < w1.heap.size := by omega); (try (have kq := cellAt hb1 (w.heap.size + 1) (by go_size); have k1_w_1_0 := kq 0; have k1_w_1_1 := kq 1; have k1_w_1_2 := kq 2; clear kq; have f1_w_1 := frozAt hb1 (w.heap.size + 1) (by go_size); simp [go_sem, *] at k1_w_1_0 k1_w_1_1 k1_w_1_2 f1_w_1)); (try have l1_w_1 : w.heap.size + 1 < w1.heap.size := by omega); (try (have kq := cellAt hb1 (w.heap.size + 1 + 1) (by go_size); have k1_w_2_0 := kq 0; have k1_w_2_1 := kq 1; have k1_w_2_2 := kq 2; have k1_w_2_3 := kq 3; clear kq; have f1_w_2 := frozAt hb1 (w.heap.size + 1 + 1) (by go_size); simp [go_sem, *] at k1_w_2_0 k1_w_2_1 k1_w_2_2 k1_w_2_3 f1_w_2)); (try have l1_w_2 : w.heap.size + 1 + 1 < w1.heap.size := by omega)))
    have TB2 : ∀ W, Below w1.heap.size w1 W → Calls Tryz.prog 89 #[.agg #[.bool b, .slice a m c, .bool b2, .slice a2 m2 c2]] W fun e w' => e = .returned (.int .i64 bz) ∧ Below W.heap.size W w' := fun W hW => TB W _ _ _ _ _ _ _ _ (ux.below hW) (uz.below hW)
    have hnc : (n : Int) < ((n + 1 : Nat) : Int) := by omega
    refine wp_open (n := 8) (by kernel_rfl) (by kernel_rfl) (by kernel_rfl) (by kernel_rfl) ?_
    simp only [List.take_succ_cons, List.take_zero]
    apply wpS_quiet
    · intro γ W hW hp
      refine ⟨rfl, ?_⟩
      go_big_quiet_op
      first | exact rfl
    · exact locS_const _
    try simp only [Act.put, List.setIfInBounds_toArray, List.set_cons_succ, List.set_cons_zero, Nat.reduceAdd]
    apply wpS_quiet
    · intro γ W hW hp
      refine ⟨rfl, ?_⟩
      go_big_quiet_op
      first | exact rfl
    · exact locS_const _
    try simp only [Act.put, List.setIfInBounds_toArray, List.set_cons_succ, List.set_cons_zero, Nat.reduceAdd]
    apply wpS_quiet
    · intro γ W hW hp
      have hs := hW.size
      (try simp only [World.size_alloc, World.size_setCell, World.size_drew, World.size_drewN'] at hs)
      try (have kx_w_0_0 := fun x : Over W => (cellAt x.lies (w.heap.size) (by omega) 0).trans (cellAt hW (w.heap.size) (by go_size) 0); simp [go_sem, *] at kx_w_0_0)
      try (have kx_w_0_1 := fun x : Over W => (cellAt x.lies (w.heap.size) (by omega) 1).trans (cellAt hW (w.heap.size) (by go_size) 1); simp [go_sem, *] at kx_w_0_1)
      try (have kx_w_1_0 := fun x : Over W => (cellAt x.lies (w.heap.size + 1) (by omega) 0).trans (cellAt hW (w.heap.size + 1) (by go_size) 0); simp [go_sem, *] at kx_w_1_0)
      try (have kx_w_1_1 := fun x : Over W => (cellAt x.lies (w.heap.size + 1) (by omega) 1).trans (cellAt hW (w.heap.size + 1) (by go_size) 1); simp [go_sem, *] at kx_w_1_1)
      try (have kx_w_1_2 := fun x : Over W => (cellAt x.lies (w.heap.size + 1) (by omega) 2).trans (cellAt hW (w.heap.size + 1) (by go_size) 2); simp [go_sem, *] at kx_w_1_2)
      try (have kx_w_2_0 := fun x : Over W => (cellAt x.lies (w.heap.size + 1 + 1) (by omega) 0).trans (cellAt hW (w.heap.size + 1 + 1) (by go_size) 0); simp [go_sem, *] at kx_w_2_0)
      try (have kx_w_2_1 := fun x : Over W => (cellAt x.lies (w.heap.size + 1 + 1) (by omega) 1).trans (cellAt hW (w.heap.size + 1 + 1) (by go_size) 1); simp [go_sem, *] at kx_w_2_1)
      try (have kx_w_2_2 := fun x : Over W => (cellAt x.lies (w.heap.size + 1 + 1) (by omega) 2).trans (cellAt hW (w.heap.size + 1 + 1) (by go_size) 2); simp [go_sem, *] at kx_w_2_2)
      try (have kx_w_2_3 := fun x : Over W => (cellAt x.lies (w.heap.size + 1 + 1) (by omega) 3).trans (cellAt hW (w.heap.size + 1 + 1) (by go_size) 3); simp [go_sem, *] at kx_w_2_3)
      clear hW hp
      refine ⟨rfl, ?_⟩
      go_big_quiet_op
      first | exact rfl
    · exact locS_const _
    try simp only [Act.put, List.setIfInBounds_toArray, List.set_cons_succ, List.set_cons_zero, Nat.reduceAdd]
    apply wpS_quiet
    · intro γ W hW hp
      have hs0 := hW.size; have q0 := fun x : Over W => (cellAt x.lies g (by omega) (n * 4)).trans ((cellAt hW g (by omega) (n * 4)).trans k0); have q1 := fun x : Over W => (cellAt x.lies g (by omega) (n * 4 + 1)).trans ((cellAt hW g (by omega) (n * 4 + 1)).trans k1); have q2 := fun x : Over W => (cellAt x.lies g (by omega) (n * 4 + 2)).trans ((cellAt hW g (by omega) (n * 4 + 2)).trans k2); have q3 := fun x : Over W => (cellAt x.lies g (by omega) (n * 4 + 3)).trans ((cellAt hW g (by omega) (n * 4 + 3)).trans k3)
      have hs := hW.size
      (try simp only [World.size_alloc, World.size_setCell, World.size_drew, World.size_drewN'] at hs)
      try (have kx_w_0_0 := fun x : Over W => (cellAt x.lies (w.heap.size) (by omega) 0).trans (cellAt hW (w.heap.size) (by go_size) 0); simp [go_sem, *] at kx_w_0_0)
      try (have kx_w_0_1 := fun x : Over W => (cellAt x.lies (w.heap.size) (by omega) 1).trans (cellAt hW (w.heap.size) (by go_size) 1); simp [go_sem, *] at kx_w_0_1)
      try (have kx_w_1_0 := fun x : Over W => (cellAt x.lies (w.heap.size + 1) (by omega) 0).trans (cellAt hW (w.heap.size + 1) (by go_size) 0); simp [go_sem, *] at kx_w_1_0)
      try (have kx_w_1_1 := fun x : Over W => (cellAt x.lies (w.heap.size + 1) (by omega) 1).trans (cellAt hW (w.heap.size + 1) (by go_size) 1); simp [go_sem, *] at kx_w_1_1)
      try (have kx_w_1_2 := fun x : Over W => (cellAt x.lies (w.heap.size + 1) (by omega) 2).trans (cellAt hW (w.heap.size + 1) (by go_size) 2); simp [go_sem, *] at kx_w_1_2)
      try (have kx_w_2_0 := fun x : Over W => (cellAt x.lies (w.heap.size + 1 + 1) (by omega) 0).trans (cellAt hW (w.heap.size + 1 + 1) (by go_size) 0); simp [go_sem, *] at kx_w_2_0)
      try (have kx_w_2_1 := fun x : Over W => (cellAt x.lies (w.heap.size + 1 + 1) (by omega) 1).trans (cellAt hW (w.heap.size + 1 + 1) (by go_size) 1); simp [go_sem, *] at kx_w_2_1)
      try (have kx_w_2_2 := fun x : Over W => (cellAt x.lies (w.heap.size + 1 + 1) (by omega) 2).trans (cellAt hW (w.heap.size + 1 + 1) (by go_size) 2); simp [go_sem, *] at kx_w_2_2)
      try (have kx_w_2_3 := fun x : Over W => (cellAt x.lies (w.heap.size + 1 + 1) (by omega) 3).trans (cellAt hW (w.heap.size + 1 + 1) (by go_size) 3); simp [go_sem, *] at kx_w_2_3)
      clear hW hp
      refine ⟨rfl, ?_⟩
      go_big_quiet_op
      first | exact rfl
    · exact locS_const _
    try simp only [Act.put, List.setIfInBounds_toArray, List.set_cons_succ, List.set_cons_zero, Nat.reduceAdd]
    apply wpS_quiet
    · intro γ W hW hp
      refine ⟨rfl, ?_⟩
      go_big_quiet_op
      apply Exists.intro
      refine ⟨fun x => ?_, ?_⟩
      · (first | (go_at_call 89; (with_reducible exact draw_of _ ((TB2 _ (below_via (Over.lies _) (below_via hW (by repeat' first | (with_reducible first | apply zRf | assumption | apply zDn | apply zDr | apply zAl | apply zSt | refine zVi (by assumption) ?_ ?_) | go_size) (by go_size)) (by (have := hW.size; (try simp only [World.size_alloc, World.size_setCell, World.size_drew, World.size_drewN'] at this); omega))))))) | (go_at_call 90; (with_reducible exact draw_of _ ((TC _)))))
      exact rfl
    · exact locS_const _
    try simp only [Act.put, List.setIfInBounds_toArray, List.set_cons_succ, List.set_cons_zero, Nat.reduceAdd]
    apply wpS_quiet
    · intro γ W hW hp
      have hs := hW.size
      (try simp only [World.size_alloc, World.size_setCell, World.size_drew, World.size_drewN'] at hs)
      try (have kx_w_0_0 := fun x : Over W => (cellAt x.lies (w.heap.size) (by omega) 0).trans (cellAt hW (w.heap.size) (by go_size) 0); simp [go_sem, *] at kx_w_0_0)
      try (have kx_w_0_1 := fun x : Over W => (cellAt x.lies (w.heap.size) (by omega) 1).trans (cellAt hW (w.heap.size) (by go_size) 1); simp [go_sem, *] at kx_w_0_1)
      try (have kx_w_1_0 := fun x : Over W => (cellAt x.lies (w.heap.size + 1) (by omega) 0).trans (cellAt hW (w.heap.size + 1) (by go_size) 0); simp [go_sem, *] at kx_w_1_0)
      try (have kx_w_1_1 := fun x : Over W => (cellAt x.lies (w.heap.size + 1) (by omega) 1).trans (cellAt hW (w.heap.size + 1) (by go_size) 1); simp [go_sem, *] at kx_w_1_1)
      try (have kx_w_1_2 := fun x : Over W => (cellAt x.lies (w.heap.size + 1) (by omega) 2).trans (cellAt hW (w.heap.size + 1) (by go_size) 2); simp [go_sem, *] at kx_w_1_2)
      try (have kx_w_2_0 := fun x : Over W => (cellAt x.lies (w.heap.size + 1 + 1) (by omega) 0).trans (cellAt hW (w.heap.size + 1 + 1) (by go_size) 0); simp [go_sem, *] at kx_w_2_0)
      try (have kx_w_2_1 := fun x : Over W => (cellAt x.lies (w.heap.size + 1 + 1) (by omega) 1).trans (cellAt hW (w.heap.size + 1 + 1) (by go_size) 1); simp [go_sem, *] at kx_w_2_1)
      try (have kx_w_2_2 := fun x : Over W => (cellAt x.lies (w.heap.size + 1 + 1) (by omega) 2).trans (cellAt hW (w.heap.size + 1 + 1) (by go_size) 2); simp [go_sem, *] at kx_w_2_2)
      try (have kx_w_2_3 := fun x : Over W => (cellAt x.lies (w.heap.size + 1 + 1) (by omega) 3).trans (cellAt hW (w.heap.size + 1 + 1) (by go_size) 3); simp [go_sem, *] at kx_w_2_3)
      clear hW hp
      refine ⟨rfl, ?_⟩
      go_big_quiet_op
      first | exact rfl
    · exact locS_const _
    try simp only [Act.put, List.setIfInBounds_toArray, List.set_cons_succ, List.set_cons_zero, Nat.reduceAdd]
    apply wpS_quiet
    · intro γ W hW hp
      refine ⟨rfl, ?_⟩
      go_big_quiet_op
      apply Exists.intro
      refine ⟨fun x => ?_, ?_⟩
      · (first | (go_at_call 89; (with_reducible exact draw_of _ ((TB2 _ (below_via (Over.lies _) (below_via hW (by repeat' first | (with_reducible first | apply zRf | assumption | apply zDn | apply zDr | apply zAl | apply zSt | refine zVi (by assumption) ?_ ?_) | go_size) (by go_size)) (by (have := hW.size; (try simp only [World.size_alloc, World.size_setCell, World.size_drew, World.size_drewN'] at this); omega))))))) | (go_at_call 90; (with_reducible exact draw_of _ ((TC _)))))
      exact rfl
    · exact locS_const _
    try simp only [Act.put, List.setIfInBounds_toArray, List.set_cons_succ, List.set_cons_zero, Nat.reduceAdd]
    apply wpS_quiet
    · intro γ W hW hp
      refine ⟨rfl, ?_⟩
      go_big_quiet_op
      first | exact rfl
    · exact locS_const _
    try simp only [Act.put, List.setIfInBounds_toArray, List.set_cons_succ, List.set_cons_zero, Nat.reduceAdd]
    apply wpS_end
    intro γ w3 hb3 hG3 hA3
    clear hG3 hA3
    simp only [List.drop_succ_cons, List.drop_zero]
    have hz3 := hb3.size
    (try simp only [World.size_alloc, World.size_setCell, World.size_drew, World.size_drewN'] at hz3)
    (try (have kq := cellAt hb3 (w.heap.size) (by go_size); have k3_w_0_0 := kq 0; have k3_w_0_1 := kq 1; clear kq; have f3_w_0 := frozAt hb3 (w.heap.size) (by go_size); simp [go_sem, *] at k3_w_0_0 k3_w_0_1 f3_w_0))
    (try have l3_w_0 : w.heap.size < w3.heap.size := by omega)
    (try (have kq := cellAt hb3 (w.heap.size + 1) (by go_size); have k3_w_1_0 := kq 0; have k3_w_1_1 := kq 1; have k3_w_1_2 := kq 2; clear kq; have f3_w_1 := frozAt hb3 (w.heap.size + 1) (by go_size); simp [go_sem, *] at k3_w_1_0 k3_w_1_1 k3_w_1_2 f3_w_1))
    (try have l3_w_1 : w.heap.size + 1 < w3.heap.size := by omega)
    (try (have kq := cellAt hb3 (w.heap.size + 1 + 1) (by go_size); have k3_w_2_0 := kq 0; have k3_w_2_1 := kq 1; have k3_w_2_2 := kq 2; have k3_w_2_3 := kq 3; clear kq; have f3_w_2 := frozAt hb3 (w.heap.size + 1 + 1) (by go_size); simp [go_sem, *] at k3_w_2_0 k3_w_2_1 k3_w_2_2 k3_w_2_3 f3_w_2))
    (try have l3_w_2 : w.heap.size + 1 + 1 < w3.heap.size := by omega)
    (try clear k1_w_0_0 k1_w_0_1 f1_w_0)
    (try clear l1_w_0)
    (try clear k1_w_1_0 k1_w_1_1 k1_w_1_2 f1_w_1)
    (try clear l1_w_1)
    (try clear k1_w_2_0 k1_w_2_1 k1_w_2_2 k1_w_2_3 f1_w_2)
    (try clear l1_w_2)
    (try clear k2_w_0_0 k2_w_0_1 f2_w_0)
    (try clear l2_w_0)
    (try clear k2_w_1_0 k2_w_1_1 k2_w_1_2 f2_w_1)
    (try clear l2_w_1)
    (try clear k2_w_2_0 k2_w_2_1 k2_w_2_2 k2_w_2_3 f2_w_2)
    (try clear l2_w_2)
    go_outline
    go_wp2_with (first | (go_at_call 76; refine (l1Most_any _ _ _).mono ?_; rintro e w' ⟨rfl, rfl⟩) | (go_at_call 91; (with_reducible refine ((TP _)).mono ?_); rintro e w' ⟨rfl, rfl⟩) | (have _t := tok4; go_at_call 88; (with_reducible refine ((TM _)).mono ?_); rintro e w4 ⟨rfl, hb4⟩; clear tok4 _t; have hz4 := hb4.size; (try simp only [World.size_alloc, World.size_setCell, World.size_drew, World.size_drewN'] at hz4); (try (have kq := cellAt hb4 (w.heap.size) (by go_size); have k4_w_0_0 := kq 0; have k4_w_0_1 := kq 1; clear kq; have f4_w_0 := frozAt hb4 (w.heap.size) (by go_size); simp [go_sem, *] at k4_w_0_0 k4_w_0_1 f4_w_0)); (try have l4_w_0 : w.heap.size < w4.heap.size := by omega); (try (have kq := cellAt hb4 (w.heap.size + 1) (by go_size); have k4_w_1_0 := kq 0; have k4_w_1_1 := kq 1; have k4_w_1_2 := kq 2; clear kq; have f4_w_1 := frozAt hb4 (w.heap.size + 1) (by go_size); simp [go_sem, *] at k4_w_1_0 k4_w_1_1 k4_w_1_2 f4_w_1)); (try have l4_w_1 : w.heap.size + 1 < w4.heap.size := by omega); (try (have kq := cellAt hb4 (w.heap.size + 1 + 1) (by go_size); have k4_w_2_0 := kq 0; have k4_w_2_1 := kq 1; have k4_w_2_2 := kq 2; have k4_w_2_3 := kq 3; clear kq; have f4_w_2 := frozAt hb4 (w.heap.size + 1 + 1) (by go_size); simp [go_sem, *] at k4_w_2_0 k4_w_2_1 k4_w_2_2 k4_w_2_3 f4_w_2)); (try have l4_w_2 : w.heap.size + 1 + 1 < w4.heap.size := by omega); (try clear k1_w_0_0 k1_w_0_1 f1_w_0); (try clear l1_w_0); (try clear k1_w_1_0 k1_w_1_1 k1_w_1_2 f1_w_1); (try clear l1_w_1); (try clear k1_w_2_0 k1_w_2_1 k1_w_2_2 k1_w_2_3 f1_w_2); (try clear l1_w_2); (try clear k2_w_0_0 k2_w_0_1 f2_w_0); (try clear l2_w_0); (try clear k2_w_1_0 k2_w_1_1 k2_w_1_2 f2_w_1); (try clear l2_w_1); (try clear k2_w_2_0 k2_w_2_1 k2_w_2_2 k2_w_2_3 f2_w_2); (try clear l2_w_2); (try clear k3_w_0_0 k3_w_0_1 f3_w_0); (try clear l3_w_0); (try clear k3_w_1_0 k3_w_1_1 k3_w_1_2 f3_w_1); (try clear l3_w_1); (try clear k3_w_2_0 k3_w_2_1 k3_w_2_2 k3_w_2_3 f3_w_2); (try clear l3_w_2)))
    refine bodyPost_ret (v := _) (by simp [results, Tryz.results77, go_sem, *]) rfl ⟨rfl, ?_⟩
    repeat' first | (with_reducible first | apply zRf | assumption | apply zDn | apply zDr | apply zAl | apply zSt | refine zVi (by assumption) ?_ ?_) | go_size
end Go.Proofs.YtgjppinjapdbeaaGreat
