/- Lemmas and contracts of functions. No condition. -/
import Derived.Test.YtnkmgpmehkholaaGreatPq17
import Derived.Test.YtnkmgpmehkholaaGreatPq21
import Derived.Test.YtnkmgpmehkholaaGreatPq40
namespace Go.Proofs.YtnkmgpmehkholaaGreat
section
open Go.RowKit
set_option linter.unusedVariables false
set_option maxHeartbeats 1000000
set_option maxRecDepth 20000
set_option linter.unusedSimpArgs false
attribute [local go_sem] openAt openUpon
theorem NewL.inf {w : World} {T : TypeId} {st : Nat → RSt} {n : Nat} {e : Ending} {w' : World} (h : NewL w T st n e w') (hs : st n = .inf) : ∃ a m c, e = .returned (.tuple #[.slice a m c, .bool true]) ∧ Below w.heap.size w w' := by
 obtain ⟨v, zs, B, h1, h2, h3, h4, h5, h6⟩ := h
 obtain ⟨a, c, rfl, _, _⟩ := h2.shape
 exact ⟨a, _, c, by rw [h1, hs]; rfl, h6⟩
theorem NewL.bad {w : World} {T : TypeId} {st : Nat → RSt} {n : Nat} {e : Ending} {w' : World} (h : NewL w T st n e w') (hs : st n = .bad) : ∃ a m c, e = .returned (.tuple #[.slice a m c, .bool false]) ∧ m ≤ n ∧ Below w.heap.size w w' := by
 obtain ⟨v, zs, B, h1, h2, h3, h4, h5, h6⟩ := h
 obtain ⟨a, c, rfl, _, _⟩ := h2.shape
 refine ⟨a, _, c, by rw [h1, hs]; rfl, ?_, h6⟩
 have : ¬ zs.length = n + 1 := fun e2 => by have := h5.2 e2; rw [hs] at this; cases this
 omega
theorem NewL.at {w : World} {T : TypeId} {st : Nat → RSt} {n : Nat} {e : Ending} {w' : World} {p q : Int} (h : NewL w T st n e w') (hs : st n = .at p q) : ∃ g cap b a m c b2 a2 m2 c2, e = .returned (.tuple #[.slice (some ⟨g, 0, none⟩) (n + 1) cap, .bool false]) ∧ n + 1 ≤ cap ∧ cap ≤ maxLen ∧ g < w'.heap.size ∧
  w'.cell? ⟨g, n * 4, none⟩ = some (.bool b) ∧ w'.cell? ⟨g, n * 4 + 1, none⟩ = some (.slice a m c) ∧ w'.cell? ⟨g, n * 4 + 2, none⟩ = some (.bool b2) ∧ w'.cell? ⟨g, n * 4 + 3, none⟩ = some (.slice a2 m2 c2) ∧ Wx w' b a m c p ∧ Wx w' b2 a2 m2 c2 q ∧ Below w.heap.size w w' := by
 obtain ⟨v, zs, B, h1, h2, h3, h4, h5, h6⟩ := h
 have hl := h5.1 (by rw [hs]; rfl)
 obtain ⟨g, cap, b, a, m, c, b2, a2, m2, c2, g1, g2, g3, g4, g5, g6, g7, g8, g9, g10, g11⟩ := h2.at (i := n) (by omega)
 have hz := h3 n (by omega)
 rw [hs] at hz
 injection hz with uz hz2
 rw [hl] at g1 g2
 subst g1
 exact ⟨g, cap, b, a, m, c, b2, a2, m2, c2, by rw [h1, hs]; rfl, g2, g3, g5, g6, g7, g8, g9, uz ▸ g10, hz2 ▸ g11, h6⟩
theorem chMake_any (a b d : Int) (w : World) (ha : -1000000 ≤ a ∧ a ≤ 1000000) (hb : -1000000 ≤ b ∧ b ≤ 1000000) (hd : 1 ≤ d) :
  Calls Tryz.prog 83 #[.int .i64 a, .int .i64 b, .int .i64 d] w fun e w' => e = .returned (ivV true (down (a * 4096) d) (-(down (-(b * 4096)) d))) ∧ Below w.heap.size w w' := by
 have q1 := down_in (a := a * 4096) (b := d) (M := 10000000000) (by omega) (by omega)
 have q2 := down_in (a := -(b * 4096)) (b := d) (M := 10000000000) (by omega) (by omega)
 rw [ivV, Bool.true_and]
 have tok1 := trivial
 go_enter Tryz.func83, Tryz.ntmps83
 go_wp2_with (first | (go_at_call 98; refine (frDown_any _ _ _ (by omega) (by omega) (by omega)).mono ?_; rintro e w' ⟨rfl, rfl⟩) | (go_at_call 99; refine (ivUp_any _ _ _ (by omega) (by omega) (by omega)).mono ?_; rintro e w' ⟨rfl, rfl⟩) | (have _t := tok1; go_at_call 49; refine (ivMake_lit _ _ _ (by omega) (by omega)).mono ?_; rintro e w1 ⟨rfl, hb1⟩; clear tok1 _t; have hz1 := hb1.size; (try simp only [sA, sB, sC, sD] at hz1); (try (obtain ⟨kq, qg⟩ := cfAt hb1 (w.heap.size); have qc := kq 0; have qd := kq 1; have qe := kq 2; have qf := kq 3; clear kq; simp [go_sem, *] at qc qd qe qf qg)); (try have qh : w.heap.size < w1.heap.size := by omega)))
 refine bodyPost_ret (v := _) (by simp [results, Tryz.results83, go_sem, *]) rfl ⟨rfl, ?_⟩
 exact bel
theorem chHeight_any (A B x y e : Int) (n : Nat) (w : World) (hA : -1000 ≤ A ∧ A ≤ 1000) (hBB : -10000 ≤ B ∧ B ≤ 10000) (hcv : coV A B ≠ 0) (hx : -10000 ≤ x ∧ x ≤ 10000) (he : 0 ≤ e ∧ e ≤ 20) (hn : n ≤ 5) :
  Calls Tryz.prog 70 #[.agg #[.int .i64 A, .int .i64 B], .agg #[.int .i64 x, .int .i64 y, .int .i64 e], .int .i64 n] w fun r w' => r = .returned (ivV (htOk (ptSt A B x e n)) (htLo (dcV A B) n (ptSt A B x e n)) (htHi (dcV A B) n (ptSt A B x e n))) ∧ Below w.heap.size w w' := by
 have TR0 := fun W => chRatios_any A B x y e n W hA hBB hcv hx he (by omega)
 have hok := ptSt_ok (A := A) (B := B) hx he n
 have hC := dc_bd hA hBB
 have hnn : (n : Int) ≤ 5 := by omega
 cases hs : ptSt A B x e n with
 | inf =>
  have TR := fun W => (TR0 W).mono fun e w' h => h.inf hs
  clear TR0 hok
  rw [show htOk .inf = true from rfl, show htLo (dcV A B) n .inf = 0 from rfl, show htHi (dcV A B) n .inf = 0 from rfl]
  have HV := Lib.hid (ivV_yes (show validB 0 0 = true by decide))
  have TM : ∀ W, Calls Tryz.prog 83 #[.int .i64 0, .int .i64 0, .int .i64 1] W fun e w' => e = .returned (.tuple #[.agg #[.int .i64 (mkN 0 4096), .int .i64 (mkD 0 4096), .int .i64 (mkN 0 4096), .int .i64 (mkD 0 4096)], .bool true]) ∧ Below W.heap.size W w' := fun W => HV.out ▸ chMake_any 0 0 1 W (by omega) (by omega) (by omega)
  clear hs
  have tok1 := trivial
  have tok2 := trivial
  go_enter Tryz.func70, Tryz.ntmps70
  go_wp2_with (first | (have _t := tok1; go_at_call 82; (with_reducible refine ((TR _)).mono ?_); rintro e w1 ⟨a1, m1, c1, rfl, hb1⟩; clear tok1 _t; have hz1 := hb1.size; (try simp only [sA, sB, sC, sD] at hz1); (try (obtain ⟨kq, ql⟩ := cfAt hb1 (w.heap.size); have qc := kq 0; have qd := kq 1; clear kq; simp [go_sem, *] at qc qd ql)); (try have qz : w.heap.size < w1.heap.size := by omega); (try (obtain ⟨kq, qm⟩ := cfAt hb1 (w.heap.size + 1); have qe := kq 0; have qf := kq 1; have qg := kq 2; clear kq; simp [go_sem, *] at qe qf qg qm)); (try have xc : w.heap.size + 1 < w1.heap.size := by omega); (try (obtain ⟨kq, qn⟩ := cfAt hb1 (w.heap.size + 1 + 1); have qh := kq 0; have qi := kq 1; have qj := kq 2; have qk := kq 3; clear kq; simp [go_sem, *] at qh qi qj qk qn)); (try have xd : w.heap.size + 1 + 1 < w1.heap.size := by omega)) | (have _t := tok2; go_at_call 83; (with_reducible refine ((TM _)).mono ?_); rintro e w2 ⟨rfl, hb2⟩; clear tok2 _t; have hz2 := hb2.size; (try simp only [sA, sB, sC, sD] at hz2); (try (obtain ⟨kq, xn⟩ := cfAt hb2 (w.heap.size); have xe := kq 0; have xf := kq 1; clear kq; simp [go_sem, *] at xe xf xn)); (try have zc : w.heap.size < w2.heap.size := by omega); (try (obtain ⟨kq, xo⟩ := cfAt hb2 (w.heap.size + 1); have xg := kq 0; have xh := kq 1; have xi := kq 2; clear kq; simp [go_sem, *] at xg xh xi xo)); (try have zd : w.heap.size + 1 < w2.heap.size := by omega); (try (obtain ⟨kq, xp⟩ := cfAt hb2 (w.heap.size + 1 + 1); have xj := kq 0; have xk := kq 1; have xl := kq 2; have xm := kq 3; clear kq; simp [go_sem, *] at xj xk xl xm xp)); (try have ze : w.heap.size + 1 + 1 < w2.heap.size := by omega); (try clear qc qd ql); (try clear qz); (try clear qe qf qg qm); (try clear xc); (try clear qh qi qj qk qn); (try clear xd)))
  rw [HV.out]
  refine bodyPost_ret (v := _) (by simp [results, Tryz.results70, go_sem, *]) rfl ⟨rfl, ?_⟩
  exact bel
 | bad =>
  have TR := fun W => (TR0 W).mono fun e w' h => h.bad hs
  clear TR0 hok
  rw [show htOk .bad = false from rfl, ivV_no (by simp)]
  clear hs
  have tok1 := trivial
  go_enter Tryz.func70, Tryz.ntmps70
  go_wp2_with (first | (have _t := tok1; go_at_call 82; (with_reducible refine ((TR _)).mono ?_); rintro e w1 ⟨a1, m1, c1, rfl, hm1, hb1⟩; clear tok1 _t; have hz1 := hb1.size; (try simp only [sA, sB, sC, sD] at hz1); (try (obtain ⟨kq, ql⟩ := cfAt hb1 (w.heap.size); have qc := kq 0; have qd := kq 1; clear kq; simp [go_sem, *] at qc qd ql)); (try have qz : w.heap.size < w1.heap.size := by omega); (try (obtain ⟨kq, qm⟩ := cfAt hb1 (w.heap.size + 1); have qe := kq 0; have qf := kq 1; have qg := kq 2; clear kq; simp [go_sem, *] at qe qf qg qm)); (try have xc : w.heap.size + 1 < w1.heap.size := by omega); (try (obtain ⟨kq, qn⟩ := cfAt hb1 (w.heap.size + 1 + 1); have qh := kq 0; have qi := kq 1; have qj := kq 2; have qk := kq 3; clear kq; simp [go_sem, *] at qh qi qj qk qn)); (try have xd : w.heap.size + 1 + 1 < w1.heap.size := by omega)))
  refine bodyPost_ret (v := _) (by simp [results, Tryz.results70, go_sem, *]) rfl ⟨rfl, ?_⟩
  exact bel
 | «at» p q =>
  have TR := fun W => (TR0 W).mono fun e w' h => h.at hs
  rw [hs] at hok
  clear TR0 hs
  have hrb := raB_bd hok
  have hbb := bitsZ_bd (x := p) (z := q) ⟨hrb.1, hrb.2.1⟩
  have hp43 := p43 n
  have h4 := four_bd (k := n) (by omega) (by omega)
  have TP : ∀ W, Calls Tryz.prog 86 #[.int .i64 n] W fun e w' => e = .returned (.int .i64 (4 ^ n * 3)) ∧ W = w' := fun W => by have := chPower_any n W (by omega) (by omega); simpa using this
  have TC := fun W => htConstant_any A B W hA hBB
  have TB := fun W (b : Bool) (a : Option Addr) (n c : Nat) (b2 : Bool) (a2 : Option Addr) (n2 c2 : Nat) (g1 : Wx W b a n c p) (g2 : Wx W b2 a2 n2 c2 q) => xdBits_any b b2 a a2 n c n2 c2 p q W g1 g2 hrb.1 hrb.2.1
  rw [show htOk (.at p q) = true from rfl, show htLo (dcV A B) n (.at p q) = hLo (dcV A B) (bitsZ p q) (4 ^ n * 3) from rfl, show htHi (dcV A B) n (.at p q) = hHi (dcV A B) (bitsZ p q) (4 ^ n * 3) from rfl]
  generalize bitsZ p q = bz at *
  generalize dcV A B = C at *
  generalize (4 : Int) ^ n * 3 = P at *
  have hmo : most 0 (3 * (bz - 1) - C) = max 0 (3 * (bz - 1) - C) := most_eq _ _
  have hmb : 0 ≤ most 0 (3 * (bz - 1) - C) ∧ most 0 (3 * (bz - 1) - C) ≤ 10000 := by omega
  clear hmo
  have TM : ∀ W, Calls Tryz.prog 83 #[.int .i64 (most 0 (3 * (bz - 1) - C)), .int .i64 (3 * bz + C), .int .i64 P] W fun e w' => e = .returned (.tuple #[.agg #[.int .i64 (ivN1 true (hLo C bz P) (hHi C bz P)), .int .i64 (ivD1 true (hLo C bz P) (hHi C bz P)), .int .i64 (ivN2 true (hLo C bz P) (hHi C bz P)), .int .i64 (ivD2 true (hLo C bz P) (hHi C bz P))], .bool (true && validB (hLo C bz P) (hHi C bz P))]) ∧ Below W.heap.size W w' := fun W => chMake_any _ _ P W (by omega) (by omega) (by omega)
  rw [ivV]
  generalize ivN1 true (hLo C bz P) (hHi C bz P) = i1 at *
  generalize ivD1 true (hLo C bz P) (hHi C bz P) = i2 at *
  generalize ivN2 true (hLo C bz P) (hHi C bz P) = i3 at *
  generalize ivD2 true (hLo C bz P) (hHi C bz P) = i4 at *
  generalize (true && validB (hLo C bz P) (hHi C bz P)) = i5 at *
  clear hok hrb hp43 h4
  have tok1 := trivial
  have tok2 := trivial
  have tok3 := trivial
  have tok4 := trivial
  go_enter Tryz.func70, Tryz.ntmps70
  go_wp2_with (first | (have _t := tok1; go_at_call 82; (with_reducible refine ((TR _)).mono ?_); rintro e w1 ⟨g, cap, b, a, m, c, b2, a2, m2, c2, rfl, hcap, hcm, hg, k0, k1, k2, k3, ux, uz, hb1⟩; clear tok1 _t; have hz1 := hb1.size; (try simp only [sA, sB, sC, sD] at hz1); (try (obtain ⟨kq, ql⟩ := cfAt hb1 (w.heap.size); have qc := kq 0; have qd := kq 1; clear kq; simp [go_sem, *] at qc qd ql)); (try have qz : w.heap.size < w1.heap.size := by omega); (try (obtain ⟨kq, qm⟩ := cfAt hb1 (w.heap.size + 1); have qe := kq 0; have qf := kq 1; have qg := kq 2; clear kq; simp [go_sem, *] at qe qf qg qm)); (try have xc : w.heap.size + 1 < w1.heap.size := by omega); (try (obtain ⟨kq, qn⟩ := cfAt hb1 (w.heap.size + 1 + 1); have qh := kq 0; have qi := kq 1; have qj := kq 2; have qk := kq 3; clear kq; simp [go_sem, *] at qh qi qj qk qn)); (try have xd : w.heap.size + 1 + 1 < w1.heap.size := by omega)))
  have TB2 : ∀ W, Below w1.heap.size w1 W → Calls Tryz.prog 84 #[.agg #[.bool b, .slice a m c, .bool b2, .slice a2 m2 c2]] W fun e w' => e = .returned (.int .i64 bz) ∧ Below W.heap.size W w' := fun W hW => TB W _ _ _ _ _ _ _ _ (ux.below hW) (uz.below hW)
  have hnc : (n : Int) < ((n + 1 : Nat) : Int) := by omega
  refine wp_open (n := 8) (by kernel_rfl) (by kernel_rfl) (by kernel_rfl) (by kernel_rfl) ?_
  simp only [List.take_succ_cons, List.take_zero]
  apply wpS_quiet
  ·intro γ W hW hp
   refine ⟨rfl, ?_⟩
   go_big_quiet_op
   first | exact rfl
  ·exact locS_const _
  try simp only [Act.put, List.setIfInBounds_toArray, List.set_cons_succ, List.set_cons_zero, Nat.reduceAdd]
  apply wpS_quiet
  ·intro γ W hW hp
   refine ⟨rfl, ?_⟩
   go_big_quiet_op
   first | exact rfl
  ·exact locS_const _
  try simp only [Act.put, List.setIfInBounds_toArray, List.set_cons_succ, List.set_cons_zero, Nat.reduceAdd]
  apply wpS_quiet
  ·intro γ W hW hp
   have hs := hW.size
   (try simp only [sA, sB, sC, sD] at hs)
   try (have qo := xcA hW (w.heap.size) 0; simp [go_sem, *] at qo)
   try (have qq := xcA hW (w.heap.size) 1; simp [go_sem, *] at qq)
   try (have qr := xcA hW (w.heap.size + 1) 0; simp [go_sem, *] at qr)
   try (have qt := xcA hW (w.heap.size + 1) 1; simp [go_sem, *] at qt)
   try (have qu := xcA hW (w.heap.size + 1) 2; simp [go_sem, *] at qu)
   try (have qv := xcA hW (w.heap.size + 1 + 1) 0; simp [go_sem, *] at qv)
   try (have qw := xcA hW (w.heap.size + 1 + 1) 1; simp [go_sem, *] at qw)
   try (have qx := xcA hW (w.heap.size + 1 + 1) 2; simp [go_sem, *] at qx)
   try (have qy := xcA hW (w.heap.size + 1 + 1) 3; simp [go_sem, *] at qy)
   clear hW hp
   refine ⟨rfl, ?_⟩
   go_big_quiet_op
   first | exact rfl
  ·exact locS_const _
  try simp only [Act.put, List.setIfInBounds_toArray, List.set_cons_succ, List.set_cons_zero, Nat.reduceAdd]
  apply wpS_quiet
  ·intro γ W hW hp
   have hs0 := hW.size; have q0 := fun x : Over W => (cellAt x.lies g (by omega) (n * 4)).trans ((cellAt hW g (by omega) (n * 4)).trans k0); have q1 := fun x : Over W => (cellAt x.lies g (by omega) (n * 4 + 1)).trans ((cellAt hW g (by omega) (n * 4 + 1)).trans k1); have q2 := fun x : Over W => (cellAt x.lies g (by omega) (n * 4 + 2)).trans ((cellAt hW g (by omega) (n * 4 + 2)).trans k2); have q3 := fun x : Over W => (cellAt x.lies g (by omega) (n * 4 + 3)).trans ((cellAt hW g (by omega) (n * 4 + 3)).trans k3)
   have hs := hW.size
   (try simp only [sA, sB, sC, sD] at hs)
   try (have qo := xcA hW (w.heap.size) 0; simp [go_sem, *] at qo)
   try (have qq := xcA hW (w.heap.size) 1; simp [go_sem, *] at qq)
   try (have qr := xcA hW (w.heap.size + 1) 0; simp [go_sem, *] at qr)
   try (have qt := xcA hW (w.heap.size + 1) 1; simp [go_sem, *] at qt)
   try (have qu := xcA hW (w.heap.size + 1) 2; simp [go_sem, *] at qu)
   try (have qv := xcA hW (w.heap.size + 1 + 1) 0; simp [go_sem, *] at qv)
   try (have qw := xcA hW (w.heap.size + 1 + 1) 1; simp [go_sem, *] at qw)
   try (have qx := xcA hW (w.heap.size + 1 + 1) 2; simp [go_sem, *] at qx)
   try (have qy := xcA hW (w.heap.size + 1 + 1) 3; simp [go_sem, *] at qy)
   clear hW hp
   refine ⟨rfl, ?_⟩
   go_big_quiet_op
   first | exact rfl
  ·exact locS_const _
  try simp only [Act.put, List.setIfInBounds_toArray, List.set_cons_succ, List.set_cons_zero, Nat.reduceAdd]
  apply wpS_quiet
  ·intro γ W hW hp
   refine ⟨rfl, ?_⟩
   go_big_quiet_op
   apply Exists.intro
   refine ⟨fun x => ?_, ?_⟩
   ·(first | (go_at_call 84; (with_reducible exact draw_of _ ((TB2 _ (below_via (Over.lies _) (below_via hW bel (by go_size)) (by (have := hW.size; (try simp only [sA, sB, sC, sD] at this); omega))))))) | (go_at_call 85; (with_reducible exact draw_of _ ((TC _)))))
   exact rfl
  ·exact locS_const _
  try simp only [Act.put, List.setIfInBounds_toArray, List.set_cons_succ, List.set_cons_zero, Nat.reduceAdd]
  apply wpS_quiet
  ·intro γ W hW hp
   have hs := hW.size
   (try simp only [sA, sB, sC, sD] at hs)
   try (have qo := xcA hW (w.heap.size) 0; simp [go_sem, *] at qo)
   try (have qq := xcA hW (w.heap.size) 1; simp [go_sem, *] at qq)
   try (have qr := xcA hW (w.heap.size + 1) 0; simp [go_sem, *] at qr)
   try (have qt := xcA hW (w.heap.size + 1) 1; simp [go_sem, *] at qt)
   try (have qu := xcA hW (w.heap.size + 1) 2; simp [go_sem, *] at qu)
   try (have qv := xcA hW (w.heap.size + 1 + 1) 0; simp [go_sem, *] at qv)
   try (have qw := xcA hW (w.heap.size + 1 + 1) 1; simp [go_sem, *] at qw)
   try (have qx := xcA hW (w.heap.size + 1 + 1) 2; simp [go_sem, *] at qx)
   try (have qy := xcA hW (w.heap.size + 1 + 1) 3; simp [go_sem, *] at qy)
   clear hW hp
   refine ⟨rfl, ?_⟩
   go_big_quiet_op
   first | exact rfl
  ·exact locS_const _
  try simp only [Act.put, List.setIfInBounds_toArray, List.set_cons_succ, List.set_cons_zero, Nat.reduceAdd]
  apply wpS_quiet
  ·intro γ W hW hp
   refine ⟨rfl, ?_⟩
   go_big_quiet_op
   apply Exists.intro
   refine ⟨fun x => ?_, ?_⟩
   ·(first | (go_at_call 84; (with_reducible exact draw_of _ ((TB2 _ (below_via (Over.lies _) (below_via hW bel (by go_size)) (by (have := hW.size; (try simp only [sA, sB, sC, sD] at this); omega))))))) | (go_at_call 85; (with_reducible exact draw_of _ ((TC _)))))
   exact rfl
  ·exact locS_const _
  try simp only [Act.put, List.setIfInBounds_toArray, List.set_cons_succ, List.set_cons_zero, Nat.reduceAdd]
  apply wpS_quiet
  ·intro γ W hW hp
   refine ⟨rfl, ?_⟩
   go_big_quiet_op
   first | exact rfl
  ·exact locS_const _
  try simp only [Act.put, List.setIfInBounds_toArray, List.set_cons_succ, List.set_cons_zero, Nat.reduceAdd]
  apply wpS_end
  intro γ w3 hb3 hG3 hA3
  clear hG3 hA3
  simp only [List.drop_succ_cons, List.drop_zero]
  have hz3 := hb3.size
  (try simp only [sA, sB, sC, sD] at hz3)
  (try (obtain ⟨kq, zf⟩ := cfAt hb3 (w.heap.size); have xq := kq 0; have xr := kq 1; clear kq; simp [go_sem, *] at xq xr zf))
  (try have zt : w.heap.size < w3.heap.size := by omega)
  (try (obtain ⟨kq, zg⟩ := cfAt hb3 (w.heap.size + 1); have xt := kq 0; have xu := kq 1; have xv := kq 2; clear kq; simp [go_sem, *] at xt xu xv zg))
  (try have zu : w.heap.size + 1 < w3.heap.size := by omega)
  (try (obtain ⟨kq, zh⟩ := cfAt hb3 (w.heap.size + 1 + 1); have xw := kq 0; have xy := kq 1; have za := kq 2; have zb := kq 3; clear kq; simp [go_sem, *] at xw xy za zb zh))
  (try have zv : w.heap.size + 1 + 1 < w3.heap.size := by omega)
  (try clear qc qd ql)
  (try clear qz)
  (try clear qe qf qg qm)
  (try clear xc)
  (try clear qh qi qj qk qn)
  (try clear xd)
  (try clear xe xf xn)
  (try clear zc)
  (try clear xg xh xi xo)
  (try clear zd)
  (try clear xj xk xl xm xp)
  (try clear ze)
  go_outline
  go_wp2_with (first | (go_at_call 69; refine (l1Most_any _ _ _).mono ?_; rintro e w' ⟨rfl, rfl⟩) | (go_at_call 86; (with_reducible refine ((TP _)).mono ?_); rintro e w' ⟨rfl, rfl⟩) | (have _t := tok4; go_at_call 83; (with_reducible refine ((TM _)).mono ?_); rintro e w4 ⟨rfl, hb4⟩; clear tok4 _t; have hz4 := hb4.size; (try simp only [sA, sB, sC, sD] at hz4); (try (obtain ⟨kq, zw⟩ := cfAt hb4 (w.heap.size); have zi := kq 0; have zj := kq 1; clear kq; simp [go_sem, *] at zi zj zw)); (try have ja : w.heap.size < w4.heap.size := by omega); (try (obtain ⟨kq, zx⟩ := cfAt hb4 (w.heap.size + 1); have zk := kq 0; have zm := kq 1; have zn := kq 2; clear kq; simp [go_sem, *] at zk zm zn zx)); (try have jb : w.heap.size + 1 < w4.heap.size := by omega); (try (obtain ⟨kq, zy⟩ := cfAt hb4 (w.heap.size + 1 + 1); have zo := kq 0; have zp := kq 1; have zq := kq 2; have zr := kq 3; clear kq; simp [go_sem, *] at zo zp zq zr zy)); (try have jc : w.heap.size + 1 + 1 < w4.heap.size := by omega); (try clear qc qd ql); (try clear qz); (try clear qe qf qg qm); (try clear xc); (try clear qh qi qj qk qn); (try clear xd); (try clear xe xf xn); (try clear zc); (try clear xg xh xi xo); (try clear zd); (try clear xj xk xl xm xp); (try clear ze); (try clear xq xr zf); (try clear zt); (try clear xt xu xv zg); (try clear zu); (try clear xw xy za zb zh); (try clear zv)))
  refine bodyPost_ret (v := _) (by simp [results, Tryz.results70, go_sem, *]) rfl ⟨rfl, ?_⟩
  exact bel
end
section
open Go.RowKit
set_option linter.unusedVariables false
set_option maxHeartbeats 1000000
set_option maxRecDepth 20000
set_option linter.unusedSimpArgs false
attribute [local go_sem] openAt openUpon
/-- the best interval, how many doublings it took, and whether there is one -/
def beN1 (C : Int) (st : Nat → RSt) : Int := ivN1 true (bLo C st (bestN st)) (bHi C st (bestN st))
def beD1 (C : Int) (st : Nat → RSt) : Int := ivD1 true (bLo C st (bestN st)) (bHi C st (bestN st))
def beN2 (C : Int) (st : Nat → RSt) : Int := ivN2 true (bLo C st (bestN st)) (bHi C st (bestN st))
def beD2 (C : Int) (st : Nat → RSt) : Int := ivD2 true (bLo C st (bestN st)) (bHi C st (bestN st))
def beOk (C : Int) (st : Nat → RSt) : Bool := validB (bLo C st (bestN st)) (bHi C st (bestN st))
def beK (C : Int) (st : Nat → RSt) : Int := if beOk C st = true then (bestN st : Int) else 0
theorem be_yes {C : Int} {st : Nat → RSt} (hC : 0 ≤ C ∧ C ≤ 64) (hs : ∀ k, okS (st k) = true) {k : Nat} (hk : bestN st = k) (h : bLo C st k ≤ bHi C st k) :
  beN1 C st = mkN (bLo C st k) 4096 ∧ beD1 C st = mkD (bLo C st k) 4096 ∧ beN2 C st = mkN (bHi C st k) 4096 ∧ beD2 C st = mkD (bHi C st k) 4096 ∧ beOk C st = true ∧ beK C st = k := by
 have hv : validB (bLo C st k) (bHi C st k) = true := by rw [valid_b hC hs]; simpa using h
 refine ⟨?_, ?_, ?_, ?_, ?_, ?_⟩
 ·simp [beN1, hk, ivN1, hv]
 ·simp [beD1, hk, ivD1, hv]
 ·simp [beN2, hk, ivN2, hv]
 ·simp [beD2, hk, ivD2, hv]
 ·simp [beOk, hk, hv]
 ·simp [beK, beOk, hk, hv]
theorem be_no {C : Int} {st : Nat → RSt} (hC : 0 ≤ C ∧ C ≤ 64) (hs : ∀ k, okS (st k) = true) {k : Nat} (hk : k ≤ bestN st) (h : ¬ bLo C st k ≤ bHi C st k) :
  beN1 C st = 0 ∧ beD1 C st = 0 ∧ beN2 C st = 0 ∧ beD2 C st = 0 ∧ beOk C st = false ∧ beK C st = 0 := by
 have h2 : ¬ bLo C st (bestN st) ≤ bHi C st (bestN st) := fun e => h (b_anti _ hk e)
 have hv : validB (bLo C st (bestN st)) (bHi C st (bestN st)) = false := by rw [valid_b hC hs]; simpa using h2
 refine ⟨?_, ?_, ?_, ?_, ?_, ?_⟩
 ·simp [beN1, ivN1, hv]
 ·simp [beD1, ivD1, hv]
 ·simp [beN2, ivN2, hv]
 ·simp [beD2, ivD2, hv]
 ·simp [beOk, hv]
 ·simp [beK, beOk, hv]
theorem ptSt_ok0 {A B x e : Int} : htOk (ptSt A B x e 0) = true := by
 by_cases h : e = 0
 ·simp [ptSt, h, htOk]
 ·rw [ptSt_zero h]; rfl
def BsRel (w : World) (A B x y e C : Int) (st : Nat → RSt) (gB N : Nat) (nv : Value) (wr : World) : Prop := ∃ k : Nat, nv = .int .i64 k ∧ k ≤ 5 ∧ bN st (5 - k) k = N ∧ bLo C st k ≤ bHi C st k ∧ wr.heap[w.heap.size]? = some (.cells #[.int .i64 A, .int .i64 B] 32 (0, 0)) ∧ wr.heap[w.heap.size + 1]? = some (.cells #[.int .i64 x, .int .i64 y, .int .i64 e] 34 (0, 0)) ∧
 wr.heap[w.heap.size + 1 + 1]? = some (.cells #[.int .i64 0, .int .i64 0, .int .i64 0, .int .i64 0] 29 (0, 0)) ∧ wr.heap[gB]? = some (.cells #[.int .i64 (mkN (bLo C st k) 4096), .int .i64 (mkD (bLo C st k) 4096), .int .i64 (mkN (bHi C st k) 4096), .int .i64 (mkD (bHi C st k) 4096)] 29 (0, 0)) ∧ Below w.heap.size w wr
theorem chBest_any (A B x y e : Int) (w : World) (hA : -1000 ≤ A ∧ A ≤ 1000) (hBB : -10000 ≤ B ∧ B ≤ 10000) (hcv : coV A B ≠ 0) (hx : -10000 ≤ x ∧ x ≤ 10000) (he : 0 ≤ e ∧ e ≤ 20) :
  Calls Tryz.prog 48 #[.agg #[.int .i64 A, .int .i64 B], .agg #[.int .i64 x, .int .i64 y, .int .i64 e]] w fun r w' => r = .returned (.tuple #[.agg #[.int .i64 (beN1 (dcV A B) (ptSt A B x e)), .int .i64 (beD1 (dcV A B) (ptSt A B x e)), .int .i64 (beN2 (dcV A B) (ptSt A B x e)), .int .i64 (beD2 (dcV A B) (ptSt A B x e))], .int .i64 (beK (dcV A B) (ptSt A B x e)), .bool (beOk (dcV A B) (ptSt A B x e))]) ∧ Below w.heap.size w w' := by
 have hC := dc_bd hA hBB
 have hok := fun k => ptSt_ok (A := A) (B := B) hx he k
 have TK := fun (W : World) (k : Nat) (hk : k ≤ 5) => chHeight_any A B x y e k W hA hBB hcv hx he hk
 have h00 := ptSt_ok0 (A := A) (B := B) (x := x) (e := e)
 generalize hst : ptSt A B x e = st at *
 generalize dcV A B = C at *
 clear hst
 have BY := Lib.hid (fun (k : Nat) (h1 : bestN st = k) (h2 : bLo C st k ≤ bHi C st k) => be_yes hC hok h1 h2)
 have BN := Lib.hid (fun (k : Nat) (h1 : k ≤ bestN st) (h2 : bHi C st k < bLo C st k) => be_no hC hok h1 (by omega))
 have T0 : ∀ W, Calls Tryz.prog 70 #[.agg #[.int .i64 A, .int .i64 B], .agg #[.int .i64 x, .int .i64 y, .int .i64 e], .int .i64 0] W fun r w' => r = .returned (.tuple #[.agg #[.int .i64 (mkN (bLo C st 0) 4096), .int .i64 (mkD (bLo C st 0) 4096), .int .i64 (mkN (bHi C st 0) 4096), .int .i64 (mkD (bHi C st 0) 4096)], .bool true]) ∧ Below W.heap.size W w' := fun W => by
  have := TK W 0 (by omega)
  rw [h00, ivV_yes (valid_ht hC (hok 0))] at this
  exact this
 have l0 := (ht_bd (n := 0) hC (hok 0)).2.1
 obtain ⟨N, hN⟩ : ∃ N, bestN st = N := ⟨_, rfl⟩
 have HK := Lib.hid hok
 have TKH := Lib.hid TK
 have HN := Lib.hid hN
 clear hok TK h00 hN
 have tok1 := trivial
 have tok2 := trivial
 have tok3 := trivial
 have tok4 := trivial
 have tok5 := trivial
 have tok6 := trivial
 have tok7 := trivial
 go_enter Tryz.func48, Tryz.ntmps48
 go_wp2_with (first | (have _t := tok1; go_at_call 70; (with_reducible refine ((T0 _)).mono ?_); rintro e w1 ⟨rfl, hb1⟩; clear tok1 _t; have hz1 := hb1.size; (try simp only [sA, sB, sC, sD] at hz1); (try (obtain ⟨kq, zj⟩ := cfAt hb1 (w.heap.size); have xh := kq 0; have xi := kq 1; clear kq; simp [go_sem, *] at xh xi zj)); (try have ya : w.heap.size < w1.heap.size := by omega); (try (obtain ⟨kq, zk⟩ := cfAt hb1 (w.heap.size + 1); have xj := kq 0; have xk := kq 1; have xl := kq 2; clear kq; simp [go_sem, *] at xj xk xl zk)); (try have yb : w.heap.size + 1 < w1.heap.size := by omega); (try (obtain ⟨kq, zm⟩ := cfAt hb1 (w.heap.size + 1 + 1); have xm := kq 0; have xn := kq 1; have xo := kq 2; have xp := kq 3; clear kq; simp [go_sem, *] at xm xn xo xp zm)); (try have yc : w.heap.size + 1 + 1 < w1.heap.size := by omega)))
 have hz1' := hb1.size
 simp only [World.size_alloc] at hz1'
 have HC1 : w1.heap[w.heap.size]? = some (.cells #[.int .i64 A, .int .i64 B] 32 (0, 0)) := (hb1.block _ (by go_size)).trans ck
 have HP1 : w1.heap[w.heap.size + 1]? = some (.cells #[.int .i64 x, .int .i64 y, .int .i64 e] 34 (0, 0)) := (hb1.block _ (by go_size)).trans ck
 have HO1 : w1.heap[w.heap.size + 1 + 1]? = some (.cells #[.int .i64 0, .int .i64 0, .int .i64 0, .int .i64 0] 29 (0, 0)) := (hb1.block _ (by go_size)).trans ck
 have HB1 : Below w.heap.size w w1 := by exact bel
 generalize hgB : w1.heap.size = gB at *
 have HGB := Lib.hid hgB
 go_loopw [9] (fun nv wr => BsRel w A B x y e C st gB N nv wr) (fun nv _ => (5 - intOf nv).toNat)
 case atStart => exact ⟨0, rfl, by omega, HN.out, l0, ck, ck, ck, bx_new HGB.out, HB1.alloc (by rw [HGB.out]; omega) _⟩
 case round =>
  clear HC1 HP1 HO1 HB1 hb1
  obtain ⟨k, rfl, hk, hN, hle, hC2, hP, hO, hX, hbw⟩ := hrel
  have hkc : (k : Int) ≤ 5 := by omega
  have HNk := Lib.hid hN
  have kC0 : wr.cell? ⟨w.heap.size, 0, none⟩ = some (.int .i64 A) := blk_cell hC2 0
  clear kC0 hN
  by_cases hlt : k < 5
  ·have hlc : (k : Int) < 5 := by omega
   have TH0 := TKH.out
   cases hs : htOk (st (k + 1)) with
   | false =>
    have hbN := Lib.hid ((bN_stop hs).symm.trans HNk.out)
    have TH : ∀ W, Calls Tryz.prog 70 #[.agg #[.int .i64 A, .int .i64 B], .agg #[.int .i64 x, .int .i64 y, .int .i64 e], .int .i64 ((k : Int) + 1)] W fun r w' => r = .returned (.tuple #[.agg #[.int .i64 0, .int .i64 0, .int .i64 0, .int .i64 0], .bool false]) ∧ Below W.heap.size W w' := fun W => by
     have := TH0 W (k + 1) (by omega)
     rw [hs, ivV_no (by simp)] at this
     exact this
    have HBY := Lib.hid (BY.out k (HN.out.trans hbN.out.symm) hle)
    clear TH0 hs
    go_upto_region 6 with (fail)
    refine chk (fun W => Below w.heap.size w W ∧ W.heap[w.heap.size]? = some (.cells #[.int .i64 A, .int .i64 B] 32 (0, 0)) ∧ W.heap[w.heap.size + 1]? = some (.cells #[.int .i64 x, .int .i64 y, .int .i64 e] 34 (0, 0)) ∧ W.heap[w.heap.size + 1 + 1]? = some (.cells #[.int .i64 0, .int .i64 0, .int .i64 0, .int .i64 0] 29 (0, 0)) ∧ W.heap[gB]? = some (.cells #[.int .i64 (mkN (bLo C st k) 4096), .int .i64 (mkD (bLo C st k) 4096), .int .i64 (mkN (bHi C st k) 4096), .int .i64 (mkD (bHi C st k) 4096)] 29 (0, 0))) (by refine ⟨?_, ?_, ?_, ?_, ?_⟩ <;> (exact ck)) ?_
    rintro w2 ⟨hB2, qe, qf, qg, qh⟩
    obtain ⟨zn, zo, va, pd⟩ := bk2 qe
    replace qe := Lib.hid qe
    obtain ⟨zp, zq, zr, vb, pe⟩ := bk3 qf
    replace qf := Lib.hid qf
    obtain ⟨zt, zu, zv, zw, vc, pf⟩ := bk4 qg
    replace qg := Lib.hid qg
    obtain ⟨zx, zy, ja, jb, vd, pg⟩ := bk4 qh
    replace qh := Lib.hid qh
    clear hC2 hP hO hX
    go_upto_region 13 with (first | (have _t := tok3; go_at_call 70; (with_reducible refine ((TH _)).mono ?_); rintro e w3 ⟨rfl, hb3⟩; clear tok3 _t; have hz3 := hb3.size; (try simp only [sA, sB, sC, sD] at hz3); (try (obtain ⟨kq, zf⟩ := cfAt hb3 (w.heap.size); have qw := kq 0; have qx := kq 1; clear kq; simp [go_sem, *] at qw qx zf)); (try have vf : w.heap.size < w3.heap.size := by omega); (try (obtain ⟨kq, zg⟩ := cfAt hb3 (w.heap.size + 1); have qy := kq 0; have qz := kq 1; have xc := kq 2; clear kq; simp [go_sem, *] at qy qz xc zg)); (try have vg : w.heap.size + 1 < w3.heap.size := by omega); (try (obtain ⟨kq, zh⟩ := cfAt hb3 (w.heap.size + 1 + 1); have xd := kq 0; have xe := kq 1; have xf := kq 2; have xg := kq 3; clear kq; simp [go_sem, *] at xd xe xf xg zh)); (try have vh : w.heap.size + 1 + 1 < w3.heap.size := by omega); (try (obtain ⟨kq, jp⟩ := cfAt hb3 (gB); have xq := kq 0; have xr := kq 1; have xt := kq 2; have xu := kq 3; clear kq; simp [go_sem, *] at xq xr xt xu jp)); (try have uo : gB < w3.heap.size := by omega); (try clear xh xi zj); (try clear ya); (try clear xj xk xl zk); (try clear yb); (try clear xm xn xo xp zm); (try clear yc); (try clear yh yi yj yk uq); (try clear ur); (try clear jq jr vi); (try clear vj); (try clear jt ju jv vk); (try clear vm); (try clear jw jx jy jz vn); (try clear vo); (try clear yl ym yn yo us); (try clear ut)))
    have qi := (hb3.block (w.heap.size) (blk_lt' qe.out)).trans qe.out
    clear zn zo va qe
    obtain ⟨jc, jd, vp, ph⟩ := bk2 qi
    replace qi := Lib.hid qi
    have qj := (hb3.block (w.heap.size + 1) (blk_lt' qf.out)).trans qf.out
    clear zp zq zr vb qf
    obtain ⟨je, jf, jg, vq, pi⟩ := bk3 qj
    replace qj := Lib.hid qj
    have qk := (hb3.block (w.heap.size + 1 + 1) (blk_lt' qg.out)).trans qg.out
    clear zt zu zv zw vc qg
    obtain ⟨jh, ji, jj, jk, vr, pj⟩ := bk4 qk
    replace qk := Lib.hid qk
    have ql := (hb3.block (gB) (blk_lt' qh.out)).trans qh.out
    clear zx zy ja jb vd qh
    obtain ⟨jl, jm, jn, jo, vt, pk⟩ := bk4 ql
    replace ql := Lib.hid ql
    have hB3 : Below w.heap.size w w3 := below_via hb3 (by assumption) (by go_size)
    replace qi := qi.out
    replace qj := qj.out
    replace qk := qk.out
    replace ql := ql.out
    refine chk (fun W => Below w.heap.size w W ∧ W.heap[w.heap.size + 1 + 1]? = some (.cells #[.int .i64 0, .int .i64 0, .int .i64 0, .int .i64 0] 29 (0, 0)) ∧ W.heap[gB]? = some (.cells #[.int .i64 (mkN (bLo C st k) 4096), .int .i64 (mkD (bLo C st k) 4096), .int .i64 (mkN (bHi C st k) 4096), .int .i64 (mkD (bHi C st k) 4096)] 29 (0, 0))) (by refine ⟨?_, ?_, ?_⟩ <;> (exact ck)) ?_
    clear jc jd vp qi
    clear je jf jg vq qj
    clear jh ji jj jk vr qk
    clear jl jm jn jo vt ql
    clear hB3
    rintro w4 ⟨hB4, qc, qd⟩
    obtain ⟨xv, xw, xy, za, vu, gu⟩ := bk4 qc
    replace qc := Lib.hid qc
    obtain ⟨zb, zc, zd, ze, vv, gy⟩ := bk4 qd
    replace qd := Lib.hid qd
    clear TH
    iterate 24 (first | (with_reducible show bodyPost _ _ _ _ _ _) | (with_reducible refine wp_ret ?_) | go_values | go_skip | go_guarded | go_step | go_upon | go_back | skip)
    refine bodyPost_ret (v := .tuple #[.agg #[.int .i64 (mkN (bLo C st k) 4096), .int .i64 (mkD (bLo C st k) 4096), .int .i64 (mkN (bHi C st k) 4096), .int .i64 (mkD (bHi C st k) 4096)], .int .i64 k, .bool true]) (by simp [results, Tryz.results48, go_sem, xv, xw, xy, za, zb, zc, zd, ze]) rfl ⟨?_, ?_⟩
    ·rw [HBY.out.1, HBY.out.2.1, HBY.out.2.2.1, HBY.out.2.2.2.1, HBY.out.2.2.2.2.1, HBY.out.2.2.2.2.2]
    ·(exact ck)
   | true =>
    have hv1 : validB (bLo C st k) (bHi C st k) = true := by rw [valid_b hC HK.out]; simpa using hle
    have hv2 := valid_ht (n := k + 1) hC (HK.out (k + 1))
    have TH : ∀ W, Calls Tryz.prog 70 #[.agg #[.int .i64 A, .int .i64 B], .agg #[.int .i64 x, .int .i64 y, .int .i64 e], .int .i64 ((k : Int) + 1)] W fun r w' => r = .returned (.tuple #[.agg #[.int .i64 (mkN (htLo C (k + 1) (st (k + 1))) 4096), .int .i64 (mkD (htLo C (k + 1) (st (k + 1))) 4096), .int .i64 (mkN (htHi C (k + 1) (st (k + 1))) 4096), .int .i64 (mkD (htHi C (k + 1) (st (k + 1))) 4096)], .bool true]) ∧ Below W.heap.size W w' := fun W => by
     have := TH0 W (k + 1) (by omega)
     rw [hs, ivV_yes hv2] at this
     exact this
    have r1 := iv_read hv1
    have r2 := iv_read hv2
    have TC0 := fun W => sCommonPart_any (mkN (bLo C st k) 4096) (mkD (bLo C st k) 4096) (mkN (bHi C st k) 4096) (mkD (bHi C st k) 4096) (mkN (htLo C (k + 1) (st (k + 1))) 4096) (mkD (htLo C (k + 1) (st (k + 1))) 4096) (mkN (htHi C (k + 1) (st (k + 1))) 4096) (mkD (htHi C (k + 1) (st (k + 1))) 4096) W
    rw [r1.1, r2.1, r1.2.1, r1.2.2, r2.2.1, r2.2.2] at TC0
    have eL : max (bLo C st k) (htLo C (k + 1) (st (k + 1))) = bLo C st (k + 1) := rfl
    have eH : min (bHi C st k) (htHi C (k + 1) (st (k + 1))) = bHi C st (k + 1) := rfl
    rw [eL, eH] at TC0
    have hbN := Lib.hid ((bN_go hlt hs).symm.trans HNk.out)
    clear r1 r2 eL eH hv2 hs TH0
    by_cases hle2 : bLo C st (k + 1) ≤ bHi C st (k + 1)
    ·skip
     have hv3 : validB (bLo C st (k + 1)) (bHi C st (k + 1)) = true := by rw [valid_b hC HK.out]; simpa using hle2
     have TC : ∀ W, Calls Tryz.prog 71 #[.agg #[.int .i64 (mkN (bLo C st k) 4096), .int .i64 (mkD (bLo C st k) 4096), .int .i64 (mkN (bHi C st k) 4096), .int .i64 (mkD (bHi C st k) 4096)], .agg #[.int .i64 (mkN (htLo C (k + 1) (st (k + 1))) 4096), .int .i64 (mkD (htLo C (k + 1) (st (k + 1))) 4096), .int .i64 (mkN (htHi C (k + 1) (st (k + 1))) 4096), .int .i64 (mkD (htHi C (k + 1) (st (k + 1))) 4096)]] W fun e w' => e = .returned (.tuple #[.agg #[.int .i64 (mkN (bLo C st (k + 1)) 4096), .int .i64 (mkD (bLo C st (k + 1)) 4096), .int .i64 (mkN (bHi C st (k + 1)) 4096), .int .i64 (mkD (bHi C st (k + 1)) 4096)], .bool true]) ∧ Below W.heap.size W w' := fun W => by
      have := TC0 W
      rw [opV_eq, Bool.and_self, ivV_yes hv3] at this
      exact this
     clear TC0 hv1 hv3
     go_upto_region 6 with (fail)
     refine chk (fun W => Below w.heap.size w W ∧ W.heap[w.heap.size]? = some (.cells #[.int .i64 A, .int .i64 B] 32 (0, 0)) ∧ W.heap[w.heap.size + 1]? = some (.cells #[.int .i64 x, .int .i64 y, .int .i64 e] 34 (0, 0)) ∧ W.heap[w.heap.size + 1 + 1]? = some (.cells #[.int .i64 0, .int .i64 0, .int .i64 0, .int .i64 0] 29 (0, 0)) ∧ W.heap[gB]? = some (.cells #[.int .i64 (mkN (bLo C st k) 4096), .int .i64 (mkD (bLo C st k) 4096), .int .i64 (mkN (bHi C st k) 4096), .int .i64 (mkD (bHi C st k) 4096)] 29 (0, 0))) (by refine ⟨?_, ?_, ?_, ?_, ?_⟩ <;> (exact ck)) ?_
     rintro w2 ⟨hB2, qe, qf, qg, qh⟩
     obtain ⟨zn, zo, va, pd⟩ := bk2 qe
     replace qe := Lib.hid qe
     obtain ⟨zp, zq, zr, vb, pe⟩ := bk3 qf
     replace qf := Lib.hid qf
     obtain ⟨zt, zu, zv, zw, vc, pf⟩ := bk4 qg
     replace qg := Lib.hid qg
     obtain ⟨zx, zy, ja, jb, vd, pg⟩ := bk4 qh
     replace qh := Lib.hid qh
     clear hC2 hP hO hX
     go_upto_region 8 with (first | (have _t := tok3; go_at_call 70; (with_reducible refine ((TH _)).mono ?_); rintro e w3 ⟨rfl, hb3⟩; clear tok3 _t; have hz3 := hb3.size; (try simp only [sA, sB, sC, sD] at hz3); (try (obtain ⟨kq, zf⟩ := cfAt hb3 (w.heap.size); have qw := kq 0; have qx := kq 1; clear kq; simp [go_sem, *] at qw qx zf)); (try have vf : w.heap.size < w3.heap.size := by omega); (try (obtain ⟨kq, zg⟩ := cfAt hb3 (w.heap.size + 1); have qy := kq 0; have qz := kq 1; have xc := kq 2; clear kq; simp [go_sem, *] at qy qz xc zg)); (try have vg : w.heap.size + 1 < w3.heap.size := by omega); (try (obtain ⟨kq, zh⟩ := cfAt hb3 (w.heap.size + 1 + 1); have xd := kq 0; have xe := kq 1; have xf := kq 2; have xg := kq 3; clear kq; simp [go_sem, *] at xd xe xf xg zh)); (try have vh : w.heap.size + 1 + 1 < w3.heap.size := by omega); (try (obtain ⟨kq, jp⟩ := cfAt hb3 (gB); have xq := kq 0; have xr := kq 1; have xt := kq 2; have xu := kq 3; clear kq; simp [go_sem, *] at xq xr xt xu jp)); (try have uo : gB < w3.heap.size := by omega); (try clear xh xi zj); (try clear ya); (try clear xj xk xl zk); (try clear yb); (try clear xm xn xo xp zm); (try clear yc); (try clear yh yi yj yk uq); (try clear ur); (try clear jq jr vi); (try clear vj); (try clear jt ju jv vk); (try clear vm); (try clear jw jx jy jz vn); (try clear vo); (try clear yl ym yn yo us); (try clear ut)))
     have qi := (hb3.block (w.heap.size) (blk_lt' qe.out)).trans qe.out
     clear zn zo va qe
     obtain ⟨jc, jd, vp, ph⟩ := bk2 qi
     replace qi := Lib.hid qi
     have qj := (hb3.block (w.heap.size + 1) (blk_lt' qf.out)).trans qf.out
     clear zp zq zr vb qf
     obtain ⟨je, jf, jg, vq, pi⟩ := bk3 qj
     replace qj := Lib.hid qj
     have qk := (hb3.block (w.heap.size + 1 + 1) (blk_lt' qg.out)).trans qg.out
     clear zt zu zv zw vc qg
     obtain ⟨jh, ji, jj, jk, vr, pj⟩ := bk4 qk
     replace qk := Lib.hid qk
     have ql := (hb3.block (gB) (blk_lt' qh.out)).trans qh.out
     clear zx zy ja jb vd qh
     obtain ⟨jl, jm, jn, jo, vt, pk⟩ := bk4 ql
     replace ql := Lib.hid ql
     have hB3 : Below w.heap.size w w3 := below_via hb3 (by assumption) (by go_size)
     replace qi := qi.out
     replace qj := qj.out
     replace qk := qk.out
     replace ql := ql.out
     refine chk (fun W => Below w.heap.size w W ∧ W.heap[w.heap.size]? = some (.cells #[.int .i64 A, .int .i64 B] 32 (0, 0)) ∧ W.heap[w.heap.size + 1]? = some (.cells #[.int .i64 x, .int .i64 y, .int .i64 e] 34 (0, 0)) ∧ W.heap[w.heap.size + 1 + 1]? = some (.cells #[.int .i64 0, .int .i64 0, .int .i64 0, .int .i64 0] 29 (0, 0)) ∧ W.heap[gB]? = some (.cells #[.int .i64 (mkN (bLo C st k) 4096), .int .i64 (mkD (bLo C st k) 4096), .int .i64 (mkN (bHi C st k) 4096), .int .i64 (mkD (bHi C st k) 4096)] 29 (0, 0)) ∧ W.heap[w3.heap.size]? = some (.cells #[.int .i64 (mkN (htLo C (k + 1) (st (k + 1))) 4096), .int .i64 (mkD (htLo C (k + 1) (st (k + 1))) 4096), .int .i64 (mkN (htHi C (k + 1) (st (k + 1))) 4096), .int .i64 (mkD (htHi C (k + 1) (st (k + 1))) 4096)] 29 (0, 0))) (by refine ⟨?_, ?_, ?_, ?_, ?_, ?_⟩ <;> (exact ck)) ?_
     clear jc jd vp qi
     clear je jf jg vq qj
     clear jh ji jj jk vr qk
     clear jl jm jn jo vt ql
     clear hB3
     rintro w4 ⟨hB4, qm, qn, qc, qd, qo⟩
     obtain ⟨vw, vy, ka, di⟩ := bk2 qm
     replace qm := Lib.hid qm
     obtain ⟨wc, wd, wg, kb, dj⟩ := bk3 qn
     replace qn := Lib.hid qn
     obtain ⟨xv, xw, xy, za, vu, gu⟩ := bk4 qc
     replace qc := Lib.hid qc
     obtain ⟨zb, zc, zd, ze, vv, gy⟩ := bk4 qd
     replace qd := Lib.hid qd
     obtain ⟨wi, wj, wk, wl, kc, dk⟩ := bk4 qo
     replace qo := Lib.hid qo
     go_upto_region 11 with (first | (have _t := tok5; go_at_call 71; (with_reducible refine ((TC _)).mono ?_); rintro e w5 ⟨rfl, hb5⟩; clear tok5 _t; have hz5 := hb5.size; (try simp only [sA, sB, sC, sD] at hz5); (try (obtain ⟨kq, ge⟩ := cfAt hb5 (w.heap.size); have yp := kq 0; have yq := kq 1; clear kq; simp [go_sem, *] at yp yq ge)); (try have pu : w.heap.size < w5.heap.size := by omega); (try (obtain ⟨kq, gh⟩ := cfAt hb5 (w.heap.size + 1); have yr := kq 0; have yt := kq 1; have yu := kq 2; clear kq; simp [go_sem, *] at yr yt yu gh)); (try have pv : w.heap.size + 1 < w5.heap.size := by omega); (try (obtain ⟨kq, gk⟩ := cfAt hb5 (w.heap.size + 1 + 1); have yv := kq 0; have yw := kq 1; have yx := kq 2; have yz := kq 3; clear kq; simp [go_sem, *] at yv yw yx yz gk)); (try have pw : w.heap.size + 1 + 1 < w5.heap.size := by omega); (try (obtain ⟨kq, kd⟩ := cfAt hb5 (gB); have wm := kq 0; have wn := kq 1; have wq := kq 2; have ws := kq 3; clear kq; simp [go_sem, *] at wm wn wq ws kd)); (try have dl : gB < w5.heap.size := by omega); (try (obtain ⟨kq, wt⟩ := cfAt hb5 (w3.heap.size); have yd := kq 0; have ye := kq 1; have yf := kq 2; have yg := kq 3; clear kq; simp [go_sem, *] at yd ye yf yg wt)); (try have pm : w3.heap.size < w5.heap.size := by omega); (try clear xh xi zj); (try clear ya); (try clear xj xk xl zk); (try clear yb); (try clear xm xn xo xp zm); (try clear yc); (try clear yh yi yj yk uq); (try clear ur); (try clear jq jr vi); (try clear vj); (try clear jt ju jv vk); (try clear vm); (try clear jw jx jy jz vn); (try clear vo); (try clear yl ym yn yo us); (try clear ut); (try clear qw qx zf); (try clear vf); (try clear qy qz xc zg); (try clear vg); (try clear xd xe xf xg zh); (try clear vh); (try clear xq xr xt xu jp); (try clear uo); (try clear kr ks px); (try clear dc); (try clear kt ku kw de); (try clear df); (try clear kx ky kz pc dg); (try clear dh); (try clear pn po pp pq dm); (try clear dn); (try clear km kn ko kp pr); (try clear pt)))
     have qq := (hb5.block (w.heap.size) (blk_lt' qm.out)).trans qm.out
     clear vw vy ka qm
     obtain ⟨wu, wv, ke, dq⟩ := bk2 qq
     replace qq := Lib.hid qq
     have qr := (hb5.block (w.heap.size + 1) (blk_lt' qn.out)).trans qn.out
     clear wc wd wg kb qn
     obtain ⟨ww, wy, wz, kf, dr⟩ := bk3 qr
     replace qr := Lib.hid qr
     have qt := (hb5.block (w.heap.size + 1 + 1) (blk_lt' qc.out)).trans qc.out
     clear xv xw xy za vu qc
     obtain ⟨uc, ud, ue, uf, kh, dt⟩ := bk4 qt
     replace qt := Lib.hid qt
     have qu := (hb5.block (gB) (blk_lt' qd.out)).trans qd.out
     clear zb zc zd ze vv qd
     obtain ⟨ug, uh, ui, uj, ki, du⟩ := bk4 qu
     replace qu := Lib.hid qu
     have qv := (hb5.block (w3.heap.size) (blk_lt' qo.out)).trans qo.out
     clear wi wj wk wl kc qo
     obtain ⟨uk, ul, um, un, kj, dv⟩ := bk4 qv
     replace qv := Lib.hid qv
     have hB5 : Below w.heap.size w w5 := below_via hb5 (by assumption) (by go_size)
     replace qq := qq.out
     replace qr := qr.out
     replace qt := qt.out
     replace qu := qu.out
     replace qv := qv.out
     refine chk (fun W => Below w.heap.size w W ∧ W.heap[w.heap.size]? = some (.cells #[.int .i64 A, .int .i64 B] 32 (0, 0)) ∧ W.heap[w.heap.size + 1]? = some (.cells #[.int .i64 x, .int .i64 y, .int .i64 e] 34 (0, 0)) ∧ W.heap[w.heap.size + 1 + 1]? = some (.cells #[.int .i64 0, .int .i64 0, .int .i64 0, .int .i64 0] 29 (0, 0)) ∧ W.heap[gB]? = some (.cells #[.int .i64 (mkN (bLo C st k) 4096), .int .i64 (mkD (bLo C st k) 4096), .int .i64 (mkN (bHi C st k) 4096), .int .i64 (mkD (bHi C st k) 4096)] 29 (0, 0)) ∧ W.heap[w5.heap.size]? = some (.cells #[.int .i64 (mkN (bLo C st (k + 1)) 4096), .int .i64 (mkD (bLo C st (k + 1)) 4096), .int .i64 (mkN (bHi C st (k + 1)) 4096), .int .i64 (mkD (bHi C st (k + 1)) 4096)] 29 (0, 0))) (by refine ⟨?_, ?_, ?_, ?_, ?_, ?_⟩ <;> (exact ck)) ?_
     clear wu wv ke qq
     clear ww wy wz kf qr
     clear uc ud ue uf kh qt
     clear ug uh ui uj ki qu
     clear uk ul um un kj qv
     clear hB5
     rintro w6 ⟨hB6, uw, uy, zi, gc, kl⟩
     obtain ⟨fa, fb, fo, fp⟩ := bk2 uw
     replace uw := Lib.hid uw
     obtain ⟨fc, fd, fe, fq, ft⟩ := bk3 uy
     replace uy := Lib.hid uy
     obtain ⟨gm, gn, gr, gt, dw, dx⟩ := bk4 zi
     replace zi := Lib.hid zi
     obtain ⟨ff, fh, fi, fj, fu, fv⟩ := bk4 gc
     replace gc := Lib.hid gc
     obtain ⟨fk, fl, fm, fn, fw, ba⟩ := bk4 kl
     replace kl := Lib.hid kl
     have hgo : gB ≠ w.heap.size ∧ gB ≠ w.heap.size + 1 ∧ gB ≠ w.heap.size + 1 + 1 := by omega
     clear TH TC
     go_wp2_with fail
     go_roundw
     case rel =>
      have q1 := uw.out
      have q2 := uy.out
      have q3 := zi.out
      have q4 := gc.out
      obtain ⟨g1, g2, g3⟩ := hgo
      exact ⟨k + 1, by go_num, by omega, hbN.out, hle2, ck, ck, ck, ck, ck⟩
     case measure => simp [intOf]; omega
    ·skip
     have hv3 : validB (bLo C st (k + 1)) (bHi C st (k + 1)) = false := by rw [valid_b hC HK.out]; simpa using hle2
     have TC : ∀ W, Calls Tryz.prog 71 #[.agg #[.int .i64 (mkN (bLo C st k) 4096), .int .i64 (mkD (bLo C st k) 4096), .int .i64 (mkN (bHi C st k) 4096), .int .i64 (mkD (bHi C st k) 4096)], .agg #[.int .i64 (mkN (htLo C (k + 1) (st (k + 1))) 4096), .int .i64 (mkD (htLo C (k + 1) (st (k + 1))) 4096), .int .i64 (mkN (htHi C (k + 1) (st (k + 1))) 4096), .int .i64 (mkD (htHi C (k + 1) (st (k + 1))) 4096)]] W fun e w' => e = .returned (.tuple #[.agg #[.int .i64 0, .int .i64 0, .int .i64 0, .int .i64 0], .bool false]) ∧ Below W.heap.size W w' := fun W => by
      have := TC0 W
      rw [opV_eq, Bool.and_self, ivV_no (by simp [hv3])] at this
      exact this
     have HBN := Lib.hid (BN.out (k + 1) (by rw [HN.out, ← hbN.out]; exact bN_ge _ _ _) (by omega))
     clear TC0 hv1 hv3
     go_upto_region 6 with (fail)
     refine chk (fun W => Below w.heap.size w W ∧ W.heap[w.heap.size]? = some (.cells #[.int .i64 A, .int .i64 B] 32 (0, 0)) ∧ W.heap[w.heap.size + 1]? = some (.cells #[.int .i64 x, .int .i64 y, .int .i64 e] 34 (0, 0)) ∧ W.heap[w.heap.size + 1 + 1]? = some (.cells #[.int .i64 0, .int .i64 0, .int .i64 0, .int .i64 0] 29 (0, 0)) ∧ W.heap[gB]? = some (.cells #[.int .i64 (mkN (bLo C st k) 4096), .int .i64 (mkD (bLo C st k) 4096), .int .i64 (mkN (bHi C st k) 4096), .int .i64 (mkD (bHi C st k) 4096)] 29 (0, 0))) (by refine ⟨?_, ?_, ?_, ?_, ?_⟩ <;> (exact ck)) ?_
     rintro w2 ⟨hB2, qe, qf, qg, qh⟩
     obtain ⟨zn, zo, va, pd⟩ := bk2 qe
     replace qe := Lib.hid qe
     obtain ⟨zp, zq, zr, vb, pe⟩ := bk3 qf
     replace qf := Lib.hid qf
     obtain ⟨zt, zu, zv, zw, vc, pf⟩ := bk4 qg
     replace qg := Lib.hid qg
     obtain ⟨zx, zy, ja, jb, vd, pg⟩ := bk4 qh
     replace qh := Lib.hid qh
     clear hC2 hP hO hX
     go_upto_region 8 with (first | (have _t := tok3; go_at_call 70; (with_reducible refine ((TH _)).mono ?_); rintro e w3 ⟨rfl, hb3⟩; clear tok3 _t; have hz3 := hb3.size; (try simp only [sA, sB, sC, sD] at hz3); (try (obtain ⟨kq, zf⟩ := cfAt hb3 (w.heap.size); have qw := kq 0; have qx := kq 1; clear kq; simp [go_sem, *] at qw qx zf)); (try have vf : w.heap.size < w3.heap.size := by omega); (try (obtain ⟨kq, zg⟩ := cfAt hb3 (w.heap.size + 1); have qy := kq 0; have qz := kq 1; have xc := kq 2; clear kq; simp [go_sem, *] at qy qz xc zg)); (try have vg : w.heap.size + 1 < w3.heap.size := by omega); (try (obtain ⟨kq, zh⟩ := cfAt hb3 (w.heap.size + 1 + 1); have xd := kq 0; have xe := kq 1; have xf := kq 2; have xg := kq 3; clear kq; simp [go_sem, *] at xd xe xf xg zh)); (try have vh : w.heap.size + 1 + 1 < w3.heap.size := by omega); (try (obtain ⟨kq, jp⟩ := cfAt hb3 (gB); have xq := kq 0; have xr := kq 1; have xt := kq 2; have xu := kq 3; clear kq; simp [go_sem, *] at xq xr xt xu jp)); (try have uo : gB < w3.heap.size := by omega); (try clear xh xi zj); (try clear ya); (try clear xj xk xl zk); (try clear yb); (try clear xm xn xo xp zm); (try clear yc); (try clear yh yi yj yk uq); (try clear ur); (try clear jq jr vi); (try clear vj); (try clear jt ju jv vk); (try clear vm); (try clear jw jx jy jz vn); (try clear vo); (try clear yl ym yn yo us); (try clear ut)))
     have qi := (hb3.block (w.heap.size) (blk_lt' qe.out)).trans qe.out
     clear zn zo va qe
     obtain ⟨jc, jd, vp, ph⟩ := bk2 qi
     replace qi := Lib.hid qi
     have qj := (hb3.block (w.heap.size + 1) (blk_lt' qf.out)).trans qf.out
     clear zp zq zr vb qf
     obtain ⟨je, jf, jg, vq, pi⟩ := bk3 qj
     replace qj := Lib.hid qj
     have qk := (hb3.block (w.heap.size + 1 + 1) (blk_lt' qg.out)).trans qg.out
     clear zt zu zv zw vc qg
     obtain ⟨jh, ji, jj, jk, vr, pj⟩ := bk4 qk
     replace qk := Lib.hid qk
     have ql := (hb3.block (gB) (blk_lt' qh.out)).trans qh.out
     clear zx zy ja jb vd qh
     obtain ⟨jl, jm, jn, jo, vt, pk⟩ := bk4 ql
     replace ql := Lib.hid ql
     have hB3 : Below w.heap.size w w3 := below_via hb3 (by assumption) (by go_size)
     replace qi := qi.out
     replace qj := qj.out
     replace qk := qk.out
     replace ql := ql.out
     refine chk (fun W => Below w.heap.size w W ∧ W.heap[w.heap.size]? = some (.cells #[.int .i64 A, .int .i64 B] 32 (0, 0)) ∧ W.heap[w.heap.size + 1]? = some (.cells #[.int .i64 x, .int .i64 y, .int .i64 e] 34 (0, 0)) ∧ W.heap[w.heap.size + 1 + 1]? = some (.cells #[.int .i64 0, .int .i64 0, .int .i64 0, .int .i64 0] 29 (0, 0)) ∧ W.heap[gB]? = some (.cells #[.int .i64 (mkN (bLo C st k) 4096), .int .i64 (mkD (bLo C st k) 4096), .int .i64 (mkN (bHi C st k) 4096), .int .i64 (mkD (bHi C st k) 4096)] 29 (0, 0)) ∧ W.heap[w3.heap.size]? = some (.cells #[.int .i64 (mkN (htLo C (k + 1) (st (k + 1))) 4096), .int .i64 (mkD (htLo C (k + 1) (st (k + 1))) 4096), .int .i64 (mkN (htHi C (k + 1) (st (k + 1))) 4096), .int .i64 (mkD (htHi C (k + 1) (st (k + 1))) 4096)] 29 (0, 0))) (by refine ⟨?_, ?_, ?_, ?_, ?_, ?_⟩ <;> (exact ck)) ?_
     clear jc jd vp qi
     clear je jf jg vq qj
     clear jh ji jj jk vr qk
     clear jl jm jn jo vt ql
     clear hB3
     rintro w4 ⟨hB4, qm, qn, qc, qd, qo⟩
     obtain ⟨vw, vy, ka, di⟩ := bk2 qm
     replace qm := Lib.hid qm
     obtain ⟨wc, wd, wg, kb, dj⟩ := bk3 qn
     replace qn := Lib.hid qn
     obtain ⟨xv, xw, xy, za, vu, gu⟩ := bk4 qc
     replace qc := Lib.hid qc
     obtain ⟨zb, zc, zd, ze, vv, gy⟩ := bk4 qd
     replace qd := Lib.hid qd
     obtain ⟨wi, wj, wk, wl, kc, dk⟩ := bk4 qo
     replace qo := Lib.hid qo
     go_upto_region 10 with (first | (have _t := tok5; go_at_call 71; (with_reducible refine ((TC _)).mono ?_); rintro e w5 ⟨rfl, hb5⟩; clear tok5 _t; have hz5 := hb5.size; (try simp only [sA, sB, sC, sD] at hz5); (try (obtain ⟨kq, ge⟩ := cfAt hb5 (w.heap.size); have yp := kq 0; have yq := kq 1; clear kq; simp [go_sem, *] at yp yq ge)); (try have pu : w.heap.size < w5.heap.size := by omega); (try (obtain ⟨kq, gh⟩ := cfAt hb5 (w.heap.size + 1); have yr := kq 0; have yt := kq 1; have yu := kq 2; clear kq; simp [go_sem, *] at yr yt yu gh)); (try have pv : w.heap.size + 1 < w5.heap.size := by omega); (try (obtain ⟨kq, gk⟩ := cfAt hb5 (w.heap.size + 1 + 1); have yv := kq 0; have yw := kq 1; have yx := kq 2; have yz := kq 3; clear kq; simp [go_sem, *] at yv yw yx yz gk)); (try have pw : w.heap.size + 1 + 1 < w5.heap.size := by omega); (try (obtain ⟨kq, kd⟩ := cfAt hb5 (gB); have wm := kq 0; have wn := kq 1; have wq := kq 2; have ws := kq 3; clear kq; simp [go_sem, *] at wm wn wq ws kd)); (try have dl : gB < w5.heap.size := by omega); (try (obtain ⟨kq, wt⟩ := cfAt hb5 (w3.heap.size); have yd := kq 0; have ye := kq 1; have yf := kq 2; have yg := kq 3; clear kq; simp [go_sem, *] at yd ye yf yg wt)); (try have pm : w3.heap.size < w5.heap.size := by omega); (try clear xh xi zj); (try clear ya); (try clear xj xk xl zk); (try clear yb); (try clear xm xn xo xp zm); (try clear yc); (try clear yh yi yj yk uq); (try clear ur); (try clear jq jr vi); (try clear vj); (try clear jt ju jv vk); (try clear vm); (try clear jw jx jy jz vn); (try clear vo); (try clear yl ym yn yo us); (try clear ut); (try clear qw qx zf); (try clear vf); (try clear qy qz xc zg); (try clear vg); (try clear xd xe xf xg zh); (try clear vh); (try clear xq xr xt xu jp); (try clear uo); (try clear kr ks px); (try clear dc); (try clear kt ku kw de); (try clear df); (try clear kx ky kz pc dg); (try clear dh); (try clear pn po pp pq dm); (try clear dn); (try clear km kn ko kp pr); (try clear pt)))
     have qq := (hb5.block (w.heap.size) (blk_lt' qm.out)).trans qm.out
     clear vw vy ka qm
     obtain ⟨wu, wv, ke, dq⟩ := bk2 qq
     replace qq := Lib.hid qq
     have qr := (hb5.block (w.heap.size + 1) (blk_lt' qn.out)).trans qn.out
     clear wc wd wg kb qn
     obtain ⟨ww, wy, wz, kf, dr⟩ := bk3 qr
     replace qr := Lib.hid qr
     have qt := (hb5.block (w.heap.size + 1 + 1) (blk_lt' qc.out)).trans qc.out
     clear xv xw xy za vu qc
     obtain ⟨uc, ud, ue, uf, kh, dt⟩ := bk4 qt
     replace qt := Lib.hid qt
     have qu := (hb5.block (gB) (blk_lt' qd.out)).trans qd.out
     clear zb zc zd ze vv qd
     obtain ⟨ug, uh, ui, uj, ki, du⟩ := bk4 qu
     replace qu := Lib.hid qu
     have qv := (hb5.block (w3.heap.size) (blk_lt' qo.out)).trans qo.out
     clear wi wj wk wl kc qo
     obtain ⟨uk, ul, um, un, kj, dv⟩ := bk4 qv
     replace qv := Lib.hid qv
     have hB5 : Below w.heap.size w w5 := below_via hb5 (by assumption) (by go_size)
     replace qq := qq.out
     replace qr := qr.out
     replace qt := qt.out
     replace qu := qu.out
     replace qv := qv.out
     refine chk (fun W => Below w.heap.size w W ∧ W.heap[w.heap.size + 1 + 1]? = some (.cells #[.int .i64 0, .int .i64 0, .int .i64 0, .int .i64 0] 29 (0, 0))) (by refine ⟨?_, ?_⟩ <;> (exact ck)) ?_
     clear wu wv ke qq
     clear ww wy wz kf qr
     clear uc ud ue uf kh qt
     clear ug uh ui uj ki qu
     clear uk ul um un kj qv
     clear hB5
     rintro w6 ⟨hB6, zi⟩
     obtain ⟨gm, gn, gr, gt, dw, dx⟩ := bk4 zi
     replace zi := Lib.hid zi
     clear TH TC
     iterate 24 (first | (with_reducible show bodyPost _ _ _ _ _ _) | (with_reducible refine wp_ret ?_) | go_values | go_skip | go_guarded | go_step | go_upon | go_back | skip)
     refine bodyPost_ret (v := .tuple #[.agg #[.int .i64 0, .int .i64 0, .int .i64 0, .int .i64 0], .int .i64 0, .bool false]) (by simp [results, Tryz.results48, go_sem, gm, gn, gr, gt]) rfl ⟨?_, ?_⟩
     ·rw [HBN.out.1, HBN.out.2.1, HBN.out.2.2.1, HBN.out.2.2.2.1, HBN.out.2.2.2.2.1, HBN.out.2.2.2.2.2]
     ·(exact ck)
  ·obtain rfl : k = 5 := by omega
   have HBY := Lib.hid (BY.out 5 (HN.out.trans (HNk.out.symm.trans (bN_end (by omega)))) hle)
   go_upto_region 13 with (fail)
   refine chk (fun W => Below w.heap.size w W ∧ W.heap[w.heap.size + 1 + 1]? = some (.cells #[.int .i64 0, .int .i64 0, .int .i64 0, .int .i64 0] 29 (0, 0)) ∧ W.heap[gB]? = some (.cells #[.int .i64 (mkN (bLo C st 5) 4096), .int .i64 (mkD (bLo C st 5) 4096), .int .i64 (mkN (bHi C st 5) 4096), .int .i64 (mkD (bHi C st 5) 4096)] 29 (0, 0))) (by refine ⟨?_, ?_, ?_⟩ <;> (exact ck)) ?_
   rintro w4 ⟨hB4, qc, qd⟩
   obtain ⟨xv, xw, xy, za, vu, gu⟩ := bk4 qc
   replace qc := Lib.hid qc
   obtain ⟨zb, zc, zd, ze, vv, gy⟩ := bk4 qd
   replace qd := Lib.hid qd
   clear hC2 hP hO hX
   iterate 24 (first | (with_reducible show bodyPost _ _ _ _ _ _) | (with_reducible refine wp_ret ?_) | go_values | go_skip | go_guarded | go_step | go_upon | go_back | skip)
   refine bodyPost_ret (v := .tuple #[.agg #[.int .i64 (mkN (bLo C st 5) 4096), .int .i64 (mkD (bLo C st 5) 4096), .int .i64 (mkN (bHi C st 5) 4096), .int .i64 (mkD (bHi C st 5) 4096)], .int .i64 5, .bool true]) (by simp [results, Tryz.results48, go_sem, xv, xw, xy, za, zb, zc, zd, ze]) rfl ⟨?_, ?_⟩
   ·rw [HBY.out.1, HBY.out.2.1, HBY.out.2.2.1, HBY.out.2.2.2.1, HBY.out.2.2.2.2.1, HBY.out.2.2.2.2.2]; rfl
   ·(exact ck)
end
end Go.Proofs.YtnkmgpmehkholaaGreat
