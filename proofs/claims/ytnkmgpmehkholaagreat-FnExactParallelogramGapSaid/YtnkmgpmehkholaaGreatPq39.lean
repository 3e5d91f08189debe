/- Lemmas and contracts of functions. No condition. -/
import Derived.Test.YtnkmgpmehkholaaGreatPq14
import Derived.Test.YtnkmgpmehkholaaGreatPq36
import Derived.Test.YtnkmgpmehkholaaGreatPq38
namespace Go.Proofs.YtnkmgpmehkholaaGreat
section
open Go.RowKit
set_option linter.unusedVariables false
set_option maxHeartbeats 1000000
set_option maxRecDepth 20000
set_option linter.unusedSimpArgs false
attribute [local go_sem] openAt openUpon
theorem xdOf_any (p q : Int) (w : World) (hp : -9223372036854775807 ≤ p ∧ p ≤ 9223372036854775807) (hq : -9223372036854775807 ≤ q ∧ q ≤ 9223372036854775807) :
  Calls Tryz.prog 95 #[.int .i64 p, .int .i64 q] w (NewR w p q) := by
 have tok1 := trivial
 have tok2 := trivial
 go_enter Tryz.func95, Tryz.ntmps95
 go_wp2_with (first | (have _t := tok1; go_at_call 102; (with_reducible refine ((bgOf_any p _ hp.1 hp.2)).mono ?_); rintro e w1 ⟨b1, a1, n1, c1, rfl, h1, f1, hb1⟩; clear tok1 _t; have hz1 := hb1.size; (try simp only [sA, sB, sC, sD] at hz1); (try (obtain ⟨kq, qg⟩ := cfAt hb1 (w.heap.size); have qc := kq 0; have qd := kq 1; have qe := kq 2; have qf := kq 3; clear kq; simp [go_sem, *] at qc qd qe qf qg)); (try have ql : w.heap.size < w1.heap.size := by omega)) | (have _t := tok2; go_at_call 102; (with_reducible refine ((bgOf_any q _ hq.1 hq.2)).mono ?_); rintro e w2 ⟨b2, a2, n2, c2, rfl, h2, f2, hb2⟩; clear tok2 _t; have hz2 := hb2.size; (try simp only [sA, sB, sC, sD] at hz2); (try (obtain ⟨kq, qm⟩ := cfAt hb2 (w.heap.size); have qh := kq 0; have qi := kq 1; have qj := kq 2; have qk := kq 3; clear kq; simp [go_sem, *] at qh qi qj qk qm)); (try have qn : w.heap.size < w2.heap.size := by omega); (try clear qc qd qe qf qg); (try clear ql)))
 refine bodyPost_ret (v := .agg #[.bool b1, .slice a1 n1 c1, .bool b2, .slice a2 n2 c2]) (by simp [results, Tryz.results95, go_sem, *]) rfl ⟨_, _, _, _, _, _, _, _, rfl, ?_, ?_, ?_⟩
 ·have H := (hb2.block (w.heap.size) (by omega)).trans ((hb1.block (w.heap.size) (by simp)).trans (heap_alloc_new w _))
  have h1' := h1.below hb2
  (exact ck)
 ·have H := (hb2.block (w.heap.size) (by omega)).trans ((hb1.block (w.heap.size) (by simp)).trans (heap_alloc_new w _))
  (exact ck)
 ·exact bel
theorem xdBits_any (b b2 : Bool) (a a2 : Option Addr) (n c n2 c2 : Nat) (x z : Int) (w : World) (hx : Wx w b a n c x) (hz : Wx w b2 a2 n2 c2 z) (lx : ln x ≤ 80) (lz : ln z ≤ 80) :
  Calls Tryz.prog 84 #[.agg #[.bool b, .slice a n c, .bool b2, .slice a2 n2 c2]] w fun e w' => e = .returned (.int .i64 (bitsZ x z)) ∧ Below w.heap.size w w' := by
 have T1 : ∀ W, Below w.heap.size w W → Calls Tryz.prog 100 #[.agg #[.bool b, .slice a n c]] W fun e w' => e = .returned (.int .i64 (bl (ab x))) ∧ Below W.heap.size W w' := fun W hW => bgBits_any b a n c x W (hx.below hW) (by have := hx.ln; omega)
 have T2 : ∀ W, Below w.heap.size w W → Calls Tryz.prog 100 #[.agg #[.bool b2, .slice a2 n2 c2]] W fun e w' => e = .returned (.int .i64 (bl (ab z))) ∧ Below W.heap.size W w' := fun W hW => bgBits_any b2 a2 n2 c2 z W (hz.below hW) (by have := hz.ln; omega)
 have HB := Lib.hid (show most (bl (ab x) : Nat) (bl (ab z) : Nat) = bitsZ x z from rfl)
 generalize bl (ab x) = u1 at *
 generalize bl (ab z) = u2 at *
 go_enter Tryz.func84, Tryz.ntmps84
 go_wp2_with fail
 refine wp_drawn' (n := 7) (by kernel_rfl) (by kernel_rfl) (by kernel_rfl) ?_
 apply Exists.intro
 refine ⟨?_, ?_⟩
 ·intro W hW
  try (have qc := fun x => xcell hW (w.heap.size) (by go_size) x 0; simp [go_sem, *] at qc)
  try (have qd := fun x => xcell hW (w.heap.size) (by go_size) x 1; simp [go_sem, *] at qd)
  try (have qe := fun x => xcell hW (w.heap.size) (by go_size) x 2; simp [go_sem, *] at qe)
  try (have qf := fun x => xcell hW (w.heap.size) (by go_size) x 3; simp [go_sem, *] at qf)
  simp only [List.take_succ_cons, List.take_zero]
  repeat (go_big_quiet_step ((first | (go_at_call 100; (with_reducible exact draw_of _ ((T1 _ (below_via (Over.lies _) (below_via hW bel (by go_size)) (by (have := hW.size; (try simp only [sA, sB, sC, sD] at this); omega))))))) | (go_at_call 100; (with_reducible exact draw_of _ ((T2 _ (below_via (Over.lies _) (below_via hW bel (by go_size)) (by (have := hW.size; (try simp only [sA, sB, sC, sD] at this); omega))))))) | (go_at_call 69; exact draw_of_same _ (l1Most_any _ _ _)))))
  exact wpQuiet_nil rfl
 intro w1 hb1
 simp only [List.drop_succ_cons, List.drop_zero, Act.put, List.setIfInBounds_toArray, List.set_cons_succ, List.set_cons_zero]
 have hz1 := hb1.size
 (try simp only [sA, sB, sC, sD] at hz1)
 (try (obtain ⟨kq, qk⟩ := cfAt hb1 (w.heap.size); have qg := kq 0; have qh := kq 1; have qi := kq 2; have qj := kq 3; clear kq; simp [go_sem, *] at qg qh qi qj qk))
 (try have ql : w.heap.size < w1.heap.size := by omega)
 go_wp2_with fail
 go_ret
 refine ⟨ret_int HB.out, ?_⟩
 exact bel
theorem xdDivisor_any (A B t s : Int) (b b2 : Bool) (a a2 : Option Addr) (n c n2 c2 : Nat) (w : World) (hA : -1000 ≤ A ∧ A ≤ 1000) (hBB : -10000 ≤ B ∧ B ≤ 10000) (hcv : coV A B ≠ 0) (ht : Wx w b a n c t) (hs : Wx w b2 a2 n2 c2 s) (lt' : ln t ≤ 8000) (ls' : ln s ≤ 8000) :
  Calls Tryz.prog 115 #[.agg #[.int .i64 A, .int .i64 B], .agg #[.bool b, .slice a n c], .agg #[.bool b2, .slice a2 n2 c2]] w fun e w' => e = .returned (.int .i64 (dvZ (4 * absI (coV A B)) t s)) ∧ Below w.heap.size w w' := by
 have hcb := coV_bd hA hBB
 have hab : 1 ≤ absI (coV A B) ∧ absI (coV A B) ≤ 6700000000 := by unfold absI; omega
 have T1 : ∀ W, Below w.heap.size w W → Calls Tryz.prog 116 #[.agg #[.bool b, .slice a n c], .int .i64 (4 * absI (coV A B))] W (NewQ W t (4 * absI (coV A B))) := fun W hW => bgOver_any b a n c t _ W (ht.below hW) (by have := ht.ln; omega) (by omega) (by omega)
 have T2 : ∀ W, Below w.heap.size w W → Calls Tryz.prog 116 #[.agg #[.bool b2, .slice a2 n2 c2], .int .i64 (4 * absI (coV A B))] W (NewQ W s (4 * absI (coV A B))) := fun W hW => bgOver_any b2 a2 n2 c2 s _ W (hs.below hW) (by have := hs.ln; omega) (by omega) (by omega)
 have DV := Lib.hid (dv_spec (n := 4 * absI (coV A B)) (t := t) (b := s) (by omega))
 have m1 := Int.emod_nonneg t (b := 4 * absI (coV A B)) (by omega)
 have m2 := Int.emod_lt_of_pos t (b := 4 * absI (coV A B)) (by omega)
 have m3 := Int.emod_nonneg s (b := 4 * absI (coV A B)) (by omega)
 have m4 := Int.emod_lt_of_pos s (b := 4 * absI (coV A B)) (by omega)
 have g1 := gcdI_nonneg (4 * absI (coV A B)) (t % (4 * absI (coV A B)))
 have g2 : gcdI (4 * absI (coV A B)) (t % (4 * absI (coV A B))) ≤ 4 * absI (coV A B) := by
  rw [gcdI_emod _ _ (by omega)]
  exact Int.le_of_dvd (by omega) (by unfold gcdI; exact Int.gcd_dvd_left ..)
 clear hcv
 have tok1 := trivial
 have tok2 := trivial
 have tok3 := trivial
 go_enter Tryz.func115, Tryz.ntmps115
 go_wp2_with (first | (have _t := tok1; go_at_call 80; refine (ecDisc_any A B _ hA hBB).mono ?_; rintro e w1 ⟨rfl, hb1⟩; clear tok1 _t; have hz1 := hb1.size; (try simp only [sA, sB, sC, sD] at hz1); (try (obtain ⟨kq, qi⟩ := cfAt hb1 (w.heap.size); have qc := kq 0; have qd := kq 1; clear kq; simp [go_sem, *] at qc qd qi)); (try have qt : w.heap.size < w1.heap.size := by omega); (try (obtain ⟨kq, qj⟩ := cfAt hb1 (w.heap.size + 1); have qe := kq 0; have qf := kq 1; clear kq; simp [go_sem, *] at qe qf qj)); (try have qu : w.heap.size + 1 < w1.heap.size := by omega); (try (obtain ⟨kq, qk⟩ := cfAt hb1 (w.heap.size + 1 + 1); have qg := kq 0; have qh := kq 1; clear kq; simp [go_sem, *] at qg qh qk)); (try have qv : w.heap.size + 1 + 1 < w1.heap.size := by omega)) | (go_at_call 44; refine (l1Abs_any _ _ (by omega) (by omega)).mono ?_; rintro e w' ⟨rfl, rfl⟩) | (have _t := tok2; go_at_call 116; (with_reducible refine ((T1 _ bel)).mono ?_); rintro e w2 ⟨b3, a3, n3, c3, rfl, h3, f3, hb2⟩; clear tok2 _t; have hz2 := hb2.size; (try simp only [sA, sB, sC, sD] at hz2); (try (obtain ⟨kq, qw⟩ := cfAt hb2 (w.heap.size); have ql := kq 0; have qm := kq 1; clear kq; simp [go_sem, *] at ql qm qw)); (try have xh : w.heap.size < w2.heap.size := by omega); (try (obtain ⟨kq, qx⟩ := cfAt hb2 (w.heap.size + 1); have qn := kq 0; have qo := kq 1; clear kq; simp [go_sem, *] at qn qo qx)); (try have xi : w.heap.size + 1 < w2.heap.size := by omega); (try (obtain ⟨kq, qy⟩ := cfAt hb2 (w.heap.size + 1 + 1); have qq := kq 0; have qr := kq 1; clear kq; simp [go_sem, *] at qq qr qy)); (try have xj : w.heap.size + 1 + 1 < w2.heap.size := by omega); (try clear qc qd qi); (try clear qt); (try clear qe qf qj); (try clear qu); (try clear qg qh qk); (try clear qv)) | (have _t := tok3; go_at_call 116; (with_reducible refine ((T2 _ bel)).mono ?_); rintro e w3 ⟨b4, a4, n4, c4, rfl, h4, f4, hb3⟩; clear tok3 _t; have hz3 := hb3.size; (try simp only [sA, sB, sC, sD] at hz3); (try (obtain ⟨kq, xk⟩ := cfAt hb3 (w.heap.size); have qz := kq 0; have xc := kq 1; clear kq; simp [go_sem, *] at qz xc xk)); (try have xn : w.heap.size < w3.heap.size := by omega); (try (obtain ⟨kq, xl⟩ := cfAt hb3 (w.heap.size + 1); have xd := kq 0; have xe := kq 1; clear kq; simp [go_sem, *] at xd xe xl)); (try have xo : w.heap.size + 1 < w3.heap.size := by omega); (try (obtain ⟨kq, xm⟩ := cfAt hb3 (w.heap.size + 1 + 1); have xf := kq 0; have xg := kq 1; clear kq; simp [go_sem, *] at xf xg xm)); (try have xp : w.heap.size + 1 + 1 < w3.heap.size := by omega); (try clear qc qd qi); (try clear qt); (try clear qe qf qj); (try clear qu); (try clear qg qh qk); (try clear qv); (try clear ql qm qw); (try clear xh); (try clear qn qo qx); (try clear xi); (try clear qq qr qy); (try clear xj)) | (go_at_call 67; refine (common_any _ _ _ (by omega) (by omega) (by omega) (by omega)).mono ?_; rintro e w' ⟨rfl, nq, rfl⟩))
 go_ret
 refine ⟨ret_int DV.out, ?_⟩
 exact bel
end
section
open Go.RowKit
set_option linter.unusedVariables false
set_option maxHeartbeats 1000000
set_option maxRecDepth 20000
set_option linter.unusedSimpArgs false
attribute [local go_sem] openAt openUpon
/-- a contract whose values are a ratio and a flag -/
def NewRR (w : World) (x z : Int) (ok : Bool) (e : Ending) (w' : World) : Prop := ∃ b a n c b2 a2 n2 c2, e = .returned (.tuple #[.agg #[.bool b, .slice a n c, .bool b2, .slice a2 n2 c2], .bool ok]) ∧ Wx w' b a n c x ∧ Wx w' b2 a2 n2 c2 z ∧ Fr w.heap.size a ∧ Fr w.heap.size a2 ∧ Below w.heap.size w w'
/-- a contract whose values are a whole number and a rest -/
def NewQp (w : World) (p : Int) (e : Ending) (w' : World) : Prop := ∃ b a n c r, e = .returned (.tuple #[.agg #[.bool b, .slice a n c], .int .i64 r]) ∧ Wx w' b a n c p ∧ Fr w.heap.size a ∧ Below w.heap.size w w'
theorem NewQ.qp {w : World} {z d p : Int} {e : Ending} {w' : World} (h : NewQ w z d e w') (hp : z / d = p) : NewQp w p e w' := by
 obtain ⟨b, a, n, c, h1, h2, h3, h4⟩ := h
 exact ⟨b, a, n, c, _, h1, hp ▸ h2, h3, h4⟩
theorem fr_none (B : Nat) : Fr B none := fun A e => by cases e
theorem Wx.zero' (W : World) : Wx W false none 0 0 0 := ⟨by decide, by rw [show limbs (ab 0) = [] by decide]; exact Sx.none W⟩
theorem top_ln {A B x z : Int} (hA : -1000 ≤ A ∧ A ≤ 1000) (hBB : -10000 ≤ B ∧ B ≤ 10000) (lx' : ln x ≤ 80) (lz' : ln z ≤ 80) : ln (topZ A B x z) ≤ 8000 := by
 unfold topZ
 have a1 := ln_small (a := 2 * A) (by omega) (by omega)
 have a2 := ln_small (a := 8 * B) (by omega) (by omega)
 have hAA := mul_bd (a := A) (b := A) (A := 1000) (B := 1000) (by omega) (by omega)
 have a3 := ln_small (a := A * A) (by omega) (by omega)
 have xx := ln_mul_le lx' lx'
 have zz := ln_mul_le lz' lz'
 have xz := ln_mul_le lx' lz'
 have b1 : ln (x * x * (x * x)) ≤ 330 := Nat.le_trans (ln_mul_le xx xx) (by omega)
 have b2 : ln (x * x * (z * z) * (2 * A)) ≤ 330 := Nat.le_trans (ln_mul_le (ln_mul_le xx zz) a1) (by omega)
 have b3 : ln (x * z * (z * z) * (8 * B)) ≤ 331 := Nat.le_trans (ln_mul_le (ln_mul_le xz zz) a2) (by omega)
 have b4 : ln (z * z * (z * z) * (A * A)) ≤ 332 := Nat.le_trans (ln_mul_le (ln_mul_le zz zz) a3) (by omega)
 exact Nat.le_trans (ln_add_le (ln_sub_le (ln_sub_le b1 b2) b3) b4) (by omega)
theorem bot_ln {A B x z : Int} (hA : -1000 ≤ A ∧ A ≤ 1000) (hBB : -10000 ≤ B ∧ B ≤ 10000) (lx' : ln x ≤ 80) (lz' : ln z ≤ 80) : ln (botZ A B x z) ≤ 8000 := by
 unfold botZ
 have a1 := ln_small (a := A) (by omega) (by omega)
 have a2 := ln_small (a := B) (by omega) (by omega)
 have a4 := ln_small (a := 4) (by omega) (by omega)
 have zz := ln_mul_le lz' lz'
 have b1 : ln (x * x * x) ≤ 330 := Nat.le_trans (ln_mul_le (ln_mul_le lx' lx') lx') (by omega)
 have b2 : ln (x * (z * z) * A) ≤ 330 := Nat.le_trans (ln_mul_le (ln_mul_le lx' zz) a1) (by omega)
 have b3 : ln (z * (z * z) * B) ≤ 331 := Nat.le_trans (ln_mul_le (ln_mul_le lz' zz) a2) (by omega)
 exact Nat.le_trans (ln_mul_le (ln_mul_le lz' (ln_add_le (ln_add_le b1 b2) b3)) a4) (by omega)
theorem xdDouble_any (A B x z : Int) (b b2 : Bool) (a a2 : Option Addr) (n c n2 c2 : Nat) (w : World) (hA : -1000 ≤ A ∧ A ≤ 1000) (hBB : -10000 ≤ B ∧ B ≤ 10000) (hcv : coV A B ≠ 0) (hx : Wx w b a n c x) (hz : Wx w b2 a2 n2 c2 z) (lx : ln x ≤ 80) (lz : ln z ≤ 80) :
  Calls Tryz.prog 97 #[.agg #[.int .i64 A, .int .i64 B], .agg #[.bool b, .slice a n c, .bool b2, .slice a2 n2 c2]] w (NewRR w (dbl (4 * absI (coV A B)) A B x z).1 (dbl (4 * absI (coV A B)) A B x z).2.1 (dbl (4 * absI (coV A B)) A B x z).2.2) := by
 obtain ⟨t, ht0⟩ : ∃ v, topZ A B x z = v := ⟨_, rfl⟩
 obtain ⟨s, hs0⟩ : ∃ v, botZ A B x z = v := ⟨_, rfl⟩
 have TT : ∀ W, Wx W b a n c x → Wx W b2 a2 n2 c2 z → Calls Tryz.prog 113 #[.agg #[.int .i64 A, .int .i64 B], .agg #[.bool b, .slice a n c, .bool b2, .slice a2 n2 c2]] W (NewW W t) := fun W h1 h2 => ht0 ▸ xdTop_any A B x z b b2 a a2 n c n2 c2 W hA hBB h1 h2 lx lz
 have TS : ∀ W, Wx W b a n c x → Wx W b2 a2 n2 c2 z → Calls Tryz.prog 96 #[.agg #[.int .i64 A, .int .i64 B], .agg #[.bool b, .slice a n c, .bool b2, .slice a2 n2 c2]] W (NewW W s) := fun W h1 h2 => hs0 ▸ xdBottom_any A B x z b b2 a a2 n c n2 c2 W hA hBB h1 h2 lx lz
 have hlt : ln t ≤ 8000 := by rw [← ht0]; exact top_ln hA hBB lx lz
 have hls : ln s ≤ 8000 := by rw [← hs0]; exact bot_ln hA hBB lx lz
 have hN : 1 ≤ 4 * absI (coV A B) := by unfold absI; omega
 have hD : (s = 0 ∧ dbl (4 * absI (coV A B)) A B x z = (0, 0, false)) ∨ (s ≠ 0 ∧ (raB (dbN (4 * absI (coV A B)) t s) (dbD (4 * absI (coV A B)) t s) = true ∧ dbl (4 * absI (coV A B)) A B x z = (dbN (4 * absI (coV A B)) t s, dbD (4 * absI (coV A B)) t s, true) ∨ raB (dbN (4 * absI (coV A B)) t s) (dbD (4 * absI (coV A B)) t s) = false ∧ dbl (4 * absI (coV A B)) A B x z = (0, 0, false))) := by
  unfold dbl
  rw [ht0, hs0]
  by_cases h : s = 0
  ·left; exact ⟨h, by rw [if_pos h]⟩
  ·right
   refine ⟨h, ?_⟩
   rw [if_neg h]
   cases hr : raB (dbN (4 * absI (coV A B)) t s) (dbD (4 * absI (coV A B)) t s)
   ·right; exact ⟨rfl, by simp⟩
   ·left; exact ⟨rfl, by simp⟩
 clear ht0 hs0
 rcases hD with ⟨h0, hd⟩ | ⟨h0, hd⟩
 ·rw [hd]
  have hs00 := ln_zero.2 h0
  clear hd
  have H0 := Lib.hid h0
  clear h0
  have tok1 := trivial
  have tok2 := trivial
  have tok3 := trivial
  have tok4 := trivial
  have tok5 := trivial
  have tok6 := trivial
  have tok7 := trivial
  have tok8 := trivial
  have tok9 := trivial
  go_enter Tryz.func97, Tryz.ntmps97
  go_wp2_with fail
  refine chk (fun W => Below w.heap.size w W ∧ W.heap[w.heap.size]? = some (.cells #[.int .i64 A, .int .i64 B] 32 (0, 0)) ∧ W.heap[w.heap.size + 1]? = some (.cells #[.bool b, .slice a n c, .bool b2, .slice a2 n2 c2] 107 (0, 0)) ∧ W.heap[w.heap.size + 1 + 1]? = some (.cells #[.bool false, .slice none 0 0, .bool false, .slice none 0 0] 107 (0, 0)) ∧ Wx W b a n c x ∧ Wx W b2 a2 n2 c2 z) (by refine ⟨?_, ?_, ?_, ?_, ?_, ?_⟩ <;> (exact ck)) ?_
  try clear hx
  try clear hz
  rintro w1 ⟨hB1, zb, zc, zd, hx', hz'⟩
  obtain ⟨jw, jx, Jl, mc⟩ := bk2 zb
  replace zb := Lib.hid zb
  obtain ⟨jy, jz, ya, yb, Jm, me⟩ := bk4 zc
  replace zc := Lib.hid zc
  obtain ⟨my, mz, Qa, Qb, Jn, mf⟩ := bk4 zd
  replace zd := Lib.hid zd
  have hx := hx'
  clear hx'
  have hz := hz'
  clear hz'
  refine wp_open (n := 8) (by kernel_rfl) (by kernel_rfl) (by kernel_rfl) (by kernel_rfl) ?_
  simp only [List.take_succ_cons, List.take_zero]
  apply wpS_quiet
  ·intro γ W hW hp
   have hs := hW.size
   (try simp only [sA, sB, sC, sD] at hs)
   have cq := fun x => (xcA hW (w.heap.size) 0 (by first | omega | go_size) x).trans jw
   have cr := fun x => (xcA hW (w.heap.size) 1 (by first | omega | go_size) x).trans jx
   clear hW hp
   refine ⟨rfl, ?_⟩
   go_big_quiet_op
   first | exact rfl
  ·exact locS_const _
  try simp only [Act.put, List.setIfInBounds_toArray, List.set_cons_succ, List.set_cons_zero, Nat.reduceAdd]
  apply wpS_quiet
  ·intro γ W hW hp
   have hs := hW.size
   (try simp only [sA, sB, sC, sD] at hs)
   have cq := fun x => (xcA hW (w.heap.size + 1) 0 (by first | omega | go_size) x).trans jy
   have cr := fun x => (xcA hW (w.heap.size + 1) 1 (by first | omega | go_size) x).trans jz
   have Yr := fun x => (xcA hW (w.heap.size + 1) 2 (by first | omega | go_size) x).trans ya
   have Ys := fun x => (xcA hW (w.heap.size + 1) 3 (by first | omega | go_size) x).trans yb
   clear hW hp
   refine ⟨rfl, ?_⟩
   go_big_quiet_op
   first | exact rfl
  ·exact locS_const _
  try simp only [Act.put, List.setIfInBounds_toArray, List.set_cons_succ, List.set_cons_zero, Nat.reduceAdd]
  apply wpS_open (openW w.heap.size t)
  ·intro γ W hW hp
   refine ⟨rfl, ?_⟩
   go_simp
   refine plainNew rfl ?_
   exact open_W (TT W (hx.below hW) (hz.below hW)) (by (have := hW.size; (try simp only [sA, sB, sC, sD] at this); omega))
  try simp only [Act.put, List.setIfInBounds_toArray, List.set_cons_succ, List.set_cons_zero, Nat.reduceAdd]
  apply wpS_quiet
  ·intro γ W hW hp
   have hs := hW.size
   (try simp only [sA, sB, sC, sD] at hs)
   have cq := fun x => (xcA hW (w.heap.size) 0 (by first | omega | go_size) x).trans jw
   have cr := fun x => (xcA hW (w.heap.size) 1 (by first | omega | go_size) x).trans jx
   clear hW hp
   refine ⟨rfl, ?_⟩
   go_big_quiet_op
   first | exact rfl
  ·exact locS_const _
  try simp only [Act.put, List.setIfInBounds_toArray, List.set_cons_succ, List.set_cons_zero, Nat.reduceAdd]
  apply wpS_quiet
  ·intro γ W hW hp
   have hs := hW.size
   (try simp only [sA, sB, sC, sD] at hs)
   have cq := fun x => (xcA hW (w.heap.size + 1) 0 (by first | omega | go_size) x).trans jy
   have cr := fun x => (xcA hW (w.heap.size + 1) 1 (by first | omega | go_size) x).trans jz
   have Yr := fun x => (xcA hW (w.heap.size + 1) 2 (by first | omega | go_size) x).trans ya
   have Ys := fun x => (xcA hW (w.heap.size + 1) 3 (by first | omega | go_size) x).trans yb
   clear hW hp
   refine ⟨rfl, ?_⟩
   go_big_quiet_op
   first | exact rfl
  ·exact locS_const _
  try simp only [Act.put, List.setIfInBounds_toArray, List.set_cons_succ, List.set_cons_zero, Nat.reduceAdd]
  apply wpS_open (openW w.heap.size s)
  ·intro γ W hW hp
   refine ⟨rfl, ?_⟩
   go_simp
   refine plainNew rfl ?_
   exact open_W (TS W (hx.below hW) (hz.below hW)) (by (have := hW.size; (try simp only [sA, sB, sC, sD] at this); omega))
  try simp only [Act.put, List.setIfInBounds_toArray, List.set_cons_succ, List.set_cons_zero, Nat.reduceAdd]
  apply wpS_open (newBox _ _ _)
  ·intro γ W hW hp
   refine ⟨rfl, ?_⟩
   go_simp
   exact ⟨⟨⟨_, rfl, hW.size, heap_alloc_new _ _⟩, fun _ => ⟨_, rfl, Nat.le_refl _, by simp⟩⟩, (Below.refl _ _).alloc (Nat.le_refl _) _⟩
  try simp only [Act.put, List.setIfInBounds_toArray, List.set_cons_succ, List.set_cons_zero, Nat.reduceAdd]
  apply wpS_open (newBox _ _ _)
  ·intro γ W hW hp
   refine ⟨rfl, ?_⟩
   go_simp
   exact ⟨⟨⟨_, rfl, hW.size, heap_alloc_new _ _⟩, fun _ => ⟨_, rfl, Nat.le_refl _, by simp⟩⟩, (Below.refl _ _).alloc (Nat.le_refl _) _⟩
  try simp only [Act.put, List.setIfInBounds_toArray, List.set_cons_succ, List.set_cons_zero, Nat.reduceAdd]
  apply wpS_end
  intro γ w2 hb2 hG2 hA2
  have mg := hG2 _ (mL _ (mL _ (mL _ (mR _))))
  dsimp only at mg
  have mh := hG2 _ (mL _ (mL _ (mR _)))
  dsimp only at mh
  obtain ⟨qf, kr, vg, vh⟩ := hG2 _ (mL _ (mR _))
  dsimp only at kr vg vh
  obtain ⟨qc, ks, vi, vj⟩ := hG2 _ (mR _)
  dsimp only at ks vi vj
  have Jo := fun o => blk_cell vh o
  have Jp := fun o => blk_frozen vh o
  have Gk := blk_lt' vh
  have Jq := fun o => blk_cell vj o
  have Jr := fun o => blk_frozen vj o
  have Gl := blk_lt' vj
  have Yt : qf ≠ qc := fun ee => hA2 _ (mL _ (mR _)) _ (mR _) rfl rfl (show (6 : Nat) ≠ 7 by decide) (by dsimp only; rw [kr, ks, ee])
  have Vv : w.heap.size ≠ qf := Nat.ne_of_lt (Nat.lt_of_lt_of_le mc vg)
  have Vw : w.heap.size + 1 ≠ qf := Nat.ne_of_lt (Nat.lt_of_lt_of_le me vg)
  have Vx : w.heap.size + 1 + 1 ≠ qf := Nat.ne_of_lt (Nat.lt_of_lt_of_le mf vg)
  have Gm : w.heap.size ≤ qf := Nat.le_trans hB1.size vg
  have Vy : w.heap.size ≠ qc := Nat.ne_of_lt (Nat.lt_of_lt_of_le mc vi)
  have Vz : w.heap.size + 1 ≠ qc := Nat.ne_of_lt (Nat.lt_of_lt_of_le me vi)
  have Wa : w.heap.size + 1 + 1 ≠ qc := Nat.ne_of_lt (Nat.lt_of_lt_of_le mf vi)
  have Gn : w.heap.size ≤ qc := Nat.le_trans hB1.size vi
  clear hG2 hA2
  try simp only [kr, ks]
  clear kr
  clear ks
  simp only [List.drop_succ_cons, List.drop_zero]
  have hz2 := hb2.size
  (try simp only [sA, sB, sC, sD] at hz2)
  obtain ⟨b3, a3, n3, c3, e3, ht, -⟩ := mg
  obtain ⟨b4, a4, n4, c4, e4, hs, -⟩ := mh
  simp only [e3, e4]
  clear e3 e4
  have ze := (hb2.block (w.heap.size) (blk_lt' zb.out)).trans zb.out
  clear jw jx Jl zb
  obtain ⟨Qc, Qd, Js, Gp⟩ := bk2 ze
  replace ze := Lib.hid ze
  have zf := (hb2.block (w.heap.size + 1) (blk_lt' zc.out)).trans zc.out
  clear jy jz ya yb Jm zc
  obtain ⟨Qe, Qf, Qg, Qh, Jt, Gq⟩ := bk4 zf
  replace zf := Lib.hid zf
  have zg := (hb2.block (w.heap.size + 1 + 1) (blk_lt' zd.out)).trans zd.out
  clear my mz Qa Qb Jn zd
  obtain ⟨Qi, Qj, Qk, Ql, Ju, Gr⟩ := bk4 zg
  replace zg := Lib.hid zg
  replace hx := hx.below hb2
  replace hz := hz.below hb2
  have hB2 : Below w.heap.size w w2 := below_via hb2 (by assumption) (by go_size)
  go_upto_region 2 with (fail)
  replace ze := ze.out
  replace zf := zf.out
  replace zg := zg.out
  refine chk (fun W => Below w.heap.size w W ∧ W.heap[w.heap.size]? = some (.cells #[.int .i64 A, .int .i64 B] 32 (0, 0)) ∧ W.heap[w.heap.size + 1 + 1]? = some (.cells #[.bool false, .slice none 0 0, .bool false, .slice none 0 0] 107 (0, 0)) ∧ W.heap[qf]? = some (.cells #[.bool b3, .slice a3 n3 c3] 80 (0, 0)) ∧ W.heap[qc]? = some (.cells #[.bool b4, .slice a4 n4 c4] 80 (0, 0)) ∧ Wx W b3 a3 n3 c3 t ∧ Wx W b4 a4 n4 c4 s) (by refine ⟨?_, ?_, ?_, ?_, ?_, ?_, ?_⟩ <;> (exact ck)) ?_
  try clear ht
  try clear hs
  clear Qc Qd Js ze
  clear Qe Qf Qg Qh Jt zf
  clear Qi Qj Qk Ql Ju zg
  clear hB2
  try clear Jo
  try clear Jp
  try clear vh
  try clear Jq
  try clear Jr
  try clear vj
  rintro w3 ⟨hB3, zh, qy, zi, zj, ht', hs'⟩
  obtain ⟨Qm, Qn, Jv, Gs⟩ := bk2 zh
  replace zh := Lib.hid zh
  obtain ⟨bd, bf, bg, bh, Jw, Gt⟩ := bk4 qy
  replace qy := Lib.hid qy
  obtain ⟨Qo, Qp, Jx, Gu⟩ := bk2 zi
  replace zi := Lib.hid zi
  obtain ⟨Qq, Qr, Jy, Gv⟩ := bk2 zj
  replace zj := Lib.hid zj
  have ht := ht'
  clear ht'
  have hs := hs'
  clear hs'
  obtain rfl : n4 = 0 := by rw [hs.ln]; exact hs00
  clear hA hBB hcv hx hz lx lz TT TS hlt hls hN ht hs
  go_wp2_with fail
  refine bodyPost_ret (v := .tuple #[.agg #[.bool false, .slice none 0 0, .bool false, .slice none 0 0], .bool false]) (by simp [results, Tryz.results97, go_sem, bd, bf, bg, bh]) rfl ⟨_, _, _, _, _, _, _, _, rfl, Wx.zero' _, Wx.zero' _, fr_none _, fr_none _, ?_⟩
  have HO := qy.out
  (exact ck)
 ·obtain ⟨t1, ht1⟩ : ∃ v, sgZ s t = v := ⟨_, rfl⟩
  obtain ⟨s1, hs1⟩ : ∃ v, sgZ s s = v := ⟨_, rfl⟩
  have hs00 : ln s ≠ 0 := fun e => h0 (ln_zero.1 e)
  have hsp := db_spec (4 * absI (coV A B)) t s
  rw [ht1, hs1] at hsp
  have lt1 : ln t1 ≤ 8000 := by rw [← ht1]; unfold sgZ; split <;> (try rw [ln_neg]) <;> omega
  have ls1 : ln s1 ≤ 8000 := by rw [← hs1]; unfold sgZ; split <;> (try rw [ln_neg]) <;> omega
  have hd1 := dv_pos (n := 4 * absI (coV A B)) (t := t1) (b := s1) (by omega)
  have hd2 := dv_le (n := 4 * absI (coV A B)) (t := t1) (b := s1) (by omega)
  have hcb := coV_bd hA hBB
  have hab : absI (coV A B) ≤ 6700000000 := by unfold absI; omega
  have TD0 : ∀ W (b : Bool) (a : Option Addr) (n c : Nat) (b2 : Bool) (a2 : Option Addr) (n2 c2 : Nat), Wx W b a n c t1 → Wx W b2 a2 n2 c2 s1 → Calls Tryz.prog 115 #[.agg #[.int .i64 A, .int .i64 B], .agg #[.bool b, .slice a n c], .agg #[.bool b2, .slice a2 n2 c2]] W fun e w' => e = .returned (.int .i64 (dvZ (4 * absI (coV A B)) t1 s1)) ∧ Below W.heap.size W w' := fun W b a n c b2 a2 n2 c2 h1 h2 => xdDivisor_any A B t1 s1 b b2 a a2 n c n2 c2 W hA hBB hcv h1 h2 lt1 ls1
  obtain ⟨p, hp⟩ : ∃ v, dbN (4 * absI (coV A B)) t s = v := ⟨_, rfl⟩
  obtain ⟨q, hq⟩ : ∃ v, dbD (4 * absI (coV A B)) t s = v := ⟨_, rfl⟩
  rw [hp, hq] at hsp hd
  generalize dbl (4 * absI (coV A B)) A B x z = DB at *
  generalize dvZ (4 * absI (coV A B)) t1 s1 = d at *
  have TO1 : ∀ W (b : Bool) (a : Option Addr) (n c : Nat), Wx W b a n c t1 → Calls Tryz.prog 116 #[.agg #[.bool b, .slice a n c], .int .i64 d] W (NewQp W p) := fun W b a n c h1 => (bgOver_any b a n c t1 d W h1 (by have := h1.ln; omega) (by omega) (by omega)).mono fun e w' h => h.qp hsp.1
  have TO2 : ∀ W (b : Bool) (a : Option Addr) (n c : Nat), Wx W b a n c s1 → Calls Tryz.prog 116 #[.agg #[.bool b, .slice a n c], .int .i64 d] W (NewQp W q) := fun W b a n c h1 => (bgOver_any b a n c s1 d W h1 (by have := h1.ln; omega) (by omega) (by omega)).mono fun e w' h => h.qp hsp.2
  have TG0 : ∀ W (b : Bool) (a : Option Addr) (n c : Nat) (b2 : Bool) (a2 : Option Addr) (n2 c2 : Nat), Wx W b a n c p → Wx W b2 a2 n2 c2 q → Calls Tryz.prog 117 #[.agg #[.bool b, .slice a n c, .bool b2, .slice a2 n2 c2]] W fun e w' => e = .returned (.bool (raB p q)) ∧ Below W.heap.size W w' := fun W b a n c b2 a2 n2 c2 h1 h2 => xdGood_any b b2 a a2 n c n2 c2 p q W h1 h2
  have hD2 : ∃ R, raB p q = R ∧ (R = true ∧ DB = (p, q, true) ∨ R = false ∧ DB = (0, 0, false)) := ⟨_, rfl, hd⟩
  obtain ⟨R, hR, hR2⟩ := hD2
  have TD := TD0
  have TG := TG0
  rw [hR] at TG
  clear hd hsp hd1 hd2 hcb hab hp hq TD0 TG0 hR hcv
  have HT1 := Lib.hid ht1
  have HS1 := Lib.hid hs1
  have H0 := Lib.hid h0
  clear ht1 hs1 h0
  have HRR := Lib.hid hR2
  clear hR2
  have tok1 := trivial
  have tok2 := trivial
  have tok3 := trivial
  have tok4 := trivial
  have tok5 := trivial
  have tok6 := trivial
  have tok7 := trivial
  have tok8 := trivial
  have tok9 := trivial
  have tok10 := trivial
  have tok11 := trivial
  have tok12 := trivial
  have tok13 := trivial
  have tok14 := trivial
  go_enter Tryz.func97, Tryz.ntmps97
  go_wp2_with fail
  refine chk (fun W => Below w.heap.size w W ∧ W.heap[w.heap.size]? = some (.cells #[.int .i64 A, .int .i64 B] 32 (0, 0)) ∧ W.heap[w.heap.size + 1]? = some (.cells #[.bool b, .slice a n c, .bool b2, .slice a2 n2 c2] 107 (0, 0)) ∧ W.heap[w.heap.size + 1 + 1]? = some (.cells #[.bool false, .slice none 0 0, .bool false, .slice none 0 0] 107 (0, 0)) ∧ Wx W b a n c x ∧ Wx W b2 a2 n2 c2 z) (by refine ⟨?_, ?_, ?_, ?_, ?_, ?_⟩ <;> (exact ck)) ?_
  try clear hx
  try clear hz
  rintro w1 ⟨hB1, zb, zc, zd, hx', hz'⟩
  obtain ⟨jw, jx, Jl, mc⟩ := bk2 zb
  replace zb := Lib.hid zb
  obtain ⟨jy, jz, ya, yb, Jm, me⟩ := bk4 zc
  replace zc := Lib.hid zc
  obtain ⟨my, mz, Qa, Qb, Jn, mf⟩ := bk4 zd
  replace zd := Lib.hid zd
  have hx := hx'
  clear hx'
  have hz := hz'
  clear hz'
  refine wp_open (n := 8) (by kernel_rfl) (by kernel_rfl) (by kernel_rfl) (by kernel_rfl) ?_
  simp only [List.take_succ_cons, List.take_zero]
  apply wpS_quiet
  ·intro γ W hW hp
   have hs := hW.size
   (try simp only [sA, sB, sC, sD] at hs)
   have cq := fun x => (xcA hW (w.heap.size) 0 (by first | omega | go_size) x).trans jw
   have cr := fun x => (xcA hW (w.heap.size) 1 (by first | omega | go_size) x).trans jx
   clear hW hp
   refine ⟨rfl, ?_⟩
   go_big_quiet_op
   first | exact rfl
  ·exact locS_const _
  try simp only [Act.put, List.setIfInBounds_toArray, List.set_cons_succ, List.set_cons_zero, Nat.reduceAdd]
  apply wpS_quiet
  ·intro γ W hW hp
   have hs := hW.size
   (try simp only [sA, sB, sC, sD] at hs)
   have cq := fun x => (xcA hW (w.heap.size + 1) 0 (by first | omega | go_size) x).trans jy
   have cr := fun x => (xcA hW (w.heap.size + 1) 1 (by first | omega | go_size) x).trans jz
   have Yr := fun x => (xcA hW (w.heap.size + 1) 2 (by first | omega | go_size) x).trans ya
   have Ys := fun x => (xcA hW (w.heap.size + 1) 3 (by first | omega | go_size) x).trans yb
   clear hW hp
   refine ⟨rfl, ?_⟩
   go_big_quiet_op
   first | exact rfl
  ·exact locS_const _
  try simp only [Act.put, List.setIfInBounds_toArray, List.set_cons_succ, List.set_cons_zero, Nat.reduceAdd]
  apply wpS_open (openW w.heap.size t)
  ·intro γ W hW hp
   refine ⟨rfl, ?_⟩
   go_simp
   refine plainNew rfl ?_
   exact open_W (TT W (hx.below hW) (hz.below hW)) (by (have := hW.size; (try simp only [sA, sB, sC, sD] at this); omega))
  try simp only [Act.put, List.setIfInBounds_toArray, List.set_cons_succ, List.set_cons_zero, Nat.reduceAdd]
  apply wpS_quiet
  ·intro γ W hW hp
   have hs := hW.size
   (try simp only [sA, sB, sC, sD] at hs)
   have cq := fun x => (xcA hW (w.heap.size) 0 (by first | omega | go_size) x).trans jw
   have cr := fun x => (xcA hW (w.heap.size) 1 (by first | omega | go_size) x).trans jx
   clear hW hp
   refine ⟨rfl, ?_⟩
   go_big_quiet_op
   first | exact rfl
  ·exact locS_const _
  try simp only [Act.put, List.setIfInBounds_toArray, List.set_cons_succ, List.set_cons_zero, Nat.reduceAdd]
  apply wpS_quiet
  ·intro γ W hW hp
   have hs := hW.size
   (try simp only [sA, sB, sC, sD] at hs)
   have cq := fun x => (xcA hW (w.heap.size + 1) 0 (by first | omega | go_size) x).trans jy
   have cr := fun x => (xcA hW (w.heap.size + 1) 1 (by first | omega | go_size) x).trans jz
   have Yr := fun x => (xcA hW (w.heap.size + 1) 2 (by first | omega | go_size) x).trans ya
   have Ys := fun x => (xcA hW (w.heap.size + 1) 3 (by first | omega | go_size) x).trans yb
   clear hW hp
   refine ⟨rfl, ?_⟩
   go_big_quiet_op
   first | exact rfl
  ·exact locS_const _
  try simp only [Act.put, List.setIfInBounds_toArray, List.set_cons_succ, List.set_cons_zero, Nat.reduceAdd]
  apply wpS_open (openW w.heap.size s)
  ·intro γ W hW hp
   refine ⟨rfl, ?_⟩
   go_simp
   refine plainNew rfl ?_
   exact open_W (TS W (hx.below hW) (hz.below hW)) (by (have := hW.size; (try simp only [sA, sB, sC, sD] at this); omega))
  try simp only [Act.put, List.setIfInBounds_toArray, List.set_cons_succ, List.set_cons_zero, Nat.reduceAdd]
  apply wpS_open (newBox _ _ _)
  ·intro γ W hW hp
   refine ⟨rfl, ?_⟩
   go_simp
   exact ⟨⟨⟨_, rfl, hW.size, heap_alloc_new _ _⟩, fun _ => ⟨_, rfl, Nat.le_refl _, by simp⟩⟩, (Below.refl _ _).alloc (Nat.le_refl _) _⟩
  try simp only [Act.put, List.setIfInBounds_toArray, List.set_cons_succ, List.set_cons_zero, Nat.reduceAdd]
  apply wpS_open (newBox _ _ _)
  ·intro γ W hW hp
   refine ⟨rfl, ?_⟩
   go_simp
   exact ⟨⟨⟨_, rfl, hW.size, heap_alloc_new _ _⟩, fun _ => ⟨_, rfl, Nat.le_refl _, by simp⟩⟩, (Below.refl _ _).alloc (Nat.le_refl _) _⟩
  try simp only [Act.put, List.setIfInBounds_toArray, List.set_cons_succ, List.set_cons_zero, Nat.reduceAdd]
  apply wpS_end
  intro γ w2 hb2 hG2 hA2
  have mg := hG2 _ (mL _ (mL _ (mL _ (mR _))))
  dsimp only at mg
  have mh := hG2 _ (mL _ (mL _ (mR _)))
  dsimp only at mh
  obtain ⟨qf, kr, vg, vh⟩ := hG2 _ (mL _ (mR _))
  dsimp only at kr vg vh
  obtain ⟨qc, ks, vi, vj⟩ := hG2 _ (mR _)
  dsimp only at ks vi vj
  have Jo := fun o => blk_cell vh o
  have Jp := fun o => blk_frozen vh o
  have Gk := blk_lt' vh
  have Jq := fun o => blk_cell vj o
  have Jr := fun o => blk_frozen vj o
  have Gl := blk_lt' vj
  have Yt : qf ≠ qc := fun ee => hA2 _ (mL _ (mR _)) _ (mR _) rfl rfl (show (6 : Nat) ≠ 7 by decide) (by dsimp only; rw [kr, ks, ee])
  have Vv : w.heap.size ≠ qf := Nat.ne_of_lt (Nat.lt_of_lt_of_le mc vg)
  have Vw : w.heap.size + 1 ≠ qf := Nat.ne_of_lt (Nat.lt_of_lt_of_le me vg)
  have Vx : w.heap.size + 1 + 1 ≠ qf := Nat.ne_of_lt (Nat.lt_of_lt_of_le mf vg)
  have Gm : w.heap.size ≤ qf := Nat.le_trans hB1.size vg
  have Vy : w.heap.size ≠ qc := Nat.ne_of_lt (Nat.lt_of_lt_of_le mc vi)
  have Vz : w.heap.size + 1 ≠ qc := Nat.ne_of_lt (Nat.lt_of_lt_of_le me vi)
  have Wa : w.heap.size + 1 + 1 ≠ qc := Nat.ne_of_lt (Nat.lt_of_lt_of_le mf vi)
  have Gn : w.heap.size ≤ qc := Nat.le_trans hB1.size vi
  clear hG2 hA2
  try simp only [kr, ks]
  clear kr
  clear ks
  simp only [List.drop_succ_cons, List.drop_zero]
  have hz2 := hb2.size
  (try simp only [sA, sB, sC, sD] at hz2)
  obtain ⟨b3, a3, n3, c3, e3, ht, -⟩ := mg
  obtain ⟨b4, a4, n4, c4, e4, hs, -⟩ := mh
  simp only [e3, e4]
  clear e3 e4
  have ze := (hb2.block (w.heap.size) (blk_lt' zb.out)).trans zb.out
  clear jw jx Jl zb
  obtain ⟨Qc, Qd, Js, Gp⟩ := bk2 ze
  replace ze := Lib.hid ze
  have zf := (hb2.block (w.heap.size + 1) (blk_lt' zc.out)).trans zc.out
  clear jy jz ya yb Jm zc
  obtain ⟨Qe, Qf, Qg, Qh, Jt, Gq⟩ := bk4 zf
  replace zf := Lib.hid zf
  have zg := (hb2.block (w.heap.size + 1 + 1) (blk_lt' zd.out)).trans zd.out
  clear my mz Qa Qb Jn zd
  obtain ⟨Qi, Qj, Qk, Ql, Ju, Gr⟩ := bk4 zg
  replace zg := Lib.hid zg
  replace hx := hx.below hb2
  replace hz := hz.below hb2
  have hB2 : Below w.heap.size w w2 := below_via hb2 (by assumption) (by go_size)
  go_upto_region 2 with (fail)
  replace ze := ze.out
  replace zf := zf.out
  replace zg := zg.out
  refine chk (fun W => Below w.heap.size w W ∧ W.heap[w.heap.size]? = some (.cells #[.int .i64 A, .int .i64 B] 32 (0, 0)) ∧ W.heap[w.heap.size + 1 + 1]? = some (.cells #[.bool false, .slice none 0 0, .bool false, .slice none 0 0] 107 (0, 0)) ∧ W.heap[qf]? = some (.cells #[.bool b3, .slice a3 n3 c3] 80 (0, 0)) ∧ W.heap[qc]? = some (.cells #[.bool b4, .slice a4 n4 c4] 80 (0, 0)) ∧ Wx W b3 a3 n3 c3 t ∧ Wx W b4 a4 n4 c4 s) (by refine ⟨?_, ?_, ?_, ?_, ?_, ?_, ?_⟩ <;> (exact ck)) ?_
  try clear ht
  try clear hs
  clear Qc Qd Js ze
  clear Qe Qf Qg Qh Jt zf
  clear Qi Qj Qk Ql Ju zg
  clear hB2
  try clear Jo
  try clear Jp
  try clear vh
  try clear Jq
  try clear Jr
  try clear vj
  rintro w3 ⟨hB3, zh, qy, zi, zj, ht', hs'⟩
  obtain ⟨Qm, Qn, Jv, Gs⟩ := bk2 zh
  replace zh := Lib.hid zh
  obtain ⟨bd, bf, bg, bh, Jw, Gt⟩ := bk4 qy
  replace qy := Lib.hid qy
  obtain ⟨Qo, Qp, Jx, Gu⟩ := bk2 zi
  replace zi := Lib.hid zi
  obtain ⟨Qq, Qr, Jy, Gv⟩ := bk2 zj
  replace zj := Lib.hid zj
  have ht := ht'
  clear ht'
  have hs := hs'
  clear hs'
  clear TT TS
  have hn4 : n4 ≠ 0 := by rw [hs.ln]; exact hs00
  have hn4' : ((n4 : Int) == 0) = false := by simp; omega
  have hn3 : n3 ≤ 8000 := by rw [ht.ln]; exact hlt
  have hn4b : n4 ≤ 8000 := by rw [hs.ln]; exact hls
  have hb4n := Lib.hid hs.neg
  by_cases hneg : s < 0
  ·obtain rfl : b4 = true := by rw [hb4n.out]; simp [ngB, hneg]
   have et := Lib.hid (show -t = t1 by rw [← HT1.out]; simp [sgZ, hneg])
   have es := Lib.hid (show -s = s1 by rw [← HS1.out]; simp [sgZ, hneg])
   go_upto_region 6 with (first | (have _t := tok4; go_at_call 114; (with_reducible refine ((bgMinus_any b3 a3 n3 c3 t _ (ht.below bel) (by omega))).mono ?_); rintro e w4 ⟨b5, a5, n5, c5, rfl, ht5, f5, hb4⟩; clear tok4 _t; have hz4 := hb4.size; (try simp only [sA, sB, sC, sD] at hz4); (try (obtain ⟨kq, mi⟩ := cfAt hb4 (w.heap.size); have kt := kq 0; have ku := kq 1; clear kq; simp [go_sem, *] at kt ku mi)); (try have Zs : w.heap.size < w4.heap.size := by omega); (try (obtain ⟨kq, mj⟩ := cfAt hb4 (w.heap.size + 1); have kw := kq 0; have kx := kq 1; have ky := kq 2; have kz := kq 3; clear kq; simp [go_sem, *] at kw kx ky kz mj)); (try have Zt : w.heap.size + 1 < w4.heap.size := by omega); (try (obtain ⟨kq, ml⟩ := cfAt hb4 (w.heap.size + 1 + 1); have pc := kq 0; have pd := kq 1; have pe := kq 2; have pf := kq 3; clear kq; simp [go_sem, *] at pc pd pe pf ml)); (try have Zu : w.heap.size + 1 + 1 < w4.heap.size := by omega); (try (obtain ⟨kq, bi⟩ := cfAt hb4 (qf); have us := kq 0; have ut := kq 1; clear kq; simp [go_sem, *] at us ut bi)); (try have Qs : qf < w4.heap.size := by omega); (try (obtain ⟨kq, bj⟩ := cfAt hb4 (qc); have uw := kq 0; have uy := kq 1; clear kq; simp [go_sem, *] at uw uy bj)); (try have Qt : qc < w4.heap.size := by omega); (try clear Hu Hv Ke); (try clear Kf); (try clear Hw Hx Hy Hz Kg); (try clear Kh); (try clear Ka Kb Kc Kd Ki); (try clear Kj); (try clear Yu Yv Ul); (try clear Um); (try clear Yw Yx Yy Yz Un); (try clear Uo); (try clear Va Vb Vc Vd Up); (try clear Uq); (try clear Ve Vf Ur); (try clear Us); (try clear Vg Vh Vi Vj Ut); (try clear Uu); (try clear Vk Vl Vm Vn Uv); (try clear Uw); (try clear Yn Yo Wb); (try clear Wc); (try clear Yp Yq Wd); (try clear We)))
   have bk := (hb4.block (w.heap.size) (blk_lt' zh.out)).trans zh.out
   clear Qm Qn Jv zh
   obtain ⟨Wf, Wg, Gw, Kk⟩ := bk2 bk
   replace bk := Lib.hid bk
   have bm := (hb4.block (w.heap.size + 1 + 1) (blk_lt' qy.out)).trans qy.out
   clear bd bf bg bh Jw qy
   obtain ⟨Wh, Wi, Wj, Wk, Gx, Kl⟩ := bk4 bm
   replace bm := Lib.hid bm
   have bn := (hb4.block (qf) (blk_lt' zi.out)).trans zi.out
   clear Qo Qp Jx zi
   obtain ⟨Wl, Wm, Gy, Km⟩ := bk2 bn
   replace bn := Lib.hid bn
   have br := (hb4.block (qc) (blk_lt' zj.out)).trans zj.out
   clear Qq Qr Jy zj
   obtain ⟨Wn, Wo, Gz, Kn⟩ := bk2 br
   replace br := Lib.hid br
   replace ht := ht.below hb4
   replace hs := hs.below hb4
   have hB4 : Below w.heap.size w w4 := below_via hb4 (by assumption) (by go_size)
   replace bk := bk.out
   replace bm := bm.out
   replace bn := bn.out
   replace br := br.out
   refine chk (fun W => Below w.heap.size w W ∧ W.heap[w.heap.size]? = some (.cells #[.int .i64 A, .int .i64 B] 32 (0, 0)) ∧ W.heap[w.heap.size + 1 + 1]? = some (.cells #[.bool false, .slice none 0 0, .bool false, .slice none 0 0] 107 (0, 0)) ∧ W.heap[qf]? = some (.cells #[.bool b5, .slice a5 n5 c5] 80 (0, 0)) ∧ W.heap[qc]? = some (.cells #[.bool true, .slice a4 n4 c4] 80 (0, 0)) ∧ Wx W b5 a5 n5 c5 (-t) ∧ Wx W true a4 n4 c4 s) (by refine ⟨?_, ?_, ?_, ?_, ?_, ?_, ?_⟩ <;> (exact ck)) ?_
   try clear ht5
   try clear hs
   clear Wf Wg Gw bk
   clear Wh Wi Wj Wk Gx bm
   clear Wl Wm Gy bn
   clear Wn Wo Gz br
   clear hB4
   rintro w5 ⟨hB5, bu, bw, bx, cd, ht5', hs'⟩
   obtain ⟨Wp, Wq, Ha, Ko⟩ := bk2 bu
   replace bu := Lib.hid bu
   obtain ⟨Wr, Ws, Wt, Wu, Hb, Kp⟩ := bk4 bw
   replace bw := Lib.hid bw
   obtain ⟨Wv, Ww, Hc, Kq⟩ := bk2 bx
   replace bx := Lib.hid bx
   obtain ⟨Wy, Wz, Hd, Kr⟩ := bk2 cd
   replace cd := Lib.hid cd
   have ht5 := ht5'
   clear ht5'
   have hs := hs'
   clear hs'
   go_upto_region 7 with (first | (have _t := tok6; go_at_call 114; (with_reducible refine ((bgMinus_any true a4 n4 c4 s _ (hs.below bel) (by omega))).mono ?_); rintro e w6 ⟨b6, a6, n6, c6, rfl, hs6, f6, hb6⟩; clear tok6 _t; have hz6 := hb6.size; (try simp only [sA, sB, sC, sD] at hz6); (try (obtain ⟨kq, pu⟩ := cfAt hb6 (w.heap.size); have vk := kq 0; have vm := kq 1; clear kq; simp [go_sem, *] at vk vm pu)); (try have mn : w.heap.size < w6.heap.size := by omega); (try (obtain ⟨kq, pv⟩ := cfAt hb6 (w.heap.size + 1); have vn := kq 0; have vo := kq 1; have vp := kq 2; have vq := kq 3; clear kq; simp [go_sem, *] at vn vo vp vq pv)); (try have mo : w.heap.size + 1 < w6.heap.size := by omega); (try (obtain ⟨kq, pw⟩ := cfAt hb6 (w.heap.size + 1 + 1); have vr := kq 0; have vt := kq 1; have vu := kq 2; have vv := kq 3; clear kq; simp [go_sem, *] at vr vt vu vv pw)); (try have mp : w.heap.size + 1 + 1 < w6.heap.size := by omega); (try (obtain ⟨kq, gu⟩ := cfAt hb6 (qf); have yj := kq 0; have yk := kq 1; clear kq; simp [go_sem, *] at yj yk gu)); (try have ce : qf < w6.heap.size := by omega); (try (obtain ⟨kq, gy⟩ := cfAt hb6 (qc); have yl := kq 0; have ym := kq 1; clear kq; simp [go_sem, *] at yl ym gy)); (try have cf : qc < w6.heap.size := by omega); (try clear Yu Yv Ul); (try clear Um); (try clear Yw Yx Yy Yz Un); (try clear Uo); (try clear Va Vb Vc Vd Up); (try clear Uq); (try clear Ve Vf Ur); (try clear Us); (try clear Vg Vh Vi Vj Ut); (try clear Uu); (try clear Vk Vl Vm Vn Uv); (try clear Uw); (try clear Yn Yo Wb); (try clear Wc); (try clear Yp Yq Wd); (try clear We); (try clear kt ku mi); (try clear Zs); (try clear kw kx ky kz mj); (try clear Zt); (try clear pc pd pe pf ml); (try clear Zu); (try clear us ut bi); (try clear Qs); (try clear uw uy bj); (try clear Qt); (try clear pg ph mq); (try clear mr); (try clear pi pj pk pm mu); (try clear mv); (try clear pn po pp pq mw); (try clear mx); (try clear gc ge cg); (try clear ch); (try clear gh gk ci); (try clear cj)))
   have cl := (hb6.block (w.heap.size) (blk_lt' bu.out)).trans bu.out
   clear Wp Wq Ha bu
   obtain ⟨Ua, Ub, He, Ks⟩ := bk2 cl
   replace cl := Lib.hid cl
   have cn := (hb6.block (w.heap.size + 1 + 1) (blk_lt' bw.out)).trans bw.out
   clear Wr Ws Wt Wu Hb bw
   obtain ⟨Uc, Ud, Ue, Uf, Hf, Kt⟩ := bk4 cn
   replace cn := Lib.hid cn
   have co := (hb6.block (qf) (blk_lt' bx.out)).trans bx.out
   clear Wv Ww Hc bx
   obtain ⟨Ug, Uh, Hg, Ku⟩ := bk2 co
   replace co := Lib.hid co
   have cp := (hb6.block (qc) (blk_lt' cd.out)).trans cd.out
   clear Wy Wz Hd cd
   obtain ⟨Ui, Uj, Hh, Kv⟩ := bk2 cp
   replace cp := Lib.hid cp
   replace ht5 := ht5.below hb6
   replace hs := hs.below hb6
   have hB6 : Below w.heap.size w w6 := below_via hb6 (by assumption) (by go_size)
   rw [et.out] at ht5
   rw [es.out] at hs6
   replace cl := cl.out
   replace cn := cn.out
   replace co := co.out
   replace cp := cp.out
   refine chk (fun W => Below w.heap.size w W ∧ W.heap[w.heap.size]? = some (.cells #[.int .i64 A, .int .i64 B] 32 (0, 0)) ∧ W.heap[w.heap.size + 1 + 1]? = some (.cells #[.bool false, .slice none 0 0, .bool false, .slice none 0 0] 107 (0, 0)) ∧ W.heap[qf]? = some (.cells #[.bool b5, .slice a5 n5 c5] 80 (0, 0)) ∧ W.heap[qc]? = some (.cells #[.bool b6, .slice a6 n6 c6] 80 (0, 0)) ∧ Wx W b5 a5 n5 c5 t1 ∧ Wx W b6 a6 n6 c6 s1) (by refine ⟨?_, ?_, ?_, ?_, ?_, ?_, ?_⟩ <;> (exact ck)) ?_
   try clear ht5
   try clear hs6
   clear Ua Ub He cl
   clear Uc Ud Ue Uf Hf cn
   clear Ug Uh Hg co
   clear Ui Uj Hh cp
   clear hB6
   rintro w7 ⟨hB7, zk, zm, zn, zo, ht5', hs6'⟩
   obtain ⟨Qu, Qv, Jz, Hi⟩ := bk2 zk
   replace zk := Lib.hid zk
   obtain ⟨Qw, Qx, Qy, Qz, Ya, Hj⟩ := bk4 zm
   replace zm := Lib.hid zm
   obtain ⟨Xa, Xb, Yb, Hk⟩ := bk2 zn
   replace zn := Lib.hid zn
   obtain ⟨Xc, Xd, Yc, Hl⟩ := bk2 zo
   replace zo := Lib.hid zo
   have ht5 := ht5'
   clear ht5'
   have hs6 := hs6'
   clear hs6'
   go_upto_region 8 with (first | (have _t := tok8; go_at_call 115; (with_reducible refine ((TD _ _ _ _ _ _ _ _ _ (ht5.below bel) (hs6.below bel))).mono ?_); rintro e w8 ⟨rfl, hb8⟩; clear tok8 _t; have hz8 := hb8.size; (try simp only [sA, sB, sC, sD] at hz8); (try (obtain ⟨kq, vw⟩ := cfAt hb8 (w.heap.size); have zy := kq 0; have ja := kq 1; clear kq; simp [go_sem, *] at zy ja vw)); (try have px : w.heap.size < w8.heap.size := by omega); (try (obtain ⟨kq, vy⟩ := cfAt hb8 (w.heap.size + 1); have jb := kq 0; have jc := kq 1; have jd := kq 2; have je := kq 3; clear kq; simp [go_sem, *] at jb jc jd je vy)); (try have dc : w.heap.size + 1 < w8.heap.size := by omega); (try (obtain ⟨kq, wc⟩ := cfAt hb8 (w.heap.size + 1 + 1); have jf := kq 0; have jg := kq 1; have jh := kq 2; have ji := kq 3; clear kq; simp [go_sem, *] at jf jg jh ji wc)); (try have de : w.heap.size + 1 + 1 < w8.heap.size := by omega); (try (obtain ⟨kq, ka⟩ := cfAt hb8 (qf); have yn := kq 0; have yo := kq 1; clear kq; simp [go_sem, *] at yn yo ka)); (try have Xe : qf < w8.heap.size := by omega); (try (obtain ⟨kq, yc⟩ := cfAt hb8 (qc); have qz := kq 0; have xc := kq 1; clear kq; simp [go_sem, *] at qz xc yc)); (try have kb : qc < w8.heap.size := by omega); (try clear kt ku mi); (try clear Zs); (try clear kw kx ky kz mj); (try clear Zt); (try clear pc pd pe pf ml); (try clear Zu); (try clear us ut bi); (try clear Qs); (try clear uw uy bj); (try clear Qt); (try clear pg ph mq); (try clear mr); (try clear pi pj pk pm mu); (try clear mv); (try clear pn po pp pq mw); (try clear mx); (try clear gc ge cg); (try clear ch); (try clear gh gk ci); (try clear cj); (try clear vk vm pu); (try clear mn); (try clear vn vo vp vq pv); (try clear mo); (try clear vr vt vu vv pw); (try clear mp); (try clear yj yk gu); (try clear ce); (try clear yl ym gy); (try clear cf); (try clear wd wg df); (try clear dg); (try clear wi wj wk wl dh); (try clear di); (try clear wm wn wq ws dj); (try clear dk); (try clear dl dm Xf); (try clear Xg); (try clear yp yq kc); (try clear kd)))
   have zp := (hb8.block (w.heap.size) (blk_lt' zk.out)).trans zk.out
   clear Qu Qv Jz zk
   obtain ⟨Xh, Xi, Yd, Hm⟩ := bk2 zp
   replace zp := Lib.hid zp
   have zq := (hb8.block (w.heap.size + 1 + 1) (blk_lt' zm.out)).trans zm.out
   clear Qw Qx Qy Qz Ya zm
   obtain ⟨Xj, Xk, Xl, Xm, Ye, Hn⟩ := bk4 zq
   replace zq := Lib.hid zq
   have zr := (hb8.block (qf) (blk_lt' zn.out)).trans zn.out
   clear Xa Xb Yb zn
   obtain ⟨Xn, Xo, Yf, Ho⟩ := bk2 zr
   replace zr := Lib.hid zr
   have zt := (hb8.block (qc) (blk_lt' zo.out)).trans zo.out
   clear Xc Xd Yc zo
   obtain ⟨Xp, Xq, Yg, Hp⟩ := bk2 zt
   replace zt := Lib.hid zt
   replace ht5 := ht5.below hb8
   replace hs6 := hs6.below hb8
   have hB8 : Below w.heap.size w w8 := below_via hb8 (by assumption) (by go_size)
   go_upto_region 9 with (first | (have _t := tok9; go_at_call 116; (with_reducible refine ((TO1 _ _ _ _ _ (ht5.below bel))).mono ?_); rintro e w9 ⟨b9, a9, n9, c9, r9, rfl, hp9, f9, hb9⟩; clear tok9 _t; have hz9 := hb9.size; (try simp only [sA, sB, sC, sD] at hz9); (try (obtain ⟨kq, dn⟩ := cfAt hb9 (w.heap.size); have wt := kq 0; have wu := kq 1; clear kq; simp [go_sem, *] at wt wu dn)); (try have Zv : w.heap.size < w9.heap.size := by omega); (try (obtain ⟨kq, dq⟩ := cfAt hb9 (w.heap.size + 1); have wv := kq 0; have ww := kq 1; have wy := kq 2; have wz := kq 3; clear kq; simp [go_sem, *] at wv ww wy wz dq)); (try have Zw : w.heap.size + 1 < w9.heap.size := by omega); (try (obtain ⟨kq, dr⟩ := cfAt hb9 (w.heap.size + 1 + 1); have uc := kq 0; have ud := kq 1; have ue := kq 2; have uf := kq 3; clear kq; simp [go_sem, *] at uc ud ue uf dr)); (try have Zx : w.heap.size + 1 + 1 < w9.heap.size := by omega); (try (obtain ⟨kq, Xr⟩ := cfAt hb9 (qf); have dt := kq 0; have du := kq 1; clear kq; simp [go_sem, *] at dt du Xr)); (try have Uk : qf < w9.heap.size := by omega); (try (obtain ⟨kq, ke⟩ := cfAt hb9 (qc); have yr := kq 0; have yt := kq 1; clear kq; simp [go_sem, *] at yr yt ke)); (try have Xs : qc < w9.heap.size := by omega); (try clear pg ph mq); (try clear mr); (try clear pi pj pk pm mu); (try clear mv); (try clear pn po pp pq mw); (try clear mx); (try clear gc ge cg); (try clear ch); (try clear gh gk ci); (try clear cj); (try clear vk vm pu); (try clear mn); (try clear vn vo vp vq pv); (try clear mo); (try clear vr vt vu vv pw); (try clear mp); (try clear yj yk gu); (try clear ce); (try clear yl ym gy); (try clear cf); (try clear wd wg df); (try clear dg); (try clear wi wj wk wl dh); (try clear di); (try clear wm wn wq ws dj); (try clear dk); (try clear dl dm Xf); (try clear Xg); (try clear yp yq kc); (try clear kd); (try clear zy ja vw); (try clear px); (try clear jb jc jd je vy); (try clear dc); (try clear jf jg jh ji wc); (try clear de); (try clear yn yo ka); (try clear Xe); (try clear qz xc yc); (try clear kb)))
   have zu := (hb9.block (w.heap.size) (blk_lt' zp.out)).trans zp.out
   clear Xh Xi Yd zp
   obtain ⟨Xt, Xu, Yh, Hq⟩ := bk2 zu
   replace zu := Lib.hid zu
   have zv := (hb9.block (w.heap.size + 1 + 1) (blk_lt' zq.out)).trans zq.out
   clear Xj Xk Xl Xm Ye zq
   obtain ⟨Xv, Xw, Xx, Xy, Yi, Hr⟩ := bk4 zv
   replace zv := Lib.hid zv
   have zw := (hb9.block (qf) (blk_lt' zr.out)).trans zr.out
   clear Xn Xo Yf zr
   obtain ⟨Xz, Za, Yj, Hs⟩ := bk2 zw
   replace zw := Lib.hid zw
   have zx := (hb9.block (qc) (blk_lt' zt.out)).trans zt.out
   clear Xp Xq Yg zt
   obtain ⟨Zb, Zc, Yk, Ht⟩ := bk2 zx
   replace zx := Lib.hid zx
   replace ht5 := ht5.below hb9
   replace hs6 := hs6.below hb9
   have hB9 : Below w.heap.size w w9 := below_via hb9 (by assumption) (by go_size)
   have F9 : Fr w.heap.size a9 := f9.mono (by have := hB8.size; first | omega | go_size)
   clear f9
   replace zu := zu.out
   replace zv := zv.out
   replace zw := zw.out
   replace zx := zx.out
   refine chk (fun W => Below w.heap.size w W ∧ W.heap[w.heap.size + 1 + 1]? = some (.cells #[.bool false, .slice none 0 0, .bool false, .slice none 0 0] 107 (0, 0)) ∧ W.heap[qc]? = some (.cells #[.bool b6, .slice a6 n6 c6] 80 (0, 0)) ∧ W.heap[w9.heap.size]? = some (.cells #[.bool b9, .slice a9 n9 c9] 80 (0, 0)) ∧ Wx W b6 a6 n6 c6 s1 ∧ Wx W b9 a9 n9 c9 p) (by refine ⟨?_, ?_, ?_, ?_, ?_, ?_⟩ <;> (exact ck)) ?_
   try clear hs6
   try clear hp9
   clear Xt Xu Yh zu
   clear Xv Xw Xx Xy Yi zv
   clear Xz Za Yj zw
   clear Zb Zc Yk zx
   clear hB9
   rintro w10 ⟨hB10, qn, qo, qq, hs6', hp9'⟩
   obtain ⟨ct, cu, cw, cx, Zy, Ux⟩ := bk4 qn
   replace qn := Lib.hid qn
   obtain ⟨cy, cz, Zz, Uy⟩ := bk2 qo
   replace qo := Lib.hid qo
   obtain ⟨nc, nd, Ja, Uz⟩ := bk2 qq
   replace qq := Lib.hid qq
   have hs6 := hs6'
   clear hs6'
   have hp9 := hp9'
   clear hp9'
   go_upto_region 10 with (first | (have _t := tok11; go_at_call 116; (with_reducible refine ((TO2 _ _ _ _ _ (hs6.below bel))).mono ?_); rintro e w11 ⟨b11, a11, n11, c11, r11, rfl, hq11, f11, hb11⟩; clear tok11 _t; have hz11 := hb11.size; (try simp only [sA, sB, sC, sD] at hz11); (try (obtain ⟨kq, yd⟩ := cfAt hb11 (w.heap.size); have xd := kq 0; have xe := kq 1; clear kq; simp [go_sem, *] at xd xe yd)); (try have kf : w.heap.size < w11.heap.size := by omega); (try (obtain ⟨kq, ye⟩ := cfAt hb11 (w.heap.size + 1); have xf := kq 0; have xg := kq 1; have xh := kq 2; have xi := kq 3; clear kq; simp [go_sem, *] at xf xg xh xi ye)); (try have kh : w.heap.size + 1 < w11.heap.size := by omega); (try (obtain ⟨kq, yf⟩ := cfAt hb11 (w.heap.size + 1 + 1); have xj := kq 0; have xk := kq 1; have xl := kq 2; have xm := kq 3; clear kq; simp [go_sem, *] at xj xk xl xm yf)); (try have ki : w.heap.size + 1 + 1 < w11.heap.size := by omega); (try (obtain ⟨kq, nf⟩ := cfAt hb11 (qc); have pr := kq 0; have pt := kq 1; clear kq; simp [go_sem, *] at pr pt nf)); (try have Vo : qc < w11.heap.size := by omega); (try clear wd wg df); (try clear dg); (try clear wi wj wk wl dh); (try clear di); (try clear wm wn wq ws dj); (try clear dk); (try clear yp yq kc); (try clear kd); (try clear zy ja vw); (try clear px); (try clear jb jc jd je vy); (try clear dc); (try clear jf jg jh ji wc); (try clear de); (try clear qz xc yc); (try clear kb); (try clear wt wu dn); (try clear Zv); (try clear wv ww wy wz dq); (try clear Zw); (try clear uc ud ue uf dr); (try clear Zx); (try clear yr yt ke); (try clear Xs); (try clear yu yv kj); (try clear kl); (try clear yw yx yz va km); (try clear kn); (try clear vb vc vd vf ko); (try clear kp); (try clear Yl Ym Vp); (try clear Vq)))
   have qr := (hb11.block (w.heap.size + 1 + 1) (blk_lt' qn.out)).trans qn.out
   clear ct cu cw cx Zy qn
   obtain ⟨ng, nh, ni, nj, Jb, Ga⟩ := bk4 qr
   replace qr := Lib.hid qr
   have qt := (hb11.block (qc) (blk_lt' qo.out)).trans qo.out
   clear cy cz Zz qo
   obtain ⟨nk, nl, Jc, Gb⟩ := bk2 qt
   replace qt := Lib.hid qt
   have qu := (hb11.block (w9.heap.size) (blk_lt' qq.out)).trans qq.out
   clear nc nd Ja qq
   obtain ⟨nm, np, Jd, Gc⟩ := bk2 qu
   replace qu := Lib.hid qu
   replace hs6 := hs6.below hb11
   replace hp9 := hp9.below hb11
   have hB11 : Below w.heap.size w w11 := below_via hb11 (by assumption) (by go_size)
   have F11 : Fr w.heap.size a11 := f11.mono (by have := hB10.size; first | omega | go_size)
   clear f11
   replace qr := qr.out
   replace qt := qt.out
   replace qu := qu.out
   refine chk (fun W => Below w.heap.size w W ∧ W.heap[w.heap.size + 1 + 1]? = some (.cells #[.bool false, .slice none 0 0, .bool false, .slice none 0 0] 107 (0, 0)) ∧ W.heap[w9.heap.size]? = some (.cells #[.bool b9, .slice a9 n9 c9] 80 (0, 0)) ∧ W.heap[w11.heap.size]? = some (.cells #[.bool b11, .slice a11 n11 c11] 80 (0, 0)) ∧ Wx W b9 a9 n9 c9 p ∧ Wx W b11 a11 n11 c11 q) (by refine ⟨?_, ?_, ?_, ?_, ?_, ?_⟩ <;> (exact ck)) ?_
   try clear hp9
   try clear hq11
   clear ng nh ni nj Jb qr
   clear nk nl Jc qt
   clear nm np Jd qu
   clear hB11
   rintro w12 ⟨hB12, qv, qw, qx, hp9', hq11'⟩
   obtain ⟨nr, nt, nu, nx, Je, Gd⟩ := bk4 qv
   replace qv := Lib.hid qv
   obtain ⟨ny, nz, Jf, Ge⟩ := bk2 qw
   replace qw := Lib.hid qw
   obtain ⟨ma, mb, Jg, Gf⟩ := bk2 qx
   replace qx := Lib.hid qx
   have hp9 := hp9'
   clear hp9'
   have hq11 := hq11'
   clear hq11'
   go_upto_region 11 with (fail)
   replace qv := qv.out
   replace qw := qw.out
   replace qx := qx.out
   refine chk (fun W => Below w.heap.size w W ∧ W.heap[w.heap.size + 1 + 1]? = some (.cells #[.bool false, .slice none 0 0, .bool false, .slice none 0 0] 107 (0, 0)) ∧ W.heap[w12.heap.size]? = some (.cells #[.bool b9, .slice a9 n9 c9, .bool b11, .slice a11 n11 c11] 107 (0, 0)) ∧ Wx W b9 a9 n9 c9 p ∧ Wx W b11 a11 n11 c11 q) (by refine ⟨?_, ?_, ?_, ?_, ?_⟩ <;> (exact ck)) ?_
   try clear hp9
   try clear hq11
   clear nr nt nu nx Je qv
   clear ny nz Jf qw
   clear ma mb Jg qx
   clear hB12
   rintro w13 ⟨hB13, qg, qh, hp9', hq11'⟩
   obtain ⟨ug, uh, ui, uj, dv, Gg⟩ := bk4 qg
   replace qg := Lib.hid qg
   obtain ⟨uk, ul, um, un, dw, Gh⟩ := bk4 qh
   replace qh := Lib.hid qh
   have hp9 := hp9'
   clear hp9'
   have hq11 := hq11'
   clear hq11'
   rcases HRR.out with ⟨rfl, hd⟩ | ⟨rfl, hd⟩
   ·subst hd
    clear HRR
    go_upto_region 13 with (first | (have _t := tok14; go_at_call 117; (with_reducible refine ((TG _ _ _ _ _ _ _ _ _ (hp9.below bel) (hq11.below bel))).mono ?_); rintro e w14 ⟨rfl, hb14⟩; clear tok14 _t; have hz14 := hb14.size; (try simp only [sA, sB, sC, sD] at hz14); (try (obtain ⟨kq, yg⟩ := cfAt hb14 (w.heap.size); have xn := kq 0; have xo := kq 1; clear kq; simp [go_sem, *] at xn xo yg)); (try have Zd : w.heap.size < w14.heap.size := by omega); (try (obtain ⟨kq, yh⟩ := cfAt hb14 (w.heap.size + 1); have xp := kq 0; have xq := kq 1; have xr := kq 2; have xt := kq 3; clear kq; simp [go_sem, *] at xp xq xr xt yh)); (try have Ze : w.heap.size + 1 < w14.heap.size := by omega); (try (obtain ⟨kq, yi⟩ := cfAt hb14 (w.heap.size + 1 + 1); have xu := kq 0; have xv := kq 1; have xw := kq 2; have xy := kq 3; clear kq; simp [go_sem, *] at xu xv xw xy yi)); (try have Zf : w.heap.size + 1 + 1 < w14.heap.size := by omega); (try (obtain ⟨kq, za⟩ := cfAt hb14 (w12.heap.size); have qj := kq 0; have qk := kq 1; have ql := kq 2; have qm := kq 3; clear kq; simp [go_sem, *] at qj qk ql qm za)); (try have dx : w12.heap.size < w14.heap.size := by omega); (try clear yu yv kj); (try clear kl); (try clear yw yx yz va km); (try clear kn); (try clear vb vc vd vf ko); (try clear kp); (try clear xd xe yd); (try clear kf); (try clear xf xg xh xi ye); (try clear kh); (try clear xj xk xl xm yf); (try clear ki); (try clear fa fb Zg); (try clear Zh); (try clear fc fd fe ff Zi); (try clear Zj); (try clear fh fi fj fk Zk); (try clear Zl); (try clear fl fm Zm); (try clear Zn); (try clear fn fo fp fq Zo); (try clear Zp); (try clear ft fu fv fw Zq); (try clear Zr); (try clear gm gn gr gt ba); (try clear bc)))
    have qd := (hb14.block (w.heap.size + 1 + 1) (blk_lt' qg.out)).trans qg.out
    clear ug uh ui uj dv qg
    obtain ⟨jj, jk, jl, jm, uo, Jh⟩ := bk4 qd
    replace qd := Lib.hid qd
    have qe := (hb14.block (w12.heap.size) (blk_lt' qh.out)).trans qh.out
    clear uk ul um un dw qh
    obtain ⟨jn, jo, jp, jq, uq, Ji⟩ := bk4 qe
    replace qe := Lib.hid qe
    replace hp9 := hp9.below hb14
    replace hq11 := hq11.below hb14
    have hB14 : Below w.heap.size w w14 := below_via hb14 (by assumption) (by go_size)
    replace qd := qd.out
    replace qe := qe.out
    refine chk (fun W => Below w.heap.size w W ∧ W.heap[w.heap.size + 1 + 1]? = some (.cells #[.bool false, .slice none 0 0, .bool false, .slice none 0 0] 107 (0, 0)) ∧ W.heap[w12.heap.size]? = some (.cells #[.bool b9, .slice a9 n9 c9, .bool b11, .slice a11 n11 c11] 107 (0, 0)) ∧ Wx W b9 a9 n9 c9 p ∧ Wx W b11 a11 n11 c11 q) (by refine ⟨?_, ?_, ?_, ?_, ?_⟩ <;> (exact ck)) ?_
    try clear hp9
    try clear hq11
    clear jj jk jl jm uo qd
    clear jn jo jp jq uq qe
    clear hB14
    rintro w15 ⟨hB15, qi, ur, hp9', hq11'⟩
    obtain ⟨jr, jt, ju, jv, Jj, Jk⟩ := bk4 qi
    replace qi := Lib.hid qi
    obtain ⟨Vr, Vs, Vt, Vu, Gi, Gj⟩ := bk4 ur
    replace ur := Lib.hid ur
    have hp9 := hp9'
    clear hp9'
    have hq11 := hq11'
    clear hq11'
    clear TO1 TO2 TD TG lt1 ls1 hA hBB
    have hON : w.heap.size + 1 + 1 ≠ w12.heap.size := by omega
    iterate 24 (first | (with_reducible show bodyPost _ _ _ _ _ _) | (with_reducible refine wp_ret ?_) | go_values | go_skip | go_guarded | go_step | go_upon | go_back | skip)
    refine bodyPost_ret (v := .tuple #[.agg #[.bool b9, .slice a9 n9 c9, .bool b11, .slice a11 n11 c11], .bool true]) (by simp [results, Tryz.results97, go_sem, jr, jt, ju, jv]) rfl ⟨_, _, _, _, _, _, _, _, rfl, ?_, ?_, F9, F11, ?_⟩
    all_goals (have HO := qi.out)
    ·(exact ck)
    ·(exact ck)
    ·(exact ck)
   ·subst hd
    clear HRR
    go_upto_region 12 with (first | (have _t := tok14; go_at_call 117; (with_reducible refine ((TG _ _ _ _ _ _ _ _ _ (hp9.below bel) (hq11.below bel))).mono ?_); rintro e w14 ⟨rfl, hb14⟩; clear tok14 _t; have hz14 := hb14.size; (try simp only [sA, sB, sC, sD] at hz14); (try (obtain ⟨kq, yg⟩ := cfAt hb14 (w.heap.size); have xn := kq 0; have xo := kq 1; clear kq; simp [go_sem, *] at xn xo yg)); (try have Zd : w.heap.size < w14.heap.size := by omega); (try (obtain ⟨kq, yh⟩ := cfAt hb14 (w.heap.size + 1); have xp := kq 0; have xq := kq 1; have xr := kq 2; have xt := kq 3; clear kq; simp [go_sem, *] at xp xq xr xt yh)); (try have Ze : w.heap.size + 1 < w14.heap.size := by omega); (try (obtain ⟨kq, yi⟩ := cfAt hb14 (w.heap.size + 1 + 1); have xu := kq 0; have xv := kq 1; have xw := kq 2; have xy := kq 3; clear kq; simp [go_sem, *] at xu xv xw xy yi)); (try have Zf : w.heap.size + 1 + 1 < w14.heap.size := by omega); (try (obtain ⟨kq, za⟩ := cfAt hb14 (w12.heap.size); have qj := kq 0; have qk := kq 1; have ql := kq 2; have qm := kq 3; clear kq; simp [go_sem, *] at qj qk ql qm za)); (try have dx : w12.heap.size < w14.heap.size := by omega); (try clear yu yv kj); (try clear kl); (try clear yw yx yz va km); (try clear kn); (try clear vb vc vd vf ko); (try clear kp); (try clear xd xe yd); (try clear kf); (try clear xf xg xh xi ye); (try clear kh); (try clear xj xk xl xm yf); (try clear ki); (try clear fa fb Zg); (try clear Zh); (try clear fc fd fe ff Zi); (try clear Zj); (try clear fh fi fj fk Zk); (try clear Zl); (try clear fl fm Zm); (try clear Zn); (try clear fn fo fp fq Zo); (try clear Zp); (try clear ft fu fv fw Zq); (try clear Zr); (try clear gm gn gr gt ba); (try clear bc)))
    have qd := (hb14.block (w.heap.size + 1 + 1) (blk_lt' qg.out)).trans qg.out
    clear ug uh ui uj dv qg
    obtain ⟨jj, jk, jl, jm, uo, Jh⟩ := bk4 qd
    replace qd := Lib.hid qd
    have qe := (hb14.block (w12.heap.size) (blk_lt' qh.out)).trans qh.out
    clear uk ul um un dw qh
    obtain ⟨jn, jo, jp, jq, uq, Ji⟩ := bk4 qe
    replace qe := Lib.hid qe
    replace hp9 := hp9.below hb14
    replace hq11 := hq11.below hb14
    have hB14 : Below w.heap.size w w14 := below_via hb14 (by assumption) (by go_size)
    replace qd := qd.out
    replace qe := qe.out
    refine chk (fun W => Below w.heap.size w W ∧ W.heap[w.heap.size + 1 + 1]? = some (.cells #[.bool false, .slice none 0 0, .bool false, .slice none 0 0] 107 (0, 0))) (by refine ⟨?_, ?_⟩ <;> (exact ck)) ?_
    clear jj jk jl jm uo qd
    clear jn jo jp jq uq qe
    clear hB14
    rintro w15 ⟨hB15, qi⟩
    obtain ⟨jr, jt, ju, jv, Jj, Jk⟩ := bk4 qi
    replace qi := Lib.hid qi
    clear TO1 TO2 TD TG lt1 ls1 hA hBB
    iterate 24 (first | (with_reducible show bodyPost _ _ _ _ _ _) | (with_reducible refine wp_ret ?_) | go_values | go_skip | go_guarded | go_step | go_upon | go_back | skip)
    refine bodyPost_ret (v := .tuple #[.agg #[.bool false, .slice none 0 0, .bool false, .slice none 0 0], .bool false]) (by simp [results, Tryz.results97, go_sem, jr, jt, ju, jv]) rfl ⟨_, _, _, _, _, _, _, _, rfl, Wx.zero' _, Wx.zero' _, fr_none _, fr_none _, ?_⟩
    have HO := qi.out
    (exact ck)
  ·skip
   have hb4f : b4 = false := by rw [hb4n.out]; simp [ngB, hneg]
   obtain rfl : t1 = t := by rw [← HT1.out]; simp [sgZ, hneg]
   obtain rfl : s1 = s := by rw [← HS1.out]; simp [sgZ, hneg]
   go_upto_region 7 with (fail)
   clear hb4f
   obtain ⟨b5, rfl⟩ : ∃ b, b = b3 := ⟨_, rfl⟩
   obtain ⟨a5, rfl⟩ : ∃ b, b = a3 := ⟨_, rfl⟩
   obtain ⟨n5, rfl⟩ : ∃ b, b = n3 := ⟨_, rfl⟩
   obtain ⟨c5, rfl⟩ : ∃ b, b = c3 := ⟨_, rfl⟩
   obtain ⟨b6, rfl⟩ : ∃ b, b = b4 := ⟨_, rfl⟩
   obtain ⟨a6, rfl⟩ : ∃ b, b = a4 := ⟨_, rfl⟩
   obtain ⟨n6, rfl⟩ : ∃ b, b = n4 := ⟨_, rfl⟩
   obtain ⟨c6, rfl⟩ : ∃ b, b = c4 := ⟨_, rfl⟩
   have ht5 := ht
   have hs6 := hs
   clear ht hs
   replace zh := zh.out
   replace qy := qy.out
   replace zi := zi.out
   replace zj := zj.out
   refine chk (fun W => Below w.heap.size w W ∧ W.heap[w.heap.size]? = some (.cells #[.int .i64 A, .int .i64 B] 32 (0, 0)) ∧ W.heap[w.heap.size + 1 + 1]? = some (.cells #[.bool false, .slice none 0 0, .bool false, .slice none 0 0] 107 (0, 0)) ∧ W.heap[qf]? = some (.cells #[.bool b5, .slice a5 n5 c5] 80 (0, 0)) ∧ W.heap[qc]? = some (.cells #[.bool b6, .slice a6 n6 c6] 80 (0, 0)) ∧ Wx W b5 a5 n5 c5 t1 ∧ Wx W b6 a6 n6 c6 s1) (by refine ⟨?_, ?_, ?_, ?_, ?_, ?_, ?_⟩ <;> (exact ck)) ?_
   try clear ht5
   try clear hs6
   clear Qm Qn Jv zh
   clear bd bf bg bh Jw qy
   clear Qo Qp Jx zi
   clear Qq Qr Jy zj
   clear hB3
   rintro w7 ⟨hB7, zk, zm, zn, zo, ht5', hs6'⟩
   obtain ⟨Qu, Qv, Jz, Hi⟩ := bk2 zk
   replace zk := Lib.hid zk
   obtain ⟨Qw, Qx, Qy, Qz, Ya, Hj⟩ := bk4 zm
   replace zm := Lib.hid zm
   obtain ⟨Xa, Xb, Yb, Hk⟩ := bk2 zn
   replace zn := Lib.hid zn
   obtain ⟨Xc, Xd, Yc, Hl⟩ := bk2 zo
   replace zo := Lib.hid zo
   have ht5 := ht5'
   clear ht5'
   have hs6 := hs6'
   clear hs6'
   go_upto_region 8 with (first | (have _t := tok8; go_at_call 115; (with_reducible refine ((TD _ _ _ _ _ _ _ _ _ (ht5.below bel) (hs6.below bel))).mono ?_); rintro e w8 ⟨rfl, hb8⟩; clear tok8 _t; have hz8 := hb8.size; (try simp only [sA, sB, sC, sD] at hz8); (try (obtain ⟨kq, vw⟩ := cfAt hb8 (w.heap.size); have zy := kq 0; have ja := kq 1; clear kq; simp [go_sem, *] at zy ja vw)); (try have px : w.heap.size < w8.heap.size := by omega); (try (obtain ⟨kq, vy⟩ := cfAt hb8 (w.heap.size + 1); have jb := kq 0; have jc := kq 1; have jd := kq 2; have je := kq 3; clear kq; simp [go_sem, *] at jb jc jd je vy)); (try have dc : w.heap.size + 1 < w8.heap.size := by omega); (try (obtain ⟨kq, wc⟩ := cfAt hb8 (w.heap.size + 1 + 1); have jf := kq 0; have jg := kq 1; have jh := kq 2; have ji := kq 3; clear kq; simp [go_sem, *] at jf jg jh ji wc)); (try have de : w.heap.size + 1 + 1 < w8.heap.size := by omega); (try (obtain ⟨kq, ka⟩ := cfAt hb8 (qf); have yn := kq 0; have yo := kq 1; clear kq; simp [go_sem, *] at yn yo ka)); (try have Xe : qf < w8.heap.size := by omega); (try (obtain ⟨kq, yc⟩ := cfAt hb8 (qc); have qz := kq 0; have xc := kq 1; clear kq; simp [go_sem, *] at qz xc yc)); (try have kb : qc < w8.heap.size := by omega); (try clear kt ku mi); (try clear Zs); (try clear kw kx ky kz mj); (try clear Zt); (try clear pc pd pe pf ml); (try clear Zu); (try clear us ut bi); (try clear Qs); (try clear uw uy bj); (try clear Qt); (try clear pg ph mq); (try clear mr); (try clear pi pj pk pm mu); (try clear mv); (try clear pn po pp pq mw); (try clear mx); (try clear gc ge cg); (try clear ch); (try clear gh gk ci); (try clear cj); (try clear vk vm pu); (try clear mn); (try clear vn vo vp vq pv); (try clear mo); (try clear vr vt vu vv pw); (try clear mp); (try clear yj yk gu); (try clear ce); (try clear yl ym gy); (try clear cf); (try clear wd wg df); (try clear dg); (try clear wi wj wk wl dh); (try clear di); (try clear wm wn wq ws dj); (try clear dk); (try clear dl dm Xf); (try clear Xg); (try clear yp yq kc); (try clear kd)))
   have zp := (hb8.block (w.heap.size) (blk_lt' zk.out)).trans zk.out
   clear Qu Qv Jz zk
   obtain ⟨Xh, Xi, Yd, Hm⟩ := bk2 zp
   replace zp := Lib.hid zp
   have zq := (hb8.block (w.heap.size + 1 + 1) (blk_lt' zm.out)).trans zm.out
   clear Qw Qx Qy Qz Ya zm
   obtain ⟨Xj, Xk, Xl, Xm, Ye, Hn⟩ := bk4 zq
   replace zq := Lib.hid zq
   have zr := (hb8.block (qf) (blk_lt' zn.out)).trans zn.out
   clear Xa Xb Yb zn
   obtain ⟨Xn, Xo, Yf, Ho⟩ := bk2 zr
   replace zr := Lib.hid zr
   have zt := (hb8.block (qc) (blk_lt' zo.out)).trans zo.out
   clear Xc Xd Yc zo
   obtain ⟨Xp, Xq, Yg, Hp⟩ := bk2 zt
   replace zt := Lib.hid zt
   replace ht5 := ht5.below hb8
   replace hs6 := hs6.below hb8
   have hB8 : Below w.heap.size w w8 := below_via hb8 (by assumption) (by go_size)
   go_upto_region 9 with (first | (have _t := tok9; go_at_call 116; (with_reducible refine ((TO1 _ _ _ _ _ (ht5.below bel))).mono ?_); rintro e w9 ⟨b9, a9, n9, c9, r9, rfl, hp9, f9, hb9⟩; clear tok9 _t; have hz9 := hb9.size; (try simp only [sA, sB, sC, sD] at hz9); (try (obtain ⟨kq, dn⟩ := cfAt hb9 (w.heap.size); have wt := kq 0; have wu := kq 1; clear kq; simp [go_sem, *] at wt wu dn)); (try have Zv : w.heap.size < w9.heap.size := by omega); (try (obtain ⟨kq, dq⟩ := cfAt hb9 (w.heap.size + 1); have wv := kq 0; have ww := kq 1; have wy := kq 2; have wz := kq 3; clear kq; simp [go_sem, *] at wv ww wy wz dq)); (try have Zw : w.heap.size + 1 < w9.heap.size := by omega); (try (obtain ⟨kq, dr⟩ := cfAt hb9 (w.heap.size + 1 + 1); have uc := kq 0; have ud := kq 1; have ue := kq 2; have uf := kq 3; clear kq; simp [go_sem, *] at uc ud ue uf dr)); (try have Zx : w.heap.size + 1 + 1 < w9.heap.size := by omega); (try (obtain ⟨kq, Xr⟩ := cfAt hb9 (qf); have dt := kq 0; have du := kq 1; clear kq; simp [go_sem, *] at dt du Xr)); (try have Uk : qf < w9.heap.size := by omega); (try (obtain ⟨kq, ke⟩ := cfAt hb9 (qc); have yr := kq 0; have yt := kq 1; clear kq; simp [go_sem, *] at yr yt ke)); (try have Xs : qc < w9.heap.size := by omega); (try clear pg ph mq); (try clear mr); (try clear pi pj pk pm mu); (try clear mv); (try clear pn po pp pq mw); (try clear mx); (try clear gc ge cg); (try clear ch); (try clear gh gk ci); (try clear cj); (try clear vk vm pu); (try clear mn); (try clear vn vo vp vq pv); (try clear mo); (try clear vr vt vu vv pw); (try clear mp); (try clear yj yk gu); (try clear ce); (try clear yl ym gy); (try clear cf); (try clear wd wg df); (try clear dg); (try clear wi wj wk wl dh); (try clear di); (try clear wm wn wq ws dj); (try clear dk); (try clear dl dm Xf); (try clear Xg); (try clear yp yq kc); (try clear kd); (try clear zy ja vw); (try clear px); (try clear jb jc jd je vy); (try clear dc); (try clear jf jg jh ji wc); (try clear de); (try clear yn yo ka); (try clear Xe); (try clear qz xc yc); (try clear kb)))
   have zu := (hb9.block (w.heap.size) (blk_lt' zp.out)).trans zp.out
   clear Xh Xi Yd zp
   obtain ⟨Xt, Xu, Yh, Hq⟩ := bk2 zu
   replace zu := Lib.hid zu
   have zv := (hb9.block (w.heap.size + 1 + 1) (blk_lt' zq.out)).trans zq.out
   clear Xj Xk Xl Xm Ye zq
   obtain ⟨Xv, Xw, Xx, Xy, Yi, Hr⟩ := bk4 zv
   replace zv := Lib.hid zv
   have zw := (hb9.block (qf) (blk_lt' zr.out)).trans zr.out
   clear Xn Xo Yf zr
   obtain ⟨Xz, Za, Yj, Hs⟩ := bk2 zw
   replace zw := Lib.hid zw
   have zx := (hb9.block (qc) (blk_lt' zt.out)).trans zt.out
   clear Xp Xq Yg zt
   obtain ⟨Zb, Zc, Yk, Ht⟩ := bk2 zx
   replace zx := Lib.hid zx
   replace ht5 := ht5.below hb9
   replace hs6 := hs6.below hb9
   have hB9 : Below w.heap.size w w9 := below_via hb9 (by assumption) (by go_size)
   have F9 : Fr w.heap.size a9 := f9.mono (by have := hB8.size; first | omega | go_size)
   clear f9
   replace zu := zu.out
   replace zv := zv.out
   replace zw := zw.out
   replace zx := zx.out
   refine chk (fun W => Below w.heap.size w W ∧ W.heap[w.heap.size + 1 + 1]? = some (.cells #[.bool false, .slice none 0 0, .bool false, .slice none 0 0] 107 (0, 0)) ∧ W.heap[qc]? = some (.cells #[.bool b6, .slice a6 n6 c6] 80 (0, 0)) ∧ W.heap[w9.heap.size]? = some (.cells #[.bool b9, .slice a9 n9 c9] 80 (0, 0)) ∧ Wx W b6 a6 n6 c6 s1 ∧ Wx W b9 a9 n9 c9 p) (by refine ⟨?_, ?_, ?_, ?_, ?_, ?_⟩ <;> (exact ck)) ?_
   try clear hs6
   try clear hp9
   clear Xt Xu Yh zu
   clear Xv Xw Xx Xy Yi zv
   clear Xz Za Yj zw
   clear Zb Zc Yk zx
   clear hB9
   rintro w10 ⟨hB10, qn, qo, qq, hs6', hp9'⟩
   obtain ⟨ct, cu, cw, cx, Zy, Ux⟩ := bk4 qn
   replace qn := Lib.hid qn
   obtain ⟨cy, cz, Zz, Uy⟩ := bk2 qo
   replace qo := Lib.hid qo
   obtain ⟨nc, nd, Ja, Uz⟩ := bk2 qq
   replace qq := Lib.hid qq
   have hs6 := hs6'
   clear hs6'
   have hp9 := hp9'
   clear hp9'
   go_upto_region 10 with (first | (have _t := tok11; go_at_call 116; (with_reducible refine ((TO2 _ _ _ _ _ (hs6.below bel))).mono ?_); rintro e w11 ⟨b11, a11, n11, c11, r11, rfl, hq11, f11, hb11⟩; clear tok11 _t; have hz11 := hb11.size; (try simp only [sA, sB, sC, sD] at hz11); (try (obtain ⟨kq, yd⟩ := cfAt hb11 (w.heap.size); have xd := kq 0; have xe := kq 1; clear kq; simp [go_sem, *] at xd xe yd)); (try have kf : w.heap.size < w11.heap.size := by omega); (try (obtain ⟨kq, ye⟩ := cfAt hb11 (w.heap.size + 1); have xf := kq 0; have xg := kq 1; have xh := kq 2; have xi := kq 3; clear kq; simp [go_sem, *] at xf xg xh xi ye)); (try have kh : w.heap.size + 1 < w11.heap.size := by omega); (try (obtain ⟨kq, yf⟩ := cfAt hb11 (w.heap.size + 1 + 1); have xj := kq 0; have xk := kq 1; have xl := kq 2; have xm := kq 3; clear kq; simp [go_sem, *] at xj xk xl xm yf)); (try have ki : w.heap.size + 1 + 1 < w11.heap.size := by omega); (try (obtain ⟨kq, nf⟩ := cfAt hb11 (qc); have pr := kq 0; have pt := kq 1; clear kq; simp [go_sem, *] at pr pt nf)); (try have Vo : qc < w11.heap.size := by omega); (try clear wd wg df); (try clear dg); (try clear wi wj wk wl dh); (try clear di); (try clear wm wn wq ws dj); (try clear dk); (try clear yp yq kc); (try clear kd); (try clear zy ja vw); (try clear px); (try clear jb jc jd je vy); (try clear dc); (try clear jf jg jh ji wc); (try clear de); (try clear qz xc yc); (try clear kb); (try clear wt wu dn); (try clear Zv); (try clear wv ww wy wz dq); (try clear Zw); (try clear uc ud ue uf dr); (try clear Zx); (try clear yr yt ke); (try clear Xs); (try clear yu yv kj); (try clear kl); (try clear yw yx yz va km); (try clear kn); (try clear vb vc vd vf ko); (try clear kp); (try clear Yl Ym Vp); (try clear Vq)))
   have qr := (hb11.block (w.heap.size + 1 + 1) (blk_lt' qn.out)).trans qn.out
   clear ct cu cw cx Zy qn
   obtain ⟨ng, nh, ni, nj, Jb, Ga⟩ := bk4 qr
   replace qr := Lib.hid qr
   have qt := (hb11.block (qc) (blk_lt' qo.out)).trans qo.out
   clear cy cz Zz qo
   obtain ⟨nk, nl, Jc, Gb⟩ := bk2 qt
   replace qt := Lib.hid qt
   have qu := (hb11.block (w9.heap.size) (blk_lt' qq.out)).trans qq.out
   clear nc nd Ja qq
   obtain ⟨nm, np, Jd, Gc⟩ := bk2 qu
   replace qu := Lib.hid qu
   replace hs6 := hs6.below hb11
   replace hp9 := hp9.below hb11
   have hB11 : Below w.heap.size w w11 := below_via hb11 (by assumption) (by go_size)
   have F11 : Fr w.heap.size a11 := f11.mono (by have := hB10.size; first | omega | go_size)
   clear f11
   replace qr := qr.out
   replace qt := qt.out
   replace qu := qu.out
   refine chk (fun W => Below w.heap.size w W ∧ W.heap[w.heap.size + 1 + 1]? = some (.cells #[.bool false, .slice none 0 0, .bool false, .slice none 0 0] 107 (0, 0)) ∧ W.heap[w9.heap.size]? = some (.cells #[.bool b9, .slice a9 n9 c9] 80 (0, 0)) ∧ W.heap[w11.heap.size]? = some (.cells #[.bool b11, .slice a11 n11 c11] 80 (0, 0)) ∧ Wx W b9 a9 n9 c9 p ∧ Wx W b11 a11 n11 c11 q) (by refine ⟨?_, ?_, ?_, ?_, ?_, ?_⟩ <;> (exact ck)) ?_
   try clear hp9
   try clear hq11
   clear ng nh ni nj Jb qr
   clear nk nl Jc qt
   clear nm np Jd qu
   clear hB11
   rintro w12 ⟨hB12, qv, qw, qx, hp9', hq11'⟩
   obtain ⟨nr, nt, nu, nx, Je, Gd⟩ := bk4 qv
   replace qv := Lib.hid qv
   obtain ⟨ny, nz, Jf, Ge⟩ := bk2 qw
   replace qw := Lib.hid qw
   obtain ⟨ma, mb, Jg, Gf⟩ := bk2 qx
   replace qx := Lib.hid qx
   have hp9 := hp9'
   clear hp9'
   have hq11 := hq11'
   clear hq11'
   go_upto_region 11 with (fail)
   replace qv := qv.out
   replace qw := qw.out
   replace qx := qx.out
   refine chk (fun W => Below w.heap.size w W ∧ W.heap[w.heap.size + 1 + 1]? = some (.cells #[.bool false, .slice none 0 0, .bool false, .slice none 0 0] 107 (0, 0)) ∧ W.heap[w12.heap.size]? = some (.cells #[.bool b9, .slice a9 n9 c9, .bool b11, .slice a11 n11 c11] 107 (0, 0)) ∧ Wx W b9 a9 n9 c9 p ∧ Wx W b11 a11 n11 c11 q) (by refine ⟨?_, ?_, ?_, ?_, ?_⟩ <;> (exact ck)) ?_
   try clear hp9
   try clear hq11
   clear nr nt nu nx Je qv
   clear ny nz Jf qw
   clear ma mb Jg qx
   clear hB12
   rintro w13 ⟨hB13, qg, qh, hp9', hq11'⟩
   obtain ⟨ug, uh, ui, uj, dv, Gg⟩ := bk4 qg
   replace qg := Lib.hid qg
   obtain ⟨uk, ul, um, un, dw, Gh⟩ := bk4 qh
   replace qh := Lib.hid qh
   have hp9 := hp9'
   clear hp9'
   have hq11 := hq11'
   clear hq11'
   rcases HRR.out with ⟨rfl, hd⟩ | ⟨rfl, hd⟩
   ·subst hd
    clear HRR
    go_upto_region 13 with (first | (have _t := tok14; go_at_call 117; (with_reducible refine ((TG _ _ _ _ _ _ _ _ _ (hp9.below bel) (hq11.below bel))).mono ?_); rintro e w14 ⟨rfl, hb14⟩; clear tok14 _t; have hz14 := hb14.size; (try simp only [sA, sB, sC, sD] at hz14); (try (obtain ⟨kq, yg⟩ := cfAt hb14 (w.heap.size); have xn := kq 0; have xo := kq 1; clear kq; simp [go_sem, *] at xn xo yg)); (try have Zd : w.heap.size < w14.heap.size := by omega); (try (obtain ⟨kq, yh⟩ := cfAt hb14 (w.heap.size + 1); have xp := kq 0; have xq := kq 1; have xr := kq 2; have xt := kq 3; clear kq; simp [go_sem, *] at xp xq xr xt yh)); (try have Ze : w.heap.size + 1 < w14.heap.size := by omega); (try (obtain ⟨kq, yi⟩ := cfAt hb14 (w.heap.size + 1 + 1); have xu := kq 0; have xv := kq 1; have xw := kq 2; have xy := kq 3; clear kq; simp [go_sem, *] at xu xv xw xy yi)); (try have Zf : w.heap.size + 1 + 1 < w14.heap.size := by omega); (try (obtain ⟨kq, za⟩ := cfAt hb14 (w12.heap.size); have qj := kq 0; have qk := kq 1; have ql := kq 2; have qm := kq 3; clear kq; simp [go_sem, *] at qj qk ql qm za)); (try have dx : w12.heap.size < w14.heap.size := by omega); (try clear yu yv kj); (try clear kl); (try clear yw yx yz va km); (try clear kn); (try clear vb vc vd vf ko); (try clear kp); (try clear xd xe yd); (try clear kf); (try clear xf xg xh xi ye); (try clear kh); (try clear xj xk xl xm yf); (try clear ki); (try clear fa fb Zg); (try clear Zh); (try clear fc fd fe ff Zi); (try clear Zj); (try clear fh fi fj fk Zk); (try clear Zl); (try clear fl fm Zm); (try clear Zn); (try clear fn fo fp fq Zo); (try clear Zp); (try clear ft fu fv fw Zq); (try clear Zr); (try clear gm gn gr gt ba); (try clear bc)))
    have qd := (hb14.block (w.heap.size + 1 + 1) (blk_lt' qg.out)).trans qg.out
    clear ug uh ui uj dv qg
    obtain ⟨jj, jk, jl, jm, uo, Jh⟩ := bk4 qd
    replace qd := Lib.hid qd
    have qe := (hb14.block (w12.heap.size) (blk_lt' qh.out)).trans qh.out
    clear uk ul um un dw qh
    obtain ⟨jn, jo, jp, jq, uq, Ji⟩ := bk4 qe
    replace qe := Lib.hid qe
    replace hp9 := hp9.below hb14
    replace hq11 := hq11.below hb14
    have hB14 : Below w.heap.size w w14 := below_via hb14 (by assumption) (by go_size)
    replace qd := qd.out
    replace qe := qe.out
    refine chk (fun W => Below w.heap.size w W ∧ W.heap[w.heap.size + 1 + 1]? = some (.cells #[.bool false, .slice none 0 0, .bool false, .slice none 0 0] 107 (0, 0)) ∧ W.heap[w12.heap.size]? = some (.cells #[.bool b9, .slice a9 n9 c9, .bool b11, .slice a11 n11 c11] 107 (0, 0)) ∧ Wx W b9 a9 n9 c9 p ∧ Wx W b11 a11 n11 c11 q) (by refine ⟨?_, ?_, ?_, ?_, ?_⟩ <;> (exact ck)) ?_
    try clear hp9
    try clear hq11
    clear jj jk jl jm uo qd
    clear jn jo jp jq uq qe
    clear hB14
    rintro w15 ⟨hB15, qi, ur, hp9', hq11'⟩
    obtain ⟨jr, jt, ju, jv, Jj, Jk⟩ := bk4 qi
    replace qi := Lib.hid qi
    obtain ⟨Vr, Vs, Vt, Vu, Gi, Gj⟩ := bk4 ur
    replace ur := Lib.hid ur
    have hp9 := hp9'
    clear hp9'
    have hq11 := hq11'
    clear hq11'
    clear TO1 TO2 TD TG lt1 ls1 hA hBB
    have hON : w.heap.size + 1 + 1 ≠ w12.heap.size := by omega
    iterate 24 (first | (with_reducible show bodyPost _ _ _ _ _ _) | (with_reducible refine wp_ret ?_) | go_values | go_skip | go_guarded | go_step | go_upon | go_back | skip)
    refine bodyPost_ret (v := .tuple #[.agg #[.bool b9, .slice a9 n9 c9, .bool b11, .slice a11 n11 c11], .bool true]) (by simp [results, Tryz.results97, go_sem, jr, jt, ju, jv]) rfl ⟨_, _, _, _, _, _, _, _, rfl, ?_, ?_, F9, F11, ?_⟩
    all_goals (have HO := qi.out)
    ·(exact ck)
    ·(exact ck)
    ·(exact ck)
   ·subst hd
    clear HRR
    go_upto_region 12 with (first | (have _t := tok14; go_at_call 117; (with_reducible refine ((TG _ _ _ _ _ _ _ _ _ (hp9.below bel) (hq11.below bel))).mono ?_); rintro e w14 ⟨rfl, hb14⟩; clear tok14 _t; have hz14 := hb14.size; (try simp only [sA, sB, sC, sD] at hz14); (try (obtain ⟨kq, yg⟩ := cfAt hb14 (w.heap.size); have xn := kq 0; have xo := kq 1; clear kq; simp [go_sem, *] at xn xo yg)); (try have Zd : w.heap.size < w14.heap.size := by omega); (try (obtain ⟨kq, yh⟩ := cfAt hb14 (w.heap.size + 1); have xp := kq 0; have xq := kq 1; have xr := kq 2; have xt := kq 3; clear kq; simp [go_sem, *] at xp xq xr xt yh)); (try have Ze : w.heap.size + 1 < w14.heap.size := by omega); (try (obtain ⟨kq, yi⟩ := cfAt hb14 (w.heap.size + 1 + 1); have xu := kq 0; have xv := kq 1; have xw := kq 2; have xy := kq 3; clear kq; simp [go_sem, *] at xu xv xw xy yi)); (try have Zf : w.heap.size + 1 + 1 < w14.heap.size := by omega); (try (obtain ⟨kq, za⟩ := cfAt hb14 (w12.heap.size); have qj := kq 0; have qk := kq 1; have ql := kq 2; have qm := kq 3; clear kq; simp [go_sem, *] at qj qk ql qm za)); (try have dx : w12.heap.size < w14.heap.size := by omega); (try clear yu yv kj); (try clear kl); (try clear yw yx yz va km); (try clear kn); (try clear vb vc vd vf ko); (try clear kp); (try clear xd xe yd); (try clear kf); (try clear xf xg xh xi ye); (try clear kh); (try clear xj xk xl xm yf); (try clear ki); (try clear fa fb Zg); (try clear Zh); (try clear fc fd fe ff Zi); (try clear Zj); (try clear fh fi fj fk Zk); (try clear Zl); (try clear fl fm Zm); (try clear Zn); (try clear fn fo fp fq Zo); (try clear Zp); (try clear ft fu fv fw Zq); (try clear Zr); (try clear gm gn gr gt ba); (try clear bc)))
    have qd := (hb14.block (w.heap.size + 1 + 1) (blk_lt' qg.out)).trans qg.out
    clear ug uh ui uj dv qg
    obtain ⟨jj, jk, jl, jm, uo, Jh⟩ := bk4 qd
    replace qd := Lib.hid qd
    have qe := (hb14.block (w12.heap.size) (blk_lt' qh.out)).trans qh.out
    clear uk ul um un dw qh
    obtain ⟨jn, jo, jp, jq, uq, Ji⟩ := bk4 qe
    replace qe := Lib.hid qe
    replace hp9 := hp9.below hb14
    replace hq11 := hq11.below hb14
    have hB14 : Below w.heap.size w w14 := below_via hb14 (by assumption) (by go_size)
    replace qd := qd.out
    replace qe := qe.out
    refine chk (fun W => Below w.heap.size w W ∧ W.heap[w.heap.size + 1 + 1]? = some (.cells #[.bool false, .slice none 0 0, .bool false, .slice none 0 0] 107 (0, 0))) (by refine ⟨?_, ?_⟩ <;> (exact ck)) ?_
    clear jj jk jl jm uo qd
    clear jn jo jp jq uq qe
    clear hB14
    rintro w15 ⟨hB15, qi⟩
    obtain ⟨jr, jt, ju, jv, Jj, Jk⟩ := bk4 qi
    replace qi := Lib.hid qi
    clear TO1 TO2 TD TG lt1 ls1 hA hBB
    iterate 24 (first | (with_reducible show bodyPost _ _ _ _ _ _) | (with_reducible refine wp_ret ?_) | go_values | go_skip | go_guarded | go_step | go_upon | go_back | skip)
    refine bodyPost_ret (v := .tuple #[.agg #[.bool false, .slice none 0 0, .bool false, .slice none 0 0], .bool false]) (by simp [results, Tryz.results97, go_sem, jr, jt, ju, jv]) rfl ⟨_, _, _, _, _, _, _, _, rfl, Wx.zero' _, Wx.zero' _, fr_none _, fr_none _, ?_⟩
    have HO := qi.out
    (exact ck)
end
section
open Go.RowKit
set_option linter.unusedVariables false
set_option maxHeartbeats 1000000
set_option maxRecDepth 20000
set_option linter.unusedSimpArgs false
attribute [local go_sem] openAt openUpon
theorem sg_div {d s : Int} (hd : 1 ≤ d) (h : d ∣ s) : (s / d < 0 ↔ s < 0) := by
 obtain ⟨q, rfl⟩ := h
 rw [Int.mul_ediv_cancel_left _ (by omega)]
 constructor
 ·intro hq
  exact Int.mul_neg_of_pos_of_neg (by omega) hq
 ·intro hq
  rcases Int.lt_or_le q 0 with h' | h'
  ·exact h'
  ·have := Int.mul_nonneg (show 0 ≤ d by omega) h'; omega
theorem doubleX_any (A B x z : Int) (b b2 : Bool) (a a2 : Option Addr) (n c n2 c2 : Nat) (w : World) (hA : -1000 ≤ A ∧ A ≤ 1000) (hBB : -10000 ≤ B ∧ B ≤ 10000) (hcv : coV A B ≠ 0) (hx : Wx w b a n c x) (hz : Wx w b2 a2 n2 c2 z) (lx : ln x ≤ 80) (lz : ln z ≤ 80) :
  Calls Tryz.prog 105 #[.agg #[.int .i64 A, .int .i64 B], .agg #[.bool b, .slice a n c, .bool b2, .slice a2 n2 c2]] w (NewRR w (dbl (4 * absI (coV A B)) A B x z).1 (dbl (4 * absI (coV A B)) A B x z).2.1 (dbl (4 * absI (coV A B)) A B x z).2.2) := by
 obtain ⟨t, ht0⟩ : ∃ v, topZ A B x z = v := ⟨_, rfl⟩
 obtain ⟨s, hs0⟩ : ∃ v, botZ A B x z = v := ⟨_, rfl⟩
 obtain ⟨d, hd0⟩ : ∃ v, dvZ (4 * absI (coV A B)) t s = v := ⟨_, rfl⟩
 have TT : ∀ W, Wx W b a n c x → Wx W b2 a2 n2 c2 z → Calls Tryz.prog 124 #[.agg #[.int .i64 A, .int .i64 B], .agg #[.bool b, .slice a n c, .bool b2, .slice a2 n2 c2]] W (NewW W t) := fun W h1 h2 => numeratorOf_eq hA hBB h1 h2 lx lz ht0
 have TS : ∀ W, Wx W b a n c x → Wx W b2 a2 n2 c2 z → Calls Tryz.prog 104 #[.agg #[.int .i64 A, .int .i64 B], .agg #[.bool b, .slice a n c, .bool b2, .slice a2 n2 c2]] W (NewW W s) := fun W h1 h2 => denominatorOf_eq hA hBB h1 h2 lx lz hs0
 have TV : ∀ W, Wx W b a n c x → Wx W b2 a2 n2 c2 z → Calls Tryz.prog 122 #[.agg #[.int .i64 A, .int .i64 B], .agg #[.bool b, .slice a n c, .bool b2, .slice a2 n2 c2]] W fun e w' => e = .returned (.int .i64 d) ∧ Below W.heap.size W w' := fun W h1 h2 => divisorTaken_eq hA hBB hcv h1 h2 lx lz ht0 hs0 hd0
 have hlt : ln t ≤ 8000 := by rw [← ht0]; exact top_ln hA hBB lx lz
 have hls : ln s ≤ 8000 := by rw [← hs0]; exact bot_ln hA hBB lx lz
 have hN : 1 ≤ 4 * absI (coV A B) := by unfold absI; omega
 have hd1 := dv_pos (n := 4 * absI (coV A B)) (t := t) (b := s) (by omega)
 have hd2 := dv_le (n := 4 * absI (coV A B)) (t := t) (b := s) (by omega)
 have hcb := coV_bd hA hBB
 have hab : absI (coV A B) ≤ 6700000000 := by unfold absI; omega
 have hsg := sg_div (d := d) (s := s) (by omega) (by rw [← hd0]; exact dv_bot _ _ _)
 obtain ⟨p, hp⟩ : ∃ v, t / d = v := ⟨_, rfl⟩
 obtain ⟨q, hq⟩ : ∃ v, s / d = v := ⟨_, rfl⟩
 have lnp : ln p ≤ 8000 := by rw [← hp]; exact Nat.le_trans (ln_div (by omega) (by rw [← hd0]; exact dv_top _ _ _)) hlt
 have lnq : ln q ≤ 8000 := by rw [← hq]; exact Nat.le_trans (ln_div (by omega) (by rw [← hd0]; exact dv_bot _ _ _)) hls
 have TO1 : ∀ W (b : Bool) (a : Option Addr) (n c : Nat), Wx W b a n c t → Calls Tryz.prog 123 #[.agg #[.bool b, .slice a n c], .int .i64 d] W (NewQp W p) := fun W b a n c h1 => (divWhole_any h1 (by omega) (by omega) (by omega)).mono fun e w' h => h.qp hp
 have TO2 : ∀ W (b : Bool) (a : Option Addr) (n c : Nat), Wx W b a n c s → Calls Tryz.prog 123 #[.agg #[.bool b, .slice a n c], .int .i64 d] W (NewQp W q) := fun W b a n c h1 => (divWhole_any h1 (by omega) (by omega) (by omega)).mono fun e w' h => h.qp hq
 have hD : (s = 0 ∧ dbl (4 * absI (coV A B)) A B x z = (0, 0, false)) ∨ (s ≠ 0 ∧ (raB (sgZ s p) (sgZ s q) = true ∧ dbl (4 * absI (coV A B)) A B x z = (sgZ s p, sgZ s q, true) ∨ raB (sgZ s p) (sgZ s q) = false ∧ dbl (4 * absI (coV A B)) A B x z = (0, 0, false))) := by
  have e1 : dbN (4 * absI (coV A B)) t s = sgZ s p := by unfold dbN; rw [hd0, hp]
  have e2 : dbD (4 * absI (coV A B)) t s = sgZ s q := by unfold dbD; rw [hd0, hq]
  unfold dbl
  rw [ht0, hs0, e1, e2]
  by_cases h : s = 0
  ·left; exact ⟨h, by rw [if_pos h]⟩
  ·right
   refine ⟨h, ?_⟩
   rw [if_neg h]
   cases hr : raB (sgZ s p) (sgZ s q)
   ·right; exact ⟨rfl, by simp⟩
   ·left; exact ⟨rfl, by simp⟩
 rw [hq] at hsg
 generalize dbl (4 * absI (coV A B)) A B x z = DB at *
 clear ht0 hs0 hd0 hp hq hd1 hd2 hcb hab hN hcv
 have HD := Lib.hid hD
 clear hD
 have tok1 := trivial
 have tok2 := trivial
 have tok3 := trivial
 have tok4 := trivial
 have tok5 := trivial
 have tok6 := trivial
 have tok7 := trivial
 have tok8 := trivial
 have tok9 := trivial
 have tok10 := trivial
 have tok11 := trivial
 have tok12 := trivial
 have tok13 := trivial
 have tok14 := trivial
 have tok15 := trivial
 have tok16 := trivial
 have tok17 := trivial
 have tok18 := trivial
 have tok19 := trivial
 have tok20 := trivial
 have tok21 := trivial
 have tok22 := trivial
 have tok23 := trivial
 have tok24 := trivial
 go_enter Tryz.func105, Tryz.ntmps105
 go_upto_region 1 with (fail)
 refine chk (fun W => Below w.heap.size w W ∧ W.heap[w.heap.size]? = some (.cells #[.int .i64 A, .int .i64 B] 32 (0, 0)) ∧ W.heap[w.heap.size + 1]? = some (.cells #[.bool b, .slice a n c, .bool b2, .slice a2 n2 c2] 107 (0, 0)) ∧ W.heap[w.heap.size + 1 + 1]? = some (.cells #[.bool false, .slice none 0 0, .bool false, .slice none 0 0] 107 (0, 0)) ∧ Wx W b a n c x ∧ Wx W b2 a2 n2 c2 z) (by refine ⟨?_, ?_, ?_, ?_, ?_, ?_⟩ <;> (exact ck)) ?_
 try clear hx
 try clear hz
 rintro w1 ⟨hB1, vt, vu, vv, hx', hz'⟩
 obtain ⟨Qa, Qb, Zy, Yv⟩ := bk2 vt
 replace vt := Lib.hid vt
 obtain ⟨Qc, Qd, Qe, Qf, Zz, Yw⟩ := bk4 vu
 replace vu := Lib.hid vu
 obtain ⟨Qg, Qh, Qi, Qj, Ja, Yx⟩ := bk4 vv
 replace vv := Lib.hid vv
 have hx := hx'
 clear hx'
 have hz := hz'
 clear hz'
 go_upto_region 2 with (first | (have _t := tok2; go_at_call 104; (with_reducible refine ((TS _ (hx.below bel) (hz.below bel))).mono ?_); rintro e w2 ⟨b3, a3, n3, c3, rfl, hs3, f3, hb2⟩; clear tok2 _t; have hz2 := hb2.size; (try simp only [sA, sB, sC, sD] at hz2); (try (obtain ⟨kq, us⟩ := cfAt hb2 (w.heap.size); have zx := kq 0; have zy := kq 1; clear kq; simp [go_sem, *] at zx zy us)); (try have pn : w.heap.size < w2.heap.size := by omega); (try (obtain ⟨kq, ut⟩ := cfAt hb2 (w.heap.size + 1); have ja := kq 0; have jb := kq 1; have jc := kq 2; have jd := kq 3; clear kq; simp [go_sem, *] at ja jb jc jd ut)); (try have po : w.heap.size + 1 < w2.heap.size := by omega); (try (obtain ⟨kq, uw⟩ := cfAt hb2 (w.heap.size + 1 + 1); have je := kq 0; have jf := kq 1; have jg := kq 2; have jh := kq 3; clear kq; simp [go_sem, *] at je jf jg jh uw)); (try have pp : w.heap.size + 1 + 1 < w2.heap.size := by omega); (try clear pq pr cg); (try clear ch); (try clear pt pu pv pw ci); (try clear cj); (try clear px dc de df cl); (try clear cn)))
 have vw := (hb2.block (w.heap.size) (blk_lt' vt.out)).trans vt.out
 clear Qa Qb Zy vt
 obtain ⟨Qk, Ql, Jb, Yy⟩ := bk2 vw
 replace vw := Lib.hid vw
 have vy := (hb2.block (w.heap.size + 1) (blk_lt' vu.out)).trans vu.out
 clear Qc Qd Qe Qf Zz vu
 obtain ⟨Qm, Qn, Qo, Qp, Jc, Yz⟩ := bk4 vy
 replace vy := Lib.hid vy
 have wc := (hb2.block (w.heap.size + 1 + 1) (blk_lt' vv.out)).trans vv.out
 clear Qg Qh Qi Qj Ja vv
 obtain ⟨Qq, Qr, Qs, Qt, Jd, Va⟩ := bk4 wc
 replace wc := Lib.hid wc
 replace hx := hx.below hb2
 replace hz := hz.below hb2
 have hB2 : Below w.heap.size w w2 := below_via hb2 (by assumption) (by go_size)
 replace vw := vw.out
 replace vy := vy.out
 replace wc := wc.out
 refine chk (fun W => Below w.heap.size w W ∧ W.heap[w.heap.size]? = some (.cells #[.int .i64 A, .int .i64 B] 32 (0, 0)) ∧ W.heap[w.heap.size + 1]? = some (.cells #[.bool b, .slice a n c, .bool b2, .slice a2 n2 c2] 107 (0, 0)) ∧ W.heap[w.heap.size + 1 + 1]? = some (.cells #[.bool false, .slice none 0 0, .bool false, .slice none 0 0] 107 (0, 0)) ∧ W.heap[w2.heap.size]? = some (.cells #[.bool b3, .slice a3 n3 c3] 80 (0, 0)) ∧ Wx W b a n c x ∧ Wx W b2 a2 n2 c2 z ∧ Wx W b3 a3 n3 c3 s) (by refine ⟨?_, ?_, ?_, ?_, ?_, ?_, ?_, ?_⟩ <;> (exact ck)) ?_
 try clear hx
 try clear hz
 try clear hs3
 clear Qk Ql Jb vw
 clear Qm Qn Qo Qp Jc vy
 clear Qq Qr Qs Qt Jd wc
 clear hB2
 rintro w3 ⟨hB3, xu, xv, xw, xy, hx', hz', hs3'⟩
 obtain ⟨fv, fw, mq, Vb⟩ := bk2 xu
 replace xu := Lib.hid xu
 obtain ⟨ba, bc, bd, bf, mr, Vc⟩ := bk4 xv
 replace xv := Lib.hid xv
 obtain ⟨bg, bh, bi, bj, mu, Vd⟩ := bk4 xw
 replace xw := Lib.hid xw
 obtain ⟨bk, bm, mv, Ve⟩ := bk2 xy
 replace xy := Lib.hid xy
 have hx := hx'
 clear hx'
 have hz := hz'
 clear hz'
 have hs3 := hs3'
 clear hs3'
 have hn3b : n3 ≤ 8000 := by rw [hs3.ln]; exact hls
 rcases HD.out with ⟨h0, hd⟩ | ⟨h0, hd⟩
 ·subst hd
  have hn3 : n3 = 0 := by rw [hs3.ln]; exact ln_zero.2 h0
  have hn3' : ((n3 : Int) == 0) = true := by simp; omega
  clear HD h0 hn3 TT TS TV TO1 TO2
  go_upto_region 3 with (fail)
  replace xu := xu.out
  replace xv := xv.out
  replace xw := xw.out
  replace xy := xy.out
  refine chk (fun W => Below w.heap.size w W ∧ W.heap[w.heap.size + 1 + 1]? = some (.cells #[.bool false, .slice none 0 0, .bool false, .slice none 0 0] 107 (0, 0))) (by refine ⟨?_, ?_⟩ <;> (exact ck)) ?_
  clear fv fw mq xu
  clear ba bc bd bf mr xv
  clear bg bh bi bj mu xw
  clear bk bm mv xy
  clear hB3
  rintro w4 ⟨hB4, xp⟩
  obtain ⟨gh, gk, gm, gn, mw, Je⟩ := bk4 xp
  replace xp := Lib.hid xp
  iterate 24 (first | (with_reducible show bodyPost _ _ _ _ _ _) | (with_reducible refine wp_ret ?_) | go_values | go_skip | go_guarded | go_step | go_upon | go_back | skip)
  refine bodyPost_ret (v := .tuple #[.agg #[.bool false, .slice none 0 0, .bool false, .slice none 0 0], .bool false]) (by simp [results, Tryz.results105, go_sem, gh, gk, gm, gn]) rfl ⟨_, _, _, _, _, _, _, _, rfl, Wx.zero' _, Wx.zero' _, fr_none _, fr_none _, ?_⟩
  have HO := xp.out
  (exact ck)
 ·have hn3 : n3 ≠ 0 := by rw [hs3.ln]; exact fun e => h0 (ln_zero.1 e)
  have hn3' : ((n3 : Int) == 0) = false := by simp; omega
  have HR := Lib.hid hd
  clear HD hd hn3
  go_upto_region 4 with (fail)
  go_upto_region 5 with (first | (have _t := tok4; go_at_call 122; (with_reducible refine ((TV _ (hx.below bel) (hz.below bel))).mono ?_); rintro e w4 ⟨rfl, hb4⟩; clear tok4 _t; have hz4 := hb4.size; (try simp only [sA, sB, sC, sD] at hz4); (try (obtain ⟨kq, uy⟩ := cfAt hb4 (w.heap.size); have ji := kq 0; have jj := kq 1; clear kq; simp [go_sem, *] at ji jj uy)); (try have dg : w.heap.size < w4.heap.size := by omega); (try (obtain ⟨kq, gc⟩ := cfAt hb4 (w.heap.size + 1); have jk := kq 0; have jl := kq 1; have jm := kq 2; have jn := kq 3; clear kq; simp [go_sem, *] at jk jl jm jn gc)); (try have dh : w.heap.size + 1 < w4.heap.size := by omega); (try (obtain ⟨kq, ge⟩ := cfAt hb4 (w.heap.size + 1 + 1); have jo := kq 0; have jp := kq 1; have jq := kq 2; have jr := kq 3; clear kq; simp [go_sem, *] at jo jp jq jr ge)); (try have di : w.heap.size + 1 + 1 < w4.heap.size := by omega); (try clear pq pr cg); (try clear ch); (try clear pt pu pv pw ci); (try clear cj); (try clear px dc de df cl); (try clear cn); (try clear zx zy us); (try clear pn); (try clear ja jb jc jd ut); (try clear po); (try clear je jf jg jh uw); (try clear pp); (try clear dj dk co); (try clear cp); (try clear dl dm dn dq cq); (try clear cr); (try clear dr dt du dv ct); (try clear cu)))
  have wd := (hb4.block (w.heap.size) (blk_lt' xu.out)).trans xu.out
  clear fv fw mq xu
  obtain ⟨Qu, Qv, Jf, Vf⟩ := bk2 wd
  replace wd := Lib.hid wd
  have wg := (hb4.block (w.heap.size + 1) (blk_lt' xv.out)).trans xv.out
  clear ba bc bd bf mr xv
  obtain ⟨Qw, Qx, Qy, Qz, Jg, Vg⟩ := bk4 wg
  replace wg := Lib.hid wg
  have xp := (hb4.block (w.heap.size + 1 + 1) (blk_lt' xw.out)).trans xw.out
  clear bg bh bi bj mu xw
  obtain ⟨gh, gk, gm, gn, mw, Je⟩ := bk4 xp
  replace xp := Lib.hid xp
  have wi := (hb4.block (w2.heap.size) (blk_lt' xy.out)).trans xy.out
  clear bk bm mv xy
  obtain ⟨Xa, Xb, Jh, Vh⟩ := bk2 wi
  replace wi := Lib.hid wi
  replace hx := hx.below hb4
  replace hz := hz.below hb4
  replace hs3 := hs3.below hb4
  have hB4 : Below w.heap.size w w4 := below_via hb4 (by assumption) (by go_size)
  go_upto_region 6 with (first | (have _t := tok5; go_at_call 124; (with_reducible refine ((TT _ (hx.below bel) (hz.below bel))).mono ?_); rintro e w5 ⟨b5, a5, n5, c5, rfl, ht5, f5, hb5⟩; clear tok5 _t; have hz5 := hb5.size; (try simp only [sA, sB, sC, sD] at hz5); (try (obtain ⟨kq, dw⟩ := cfAt hb5 (w.heap.size); have ww := kq 0; have wy := kq 1; clear kq; simp [go_sem, *] at ww wy dw)); (try have cw : w.heap.size < w5.heap.size := by omega); (try (obtain ⟨kq, dx⟩ := cfAt hb5 (w.heap.size + 1); have wz := kq 0; have uc := kq 1; have ud := kq 2; have ue := kq 3; clear kq; simp [go_sem, *] at wz uc ud ue dx)); (try have cx : w.heap.size + 1 < w5.heap.size := by omega); (try (obtain ⟨kq, fa⟩ := cfAt hb5 (w.heap.size + 1 + 1); have uf := kq 0; have ug := kq 1; have uh := kq 2; have ui := kq 3; clear kq; simp [go_sem, *] at uf ug uh ui fa)); (try have cy : w.heap.size + 1 + 1 < w5.heap.size := by omega); (try (obtain ⟨kq, gr⟩ := cfAt hb5 (w2.heap.size); have jt := kq 0; have ju := kq 1; clear kq; simp [go_sem, *] at jt ju gr)); (try have bn : w2.heap.size < w5.heap.size := by omega); (try clear pq pr cg); (try clear ch); (try clear pt pu pv pw ci); (try clear cj); (try clear px dc de df cl); (try clear cn); (try clear zx zy us); (try clear pn); (try clear ja jb jc jd ut); (try clear po); (try clear je jf jg jh uw); (try clear pp); (try clear dj dk co); (try clear cp); (try clear dl dm dn dq cq); (try clear cr); (try clear dr dt du dv ct); (try clear cu); (try clear cz nc Xc); (try clear Xd); (try clear ji jj uy); (try clear dg); (try clear jk jl jm jn gc); (try clear dh); (try clear jo jp jq jr ge); (try clear di); (try clear pi pj br); (try clear bu)) | (have _t := tok6; go_at_call 123; (with_reducible refine ((TO1 _ _ _ _ _ ht5)).mono ?_); rintro e w6 ⟨b6, a6, n6, c6, r6, rfl, hp6, f6, hb6⟩; clear tok6 _t; have hz6 := hb6.size; (try simp only [sA, sB, sC, sD] at hz6); (try (obtain ⟨kq, nd⟩ := cfAt hb6 (w.heap.size); have fb := kq 0; have fc := kq 1; clear kq; simp [go_sem, *] at fb fc nd)); (try have Zi : w.heap.size < w6.heap.size := by omega); (try (obtain ⟨kq, nf⟩ := cfAt hb6 (w.heap.size + 1); have fd := kq 0; have fe := kq 1; have ff := kq 2; have fh := kq 3; clear kq; simp [go_sem, *] at fd fe ff fh nf)); (try have Zj : w.heap.size + 1 < w6.heap.size := by omega); (try (obtain ⟨kq, ng⟩ := cfAt hb6 (w.heap.size + 1 + 1); have fi := kq 0; have fj := kq 1; have fk := kq 2; have fl := kq 3; clear kq; simp [go_sem, *] at fi fj fk fl ng)); (try have Zk : w.heap.size + 1 + 1 < w6.heap.size := by omega); (try (obtain ⟨kq, bw⟩ := cfAt hb6 (w2.heap.size); have pk := kq 0; have pm := kq 1; clear kq; simp [go_sem, *] at pk pm bw)); (try have Xe : w2.heap.size < w6.heap.size := by omega); (try clear zx zy us); (try clear pn); (try clear ja jb jc jd ut); (try clear po); (try clear je jf jg jh uw); (try clear pp); (try clear dj dk co); (try clear cp); (try clear dl dm dn dq cq); (try clear cr); (try clear dr dt du dv ct); (try clear cu); (try clear cz nc Xc); (try clear Xd); (try clear ji jj uy); (try clear dg); (try clear jk jl jm jn gc); (try clear dh); (try clear jo jp jq jr ge); (try clear di); (try clear pi pj br); (try clear bu); (try clear ww wy dw); (try clear cw); (try clear wz uc ud ue dx); (try clear cx); (try clear uf ug uh ui fa); (try clear cy); (try clear jt ju gr); (try clear bn)))
  have F6 : Fr w.heap.size a6 := f6.mono (by have := hB4.size; have := hb5.size; omega)
  replace hb6 := below_via hb6 hb5 (by have := hb5.size; omega)
  have wj := (hb6.block (w.heap.size) (blk_lt' wd.out)).trans wd.out
  clear Qu Qv Jf wd
  obtain ⟨Xf, Xg, Ji, Vi⟩ := bk2 wj
  replace wj := Lib.hid wj
  have wk := (hb6.block (w.heap.size + 1) (blk_lt' wg.out)).trans wg.out
  clear Qw Qx Qy Qz Jg wg
  obtain ⟨Xh, Xi, Xj, Xk, Jj, Vj⟩ := bk4 wk
  replace wk := Lib.hid wk
  have wl := (hb6.block (w.heap.size + 1 + 1) (blk_lt' xp.out)).trans xp.out
  clear gh gk gm gn mw xp
  obtain ⟨Xl, Xm, Xn, Xo, Jk, Vk⟩ := bk4 wl
  replace wl := Lib.hid wl
  have wm := (hb6.block (w2.heap.size) (blk_lt' wi.out)).trans wi.out
  clear Xa Xb Jh wi
  obtain ⟨Xp, Xq, Jl, Vl⟩ := bk2 wm
  replace wm := Lib.hid wm
  replace hx := hx.below hb6
  replace hz := hz.below hb6
  replace hs3 := hs3.below hb6
  have hB6 : Below w.heap.size w w6 := below_via hb6 (by assumption) (by go_size)
  clear f6 f5 hn3'
  replace wj := wj.out
  replace wk := wk.out
  replace wl := wl.out
  replace wm := wm.out
  refine chk (fun W => Below w.heap.size w W ∧ W.heap[w.heap.size + 1 + 1]? = some (.cells #[.bool false, .slice none 0 0, .bool false, .slice none 0 0] 107 (0, 0)) ∧ W.heap[w2.heap.size]? = some (.cells #[.bool b3, .slice a3 n3 c3] 80 (0, 0)) ∧ W.heap[w6.heap.size]? = some (.cells #[.bool b6, .slice a6 n6 c6] 80 (0, 0)) ∧ Wx W b3 a3 n3 c3 s ∧ Wx W b6 a6 n6 c6 p) (by refine ⟨?_, ?_, ?_, ?_, ?_, ?_⟩ <;> (exact ck)) ?_
  try clear hs3
  try clear hp6
  clear Xf Xg Ji wj
  clear Xh Xi Xj Xk Jj wk
  clear Xl Xm Xn Xo Jk wl
  clear Xp Xq Jl wm
  clear hB6
  rintro w7 ⟨hB7, wn, wq, ws, hs3', hp6'⟩
  obtain ⟨Xr, Xs, Xt, Xu, Jm, Vm⟩ := bk4 wn
  replace wn := Lib.hid wn
  obtain ⟨Xv, Xw, Jn, Vn⟩ := bk2 wq
  replace wq := Lib.hid wq
  obtain ⟨Xx, Xy, Jo, Vo⟩ := bk2 ws
  replace ws := Lib.hid ws
  have hs3 := hs3'
  clear hs3'
  have hp6 := hp6'
  clear hp6'
  go_upto_region 7 with (first | (have _t := tok8; go_at_call 123; (with_reducible refine ((TO2 _ _ _ _ _ (hs3.below bel))).mono ?_); rintro e w8 ⟨b8, a8, n8, c8, r8, rfl, hq8, f8, hb8⟩; clear tok8 _t; have hz8 := hb8.size; (try simp only [sA, sB, sC, sD] at hz8); (try (obtain ⟨kq, Zl⟩ := cfAt hb8 (w.heap.size); have nl := kq 0; have nm := kq 1; clear kq; simp [go_sem, *] at nl nm Zl)); (try have Yj : w.heap.size < w8.heap.size := by omega); (try (obtain ⟨kq, Zm⟩ := cfAt hb8 (w.heap.size + 1); have np := kq 0; have nr := kq 1; have nt := kq 2; have nu := kq 3; clear kq; simp [go_sem, *] at np nr nt nu Zm)); (try have Yk : w.heap.size + 1 < w8.heap.size := by omega); (try (obtain ⟨kq, Zn⟩ := cfAt hb8 (w.heap.size + 1 + 1); have nx := kq 0; have ny := kq 1; have nz := kq 2; have ma := kq 3; clear kq; simp [go_sem, *] at nx ny nz ma Zn)); (try have Yl : w.heap.size + 1 + 1 < w8.heap.size := by omega); (try (obtain ⟨kq, Xz⟩ := cfAt hb8 (w2.heap.size); have nh := kq 0; have ni := kq 1; clear kq; simp [go_sem, *] at nh ni Xz)); (try have Yg : w2.heap.size < w8.heap.size := by omega); (try clear ji jj uy); (try clear dg); (try clear jk jl jm jn gc); (try clear dh); (try clear jo jp jq jr ge); (try clear di); (try clear pi pj br); (try clear bu); (try clear ww wy dw); (try clear cw); (try clear wz uc ud ue dx); (try clear cx); (try clear uf ug uh ui fa); (try clear cy); (try clear jt ju gr); (try clear bn); (try clear fb fc nd); (try clear Zi); (try clear fd fe ff fh nf); (try clear Zj); (try clear fi fj fk fl ng); (try clear Zk); (try clear pk pm bw); (try clear Xe); (try clear Ju Jv Ym); (try clear Yn); (try clear Jw Jx Jy Jz Yo); (try clear Yp); (try clear Ya Yb Yc Yd Yq); (try clear Yr); (try clear Js Jt Yh); (try clear Yi)))
  have wt := (hb8.block (w.heap.size + 1 + 1) (blk_lt' wn.out)).trans wn.out
  clear Xr Xs Xt Xu Jm wn
  obtain ⟨Za, Zb, Zc, Zd, Jp, Vp⟩ := bk4 wt
  replace wt := Lib.hid wt
  have wu := (hb8.block (w2.heap.size) (blk_lt' wq.out)).trans wq.out
  clear Xv Xw Jn wq
  obtain ⟨Ze, Zf, Jq, Vq⟩ := bk2 wu
  replace wu := Lib.hid wu
  have wv := (hb8.block (w6.heap.size) (blk_lt' ws.out)).trans ws.out
  clear Xx Xy Jo ws
  obtain ⟨Zg, Zh, Jr, Vr⟩ := bk2 wv
  replace wv := Lib.hid wv
  replace hs3 := hs3.below hb8
  replace hp6 := hp6.below hb8
  have hB8 : Below w.heap.size w w8 := below_via hb8 (by assumption) (by go_size)
  have F8 : Fr w.heap.size a8 := f8.mono (by have := hB7.size; omega)
  clear f8
  replace wt := wt.out
  replace wu := wu.out
  replace wv := wv.out
  refine chk (fun W => Below w.heap.size w W ∧ W.heap[w.heap.size + 1 + 1]? = some (.cells #[.bool false, .slice none 0 0, .bool false, .slice none 0 0] 107 (0, 0)) ∧ W.heap[w6.heap.size]? = some (.cells #[.bool b6, .slice a6 n6 c6] 80 (0, 0)) ∧ W.heap[w8.heap.size]? = some (.cells #[.bool b8, .slice a8 n8 c8] 80 (0, 0)) ∧ Wx W b6 a6 n6 c6 p ∧ Wx W b8 a8 n8 c8 q) (by refine ⟨?_, ?_, ?_, ?_, ?_, ?_⟩ <;> (exact ck)) ?_
  try clear hp6
  try clear hq8
  clear Za Zb Zc Zd Jp wt
  clear Ze Zf Jq wu
  clear Zg Zh Jr wv
  clear hB8
  rintro w9 ⟨hB9, za, zb, zc, hp6', hq8'⟩
  obtain ⟨bx, cd, ce, cf, mx, Vs⟩ := bk4 za
  replace za := Lib.hid za
  obtain ⟨gt, gu, my, Vt⟩ := bk2 zb
  replace zb := Lib.hid zb
  obtain ⟨gy, ka, mz, Vu⟩ := bk2 zc
  replace zc := Lib.hid zc
  have hp6 := hp6'
  clear hp6'
  have hq8 := hq8'
  clear hq8'
  have hTD : w6.heap.size ≠ w8.heap.size := by omega
  have hn6 : n6 ≤ 8000 := by rw [hp6.ln]; exact lnp
  have hn8 : n8 ≤ 8000 := by rw [hq8.ln]; exact lnq
  have hb8n := Lib.hid hq8.neg
  by_cases hneg : s < 0
  ·obtain rfl : b8 = true := by rw [hb8n.out]; simp [ngB, hsg.2 hneg]
   obtain ⟨p1, hp1⟩ : ∃ v, -p = v := ⟨_, rfl⟩
   obtain ⟨q1, hq1⟩ : ∃ v, -q = v := ⟨_, rfl⟩
   have HR2 := HR.out
   rw [show sgZ s p = p1 by rw [← hp1]; simp [sgZ, hneg], show sgZ s q = q1 by rw [← hq1]; simp [sgZ, hneg]] at HR2
   have TN1 : ∀ W, Wx W b6 a6 n6 c6 p → Calls Tryz.prog 55 #[.agg #[.bool b6, .slice a6 n6 c6]] W (NewW W p1) := fun W h => hp1 ▸ negated_any b6 a6 n6 c6 p W h (by omega)
   have TN2 : ∀ W, Wx W true a8 n8 c8 q → Calls Tryz.prog 55 #[.agg #[.bool true, .slice a8 n8 c8]] W (NewW W q1) := fun W h => hq1 ▸ negated_any true a8 n8 c8 q W h (by omega)
   clear HR
   have HR := Lib.hid HR2
   clear HR2 hp1 hq1
   go_upto_region 8 with (fail)
   refine wp_open (n := 4) (by kernel_rfl) (by kernel_rfl) (by kernel_rfl) (by kernel_rfl) ?_
   simp only [List.take_succ_cons, List.take_zero]
   apply wpS_quiet
   ·intro γ W hW hp
    have hs := hW.size
    (try simp only [sA, sB, sC, sD] at hs)
    have Ye := fun x => (xcA hW (w6.heap.size) 0 (by first | omega | go_size) x).trans gt
    have Yf := fun x => (xcA hW (w6.heap.size) 1 (by first | omega | go_size) x).trans gu
    clear hW hp
    refine ⟨rfl, ?_⟩
    go_big_quiet_op
    first | exact rfl
   ·exact locS_const _
   try simp only [Act.put, List.setIfInBounds_toArray, List.set_cons_succ, List.set_cons_zero, Nat.reduceAdd]
   apply wpS_open (openW w.heap.size p1)
   ·intro γ W hW hp
    refine ⟨rfl, ?_⟩
    go_simp
    refine plainNew rfl ?_
    exact open_W (TN1 _ (hp6.below hW)) (by (have := hW.size; (try simp only [sA, sB, sC, sD] at this); omega))
   try simp only [Act.put, List.setIfInBounds_toArray, List.set_cons_succ, List.set_cons_zero, Nat.reduceAdd]
   apply wpS_quiet
   ·intro γ W hW hp
    have hs := hW.size
    (try simp only [sA, sB, sC, sD] at hs)
    have Ye := fun x => (xcA hW (w8.heap.size) 0 (by first | omega | go_size) x).trans gy
    have Yf := fun x => (xcA hW (w8.heap.size) 1 (by first | omega | go_size) x).trans ka
    clear hW hp
    refine ⟨rfl, ?_⟩
    go_big_quiet_op
    first | exact rfl
   ·exact locS_const _
   try simp only [Act.put, List.setIfInBounds_toArray, List.set_cons_succ, List.set_cons_zero, Nat.reduceAdd]
   apply wpS_open (openW w.heap.size q1)
   ·intro γ W hW hp
    refine ⟨rfl, ?_⟩
    go_simp
    refine plainNew rfl ?_
    exact open_W (TN2 _ (hq8.below hW)) (by (have := hW.size; (try simp only [sA, sB, sC, sD] at this); omega))
   try simp only [Act.put, List.setIfInBounds_toArray, List.set_cons_succ, List.set_cons_zero, Nat.reduceAdd]
   apply wpS_end
   intro γ w10 hb10 hG10 hA10
   have nj := hG10 _ (mL _ (mR _))
   dsimp only at nj
   have nk := hG10 _ (mR _)
   dsimp only at nk
   clear hG10 hA10
   simp only [List.drop_succ_cons, List.drop_zero]
   have hz10 := hb10.size
   (try simp only [sA, sB, sC, sD] at hz10)
   obtain ⟨b9, a9, n9, c9, e9, hp, F9⟩ := nj
   obtain ⟨b10, a10, n10, c10, e10, hq, F10⟩ := nk
   simp only [e9, e10]
   clear e9 e10 TN1 TN2
   have zu := (hb10.block (w.heap.size + 1 + 1) (blk_lt' za.out)).trans za.out
   clear bx cd ce cf mx za
   obtain ⟨mb, mc, me, mf, Zo, Ys⟩ := bk4 zu
   replace zu := Lib.hid zu
   have zv := (hb10.block (w6.heap.size) (blk_lt' zb.out)).trans zb.out
   clear gt gu my zb
   obtain ⟨mg, mh, Zp, Yt⟩ := bk2 zv
   replace zv := Lib.hid zv
   have zw := (hb10.block (w8.heap.size) (blk_lt' zc.out)).trans zc.out
   clear gy ka mz zc
   obtain ⟨mi, mj, Zq, Yu⟩ := bk2 zw
   replace zw := Lib.hid zw
   replace hp6 := hp6.below hb10
   replace hq8 := hq8.below hb10
   have hB10 : Below w.heap.size w w10 := below_via hb10 (by assumption) (by go_size)
   go_upto_region 9 with (fail)
   replace zu := zu.out
   replace zv := zv.out
   replace zw := zw.out
   refine chk (fun W => Below w.heap.size w W ∧ W.heap[w.heap.size + 1 + 1]? = some (.cells #[.bool false, .slice none 0 0, .bool false, .slice none 0 0] 107 (0, 0)) ∧ W.heap[w6.heap.size]? = some (.cells #[.bool b9, .slice a9 n9 c9] 80 (0, 0)) ∧ W.heap[w8.heap.size]? = some (.cells #[.bool b10, .slice a10 n10 c10] 80 (0, 0)) ∧ Wx W b9 a9 n9 c9 p1 ∧ Wx W b10 a10 n10 c10 q1) (by refine ⟨?_, ?_, ?_, ?_, ?_, ?_⟩ <;> (exact ck)) ?_
   try clear hp
   try clear hq
   clear mb mc me mf Zo zu
   clear mg mh Zp zv
   clear mi mj Zq zw
   clear hB10
   rintro w20 ⟨hB20, ql, qm, qn, hp', hq'⟩
   obtain ⟨uj, uk, ul, um, fm, Zr⟩ := bk4 ql
   replace ql := Lib.hid ql
   obtain ⟨un, uo, fn, Zs⟩ := bk2 qm
   replace qm := Lib.hid qm
   obtain ⟨uq, ur, fo, Zt⟩ := bk2 qn
   replace qn := Lib.hid qn
   have hp := hp'
   clear hp'
   have hq := hq'
   clear hq'
   go_upto_region 10 with (fail)
   replace ql := ql.out
   replace qm := qm.out
   replace qn := qn.out
   refine chk (fun W => Below w.heap.size w W ∧ W.heap[w.heap.size + 1 + 1]? = some (.cells #[.bool false, .slice none 0 0, .bool false, .slice none 0 0] 107 (0, 0)) ∧ W.heap[w20.heap.size]? = some (.cells #[.bool b9, .slice a9 n9 c9, .bool b10, .slice a10 n10 c10] 107 (0, 0)) ∧ Wx W b9 a9 n9 c9 p1 ∧ Wx W b10 a10 n10 c10 q1) (by refine ⟨?_, ?_, ?_, ?_, ?_⟩ <;> (exact ck)) ?_
   try clear hp
   try clear hq
   clear uj uk ul um fm ql
   clear un uo fn qm
   clear uq ur fo qn
   clear hB20
   rintro w21 ⟨hB21, qe, qf, hp', hq'⟩
   obtain ⟨zd, ze, zf, zg, jv, Zu⟩ := bk4 qe
   replace qe := Lib.hid qe
   obtain ⟨zh, zi, zj, zk, jw, Zv⟩ := bk4 qf
   replace qf := Lib.hid qf
   have hp := hp'
   clear hp'
   have hq := hq'
   clear hq'
   rcases HR.out with ⟨e1, hd⟩ | ⟨e1, hd⟩
   ·subst hd
    have TG : ∀ W (b : Bool) (a : Option Addr) (n c : Nat) (b2 : Bool) (a2 : Option Addr) (n2 c2 : Nat), Wx W b a n c p1 → Wx W b2 a2 n2 c2 q1 → Calls Tryz.prog 125 #[.agg #[.bool b, .slice a n c, .bool b2, .slice a2 n2 c2]] W fun e w' => e = .returned (.bool true) ∧ Below W.heap.size W w' := fun W b a n c b2 a2 n2 c2 h1 h2 => e1 ▸ isRatio_any b b2 a a2 n c n2 c2 p1 q1 W h1 h2
    clear e1 HR TT TS TV TO1 TO2
    go_upto_region 12 with (first | (have _t := tok22; go_at_call 125; (with_reducible refine ((TG _ _ _ _ _ _ _ _ _ (hp.below bel) (hq.below bel))).mono ?_); rintro e w22 ⟨rfl, hb22⟩; clear tok22 _t; have hz22 := hb22.size; (try simp only [sA, sB, sC, sD] at hz22); (try (obtain ⟨kq, xq⟩ := cfAt hb22 (w.heap.size); have qo := kq 0; have qq := kq 1; clear kq; simp [go_sem, *] at qo qq xq)); (try have kb : w.heap.size < w22.heap.size := by omega); (try (obtain ⟨kq, xr⟩ := cfAt hb22 (w.heap.size + 1); have qr := kq 0; have qt := kq 1; have qu := kq 2; have qv := kq 3; clear kq; simp [go_sem, *] at qr qt qu qv xr)); (try have kc : w.heap.size + 1 < w22.heap.size := by omega); (try (obtain ⟨kq, xt⟩ := cfAt hb22 (w.heap.size + 1 + 1); have qw := kq 0; have qx := kq 1; have qy := kq 2; have qz := kq 3; clear kq; simp [go_sem, *] at qw qx qy qz xt)); (try have kd : w.heap.size + 1 + 1 < w22.heap.size := by omega); (try (obtain ⟨kq, xc⟩ := cfAt hb22 (w20.heap.size); have qh := kq 0; have qi := kq 1; have qj := kq 2; have qk := kq 3; clear kq; simp [go_sem, *] at qh qi qj qk xc)); (try have jx : w20.heap.size < w22.heap.size := by omega); (try clear jy jz ke); (try clear kf); (try clear ya yb yc yd kh); (try clear ki); (try clear ye yf yg yh kj); (try clear kl); (try clear yi yj km); (try clear kn); (try clear yk yl ym yn ko); (try clear kp); (try clear yo yp yq yr kr); (try clear ks); (try clear yt yu kt); (try clear ku); (try clear yv yw yx yz kw); (try clear kx); (try clear va vb vc vd ky); (try clear kz); (try clear vf vg pc); (try clear pd); (try clear vh vi vj vk pe); (try clear pf); (try clear vm vn vo vp pg); (try clear ph); (try clear zp zq zr zt vq); (try clear vr)))
    have qc := (hb22.block (w.heap.size + 1 + 1) (blk_lt' qe.out)).trans qe.out
    clear zd ze zf zg jv qe
    obtain ⟨xd, xe, xf, xg, zm, fp⟩ := bk4 qc
    replace qc := Lib.hid qc
    have qd := (hb22.block (w20.heap.size) (blk_lt' qf.out)).trans qf.out
    clear zh zi zj zk jw qf
    obtain ⟨xh, xi, xj, xk, zn, fq⟩ := bk4 qd
    replace qd := Lib.hid qd
    replace hp := hp.below hb22
    replace hq := hq.below hb22
    have hB22 : Below w.heap.size w w22 := below_via hb22 (by assumption) (by go_size)
    replace qc := qc.out
    replace qd := qd.out
    refine chk (fun W => Below w.heap.size w W ∧ W.heap[w.heap.size + 1 + 1]? = some (.cells #[.bool false, .slice none 0 0, .bool false, .slice none 0 0] 107 (0, 0)) ∧ W.heap[w20.heap.size]? = some (.cells #[.bool b9, .slice a9 n9 c9, .bool b10, .slice a10 n10 c10] 107 (0, 0)) ∧ Wx W b9 a9 n9 c9 p1 ∧ Wx W b10 a10 n10 c10 q1) (by refine ⟨?_, ?_, ?_, ?_, ?_⟩ <;> (exact ck)) ?_
    try clear hp
    try clear hq
    clear xd xe xf xg zm qc
    clear xh xi xj xk zn qd
    clear hB22
    rintro w23 ⟨hB23, qg, zo, hp', hq'⟩
    obtain ⟨xl, xm, xn, xo, ft, fu⟩ := bk4 qg
    replace qg := Lib.hid qg
    obtain ⟨ml, mn, mo, mp, Zw, Zx⟩ := bk4 zo
    replace zo := Lib.hid zo
    have hp := hp'
    clear hp'
    have hq := hq'
    clear hq'
    have hON : w.heap.size + 1 + 1 ≠ w20.heap.size := by omega
    clear TG
    iterate 24 (first | (with_reducible show bodyPost _ _ _ _ _ _) | (with_reducible refine wp_ret ?_) | go_values | go_skip | go_guarded | go_step | go_upon | go_back | skip)
    refine bodyPost_ret (v := .tuple #[.agg #[.bool b9, .slice a9 n9 c9, .bool b10, .slice a10 n10 c10], .bool true]) (by simp [results, Tryz.results105, go_sem, xl, xm, xn, xo]) rfl ⟨_, _, _, _, _, _, _, _, rfl, ?_, ?_, F9, F10, ?_⟩
    all_goals (have HO := qg.out)
    ·(exact ck)
    ·(exact ck)
    ·(exact ck)
   ·subst hd
    have TG : ∀ W (b : Bool) (a : Option Addr) (n c : Nat) (b2 : Bool) (a2 : Option Addr) (n2 c2 : Nat), Wx W b a n c p1 → Wx W b2 a2 n2 c2 q1 → Calls Tryz.prog 125 #[.agg #[.bool b, .slice a n c, .bool b2, .slice a2 n2 c2]] W fun e w' => e = .returned (.bool false) ∧ Below W.heap.size W w' := fun W b a n c b2 a2 n2 c2 h1 h2 => e1 ▸ isRatio_any b b2 a a2 n c n2 c2 p1 q1 W h1 h2
    clear e1 HR TT TS TV TO1 TO2
    go_upto_region 11 with (first | (have _t := tok22; go_at_call 125; (with_reducible refine ((TG _ _ _ _ _ _ _ _ _ (hp.below bel) (hq.below bel))).mono ?_); rintro e w22 ⟨rfl, hb22⟩; clear tok22 _t; have hz22 := hb22.size; (try simp only [sA, sB, sC, sD] at hz22); (try (obtain ⟨kq, xq⟩ := cfAt hb22 (w.heap.size); have qo := kq 0; have qq := kq 1; clear kq; simp [go_sem, *] at qo qq xq)); (try have kb : w.heap.size < w22.heap.size := by omega); (try (obtain ⟨kq, xr⟩ := cfAt hb22 (w.heap.size + 1); have qr := kq 0; have qt := kq 1; have qu := kq 2; have qv := kq 3; clear kq; simp [go_sem, *] at qr qt qu qv xr)); (try have kc : w.heap.size + 1 < w22.heap.size := by omega); (try (obtain ⟨kq, xt⟩ := cfAt hb22 (w.heap.size + 1 + 1); have qw := kq 0; have qx := kq 1; have qy := kq 2; have qz := kq 3; clear kq; simp [go_sem, *] at qw qx qy qz xt)); (try have kd : w.heap.size + 1 + 1 < w22.heap.size := by omega); (try (obtain ⟨kq, xc⟩ := cfAt hb22 (w20.heap.size); have qh := kq 0; have qi := kq 1; have qj := kq 2; have qk := kq 3; clear kq; simp [go_sem, *] at qh qi qj qk xc)); (try have jx : w20.heap.size < w22.heap.size := by omega); (try clear jy jz ke); (try clear kf); (try clear ya yb yc yd kh); (try clear ki); (try clear ye yf yg yh kj); (try clear kl); (try clear yi yj km); (try clear kn); (try clear yk yl ym yn ko); (try clear kp); (try clear yo yp yq yr kr); (try clear ks); (try clear yt yu kt); (try clear ku); (try clear yv yw yx yz kw); (try clear kx); (try clear va vb vc vd ky); (try clear kz); (try clear vf vg pc); (try clear pd); (try clear vh vi vj vk pe); (try clear pf); (try clear vm vn vo vp pg); (try clear ph); (try clear zp zq zr zt vq); (try clear vr)))
    have qc := (hb22.block (w.heap.size + 1 + 1) (blk_lt' qe.out)).trans qe.out
    clear zd ze zf zg jv qe
    obtain ⟨xd, xe, xf, xg, zm, fp⟩ := bk4 qc
    replace qc := Lib.hid qc
    have qd := (hb22.block (w20.heap.size) (blk_lt' qf.out)).trans qf.out
    clear zh zi zj zk jw qf
    obtain ⟨xh, xi, xj, xk, zn, fq⟩ := bk4 qd
    replace qd := Lib.hid qd
    replace hp := hp.below hb22
    replace hq := hq.below hb22
    have hB22 : Below w.heap.size w w22 := below_via hb22 (by assumption) (by go_size)
    replace qc := qc.out
    replace qd := qd.out
    refine chk (fun W => Below w.heap.size w W ∧ W.heap[w.heap.size + 1 + 1]? = some (.cells #[.bool false, .slice none 0 0, .bool false, .slice none 0 0] 107 (0, 0))) (by refine ⟨?_, ?_⟩ <;> (exact ck)) ?_
    clear xd xe xf xg zm qc
    clear xh xi xj xk zn qd
    clear hB22
    rintro w23 ⟨hB23, qg⟩
    obtain ⟨xl, xm, xn, xo, ft, fu⟩ := bk4 qg
    replace qg := Lib.hid qg
    clear TG
    iterate 24 (first | (with_reducible show bodyPost _ _ _ _ _ _) | (with_reducible refine wp_ret ?_) | go_values | go_skip | go_guarded | go_step | go_upon | go_back | skip)
    refine bodyPost_ret (v := .tuple #[.agg #[.bool false, .slice none 0 0, .bool false, .slice none 0 0], .bool false]) (by simp [results, Tryz.results105, go_sem, xl, xm, xn, xo]) rfl ⟨_, _, _, _, _, _, _, _, rfl, Wx.zero' _, Wx.zero' _, fr_none _, fr_none _, ?_⟩
    have HO := qg.out
    (exact ck)
  ·have hb8f : b8 = false := by rw [hb8n.out]; have := hsg.1; simp [ngB]; omega
   have HR2 := HR.out
   rw [show sgZ s p = p by simp [sgZ, hneg], show sgZ s q = q by simp [sgZ, hneg]] at HR2
   clear HR
   have HR := Lib.hid HR2
   clear HR2
   go_upto_region 9 with (fail)
   clear hb8f
   obtain ⟨b9, rfl⟩ : ∃ b, b = b6 := ⟨_, rfl⟩
   obtain ⟨a9, rfl⟩ : ∃ b, b = a6 := ⟨_, rfl⟩
   obtain ⟨n9, rfl⟩ : ∃ b, b = n6 := ⟨_, rfl⟩
   obtain ⟨c9, rfl⟩ : ∃ b, b = c6 := ⟨_, rfl⟩
   obtain ⟨b10, rfl⟩ : ∃ b, b = b8 := ⟨_, rfl⟩
   obtain ⟨a10, rfl⟩ : ∃ b, b = a8 := ⟨_, rfl⟩
   obtain ⟨n10, rfl⟩ : ∃ b, b = n8 := ⟨_, rfl⟩
   obtain ⟨c10, rfl⟩ : ∃ b, b = c8 := ⟨_, rfl⟩
   obtain ⟨p1, rfl⟩ : ∃ b, b = p := ⟨_, rfl⟩
   obtain ⟨q1, rfl⟩ : ∃ b, b = q := ⟨_, rfl⟩
   have F9 := F6
   have F10 := F8
   have hp := hp6
   have hq := hq8
   clear hp6 hq8 F6 F8
   replace za := za.out
   replace zb := zb.out
   replace zc := zc.out
   refine chk (fun W => Below w.heap.size w W ∧ W.heap[w.heap.size + 1 + 1]? = some (.cells #[.bool false, .slice none 0 0, .bool false, .slice none 0 0] 107 (0, 0)) ∧ W.heap[w6.heap.size]? = some (.cells #[.bool b9, .slice a9 n9 c9] 80 (0, 0)) ∧ W.heap[w8.heap.size]? = some (.cells #[.bool b10, .slice a10 n10 c10] 80 (0, 0)) ∧ Wx W b9 a9 n9 c9 p1 ∧ Wx W b10 a10 n10 c10 q1) (by refine ⟨?_, ?_, ?_, ?_, ?_, ?_⟩ <;> (exact ck)) ?_
   try clear hp
   try clear hq
   clear bx cd ce cf mx za
   clear gt gu my zb
   clear gy ka mz zc
   clear hB9
   rintro w20 ⟨hB20, ql, qm, qn, hp', hq'⟩
   obtain ⟨uj, uk, ul, um, fm, Zr⟩ := bk4 ql
   replace ql := Lib.hid ql
   obtain ⟨un, uo, fn, Zs⟩ := bk2 qm
   replace qm := Lib.hid qm
   obtain ⟨uq, ur, fo, Zt⟩ := bk2 qn
   replace qn := Lib.hid qn
   have hp := hp'
   clear hp'
   have hq := hq'
   clear hq'
   go_upto_region 10 with (fail)
   replace ql := ql.out
   replace qm := qm.out
   replace qn := qn.out
   refine chk (fun W => Below w.heap.size w W ∧ W.heap[w.heap.size + 1 + 1]? = some (.cells #[.bool false, .slice none 0 0, .bool false, .slice none 0 0] 107 (0, 0)) ∧ W.heap[w20.heap.size]? = some (.cells #[.bool b9, .slice a9 n9 c9, .bool b10, .slice a10 n10 c10] 107 (0, 0)) ∧ Wx W b9 a9 n9 c9 p1 ∧ Wx W b10 a10 n10 c10 q1) (by refine ⟨?_, ?_, ?_, ?_, ?_⟩ <;> (exact ck)) ?_
   try clear hp
   try clear hq
   clear uj uk ul um fm ql
   clear un uo fn qm
   clear uq ur fo qn
   clear hB20
   rintro w21 ⟨hB21, qe, qf, hp', hq'⟩
   obtain ⟨zd, ze, zf, zg, jv, Zu⟩ := bk4 qe
   replace qe := Lib.hid qe
   obtain ⟨zh, zi, zj, zk, jw, Zv⟩ := bk4 qf
   replace qf := Lib.hid qf
   have hp := hp'
   clear hp'
   have hq := hq'
   clear hq'
   rcases HR.out with ⟨e1, hd⟩ | ⟨e1, hd⟩
   ·subst hd
    have TG : ∀ W (b : Bool) (a : Option Addr) (n c : Nat) (b2 : Bool) (a2 : Option Addr) (n2 c2 : Nat), Wx W b a n c p1 → Wx W b2 a2 n2 c2 q1 → Calls Tryz.prog 125 #[.agg #[.bool b, .slice a n c, .bool b2, .slice a2 n2 c2]] W fun e w' => e = .returned (.bool true) ∧ Below W.heap.size W w' := fun W b a n c b2 a2 n2 c2 h1 h2 => e1 ▸ isRatio_any b b2 a a2 n c n2 c2 p1 q1 W h1 h2
    clear e1 HR TT TS TV TO1 TO2
    go_upto_region 12 with (first | (have _t := tok22; go_at_call 125; (with_reducible refine ((TG _ _ _ _ _ _ _ _ _ (hp.below bel) (hq.below bel))).mono ?_); rintro e w22 ⟨rfl, hb22⟩; clear tok22 _t; have hz22 := hb22.size; (try simp only [sA, sB, sC, sD] at hz22); (try (obtain ⟨kq, xq⟩ := cfAt hb22 (w.heap.size); have qo := kq 0; have qq := kq 1; clear kq; simp [go_sem, *] at qo qq xq)); (try have kb : w.heap.size < w22.heap.size := by omega); (try (obtain ⟨kq, xr⟩ := cfAt hb22 (w.heap.size + 1); have qr := kq 0; have qt := kq 1; have qu := kq 2; have qv := kq 3; clear kq; simp [go_sem, *] at qr qt qu qv xr)); (try have kc : w.heap.size + 1 < w22.heap.size := by omega); (try (obtain ⟨kq, xt⟩ := cfAt hb22 (w.heap.size + 1 + 1); have qw := kq 0; have qx := kq 1; have qy := kq 2; have qz := kq 3; clear kq; simp [go_sem, *] at qw qx qy qz xt)); (try have kd : w.heap.size + 1 + 1 < w22.heap.size := by omega); (try (obtain ⟨kq, xc⟩ := cfAt hb22 (w20.heap.size); have qh := kq 0; have qi := kq 1; have qj := kq 2; have qk := kq 3; clear kq; simp [go_sem, *] at qh qi qj qk xc)); (try have jx : w20.heap.size < w22.heap.size := by omega); (try clear jy jz ke); (try clear kf); (try clear ya yb yc yd kh); (try clear ki); (try clear ye yf yg yh kj); (try clear kl); (try clear yi yj km); (try clear kn); (try clear yk yl ym yn ko); (try clear kp); (try clear yo yp yq yr kr); (try clear ks); (try clear yt yu kt); (try clear ku); (try clear yv yw yx yz kw); (try clear kx); (try clear va vb vc vd ky); (try clear kz); (try clear vf vg pc); (try clear pd); (try clear vh vi vj vk pe); (try clear pf); (try clear vm vn vo vp pg); (try clear ph); (try clear zp zq zr zt vq); (try clear vr)))
    have qc := (hb22.block (w.heap.size + 1 + 1) (blk_lt' qe.out)).trans qe.out
    clear zd ze zf zg jv qe
    obtain ⟨xd, xe, xf, xg, zm, fp⟩ := bk4 qc
    replace qc := Lib.hid qc
    have qd := (hb22.block (w20.heap.size) (blk_lt' qf.out)).trans qf.out
    clear zh zi zj zk jw qf
    obtain ⟨xh, xi, xj, xk, zn, fq⟩ := bk4 qd
    replace qd := Lib.hid qd
    replace hp := hp.below hb22
    replace hq := hq.below hb22
    have hB22 : Below w.heap.size w w22 := below_via hb22 (by assumption) (by go_size)
    replace qc := qc.out
    replace qd := qd.out
    refine chk (fun W => Below w.heap.size w W ∧ W.heap[w.heap.size + 1 + 1]? = some (.cells #[.bool false, .slice none 0 0, .bool false, .slice none 0 0] 107 (0, 0)) ∧ W.heap[w20.heap.size]? = some (.cells #[.bool b9, .slice a9 n9 c9, .bool b10, .slice a10 n10 c10] 107 (0, 0)) ∧ Wx W b9 a9 n9 c9 p1 ∧ Wx W b10 a10 n10 c10 q1) (by refine ⟨?_, ?_, ?_, ?_, ?_⟩ <;> (exact ck)) ?_
    try clear hp
    try clear hq
    clear xd xe xf xg zm qc
    clear xh xi xj xk zn qd
    clear hB22
    rintro w23 ⟨hB23, qg, zo, hp', hq'⟩
    obtain ⟨xl, xm, xn, xo, ft, fu⟩ := bk4 qg
    replace qg := Lib.hid qg
    obtain ⟨ml, mn, mo, mp, Zw, Zx⟩ := bk4 zo
    replace zo := Lib.hid zo
    have hp := hp'
    clear hp'
    have hq := hq'
    clear hq'
    have hON : w.heap.size + 1 + 1 ≠ w20.heap.size := by omega
    clear TG
    iterate 24 (first | (with_reducible show bodyPost _ _ _ _ _ _) | (with_reducible refine wp_ret ?_) | go_values | go_skip | go_guarded | go_step | go_upon | go_back | skip)
    refine bodyPost_ret (v := .tuple #[.agg #[.bool b9, .slice a9 n9 c9, .bool b10, .slice a10 n10 c10], .bool true]) (by simp [results, Tryz.results105, go_sem, xl, xm, xn, xo]) rfl ⟨_, _, _, _, _, _, _, _, rfl, ?_, ?_, F9, F10, ?_⟩
    all_goals (have HO := qg.out)
    ·(exact ck)
    ·(exact ck)
    ·(exact ck)
   ·subst hd
    have TG : ∀ W (b : Bool) (a : Option Addr) (n c : Nat) (b2 : Bool) (a2 : Option Addr) (n2 c2 : Nat), Wx W b a n c p1 → Wx W b2 a2 n2 c2 q1 → Calls Tryz.prog 125 #[.agg #[.bool b, .slice a n c, .bool b2, .slice a2 n2 c2]] W fun e w' => e = .returned (.bool false) ∧ Below W.heap.size W w' := fun W b a n c b2 a2 n2 c2 h1 h2 => e1 ▸ isRatio_any b b2 a a2 n c n2 c2 p1 q1 W h1 h2
    clear e1 HR TT TS TV TO1 TO2
    go_upto_region 11 with (first | (have _t := tok22; go_at_call 125; (with_reducible refine ((TG _ _ _ _ _ _ _ _ _ (hp.below bel) (hq.below bel))).mono ?_); rintro e w22 ⟨rfl, hb22⟩; clear tok22 _t; have hz22 := hb22.size; (try simp only [sA, sB, sC, sD] at hz22); (try (obtain ⟨kq, xq⟩ := cfAt hb22 (w.heap.size); have qo := kq 0; have qq := kq 1; clear kq; simp [go_sem, *] at qo qq xq)); (try have kb : w.heap.size < w22.heap.size := by omega); (try (obtain ⟨kq, xr⟩ := cfAt hb22 (w.heap.size + 1); have qr := kq 0; have qt := kq 1; have qu := kq 2; have qv := kq 3; clear kq; simp [go_sem, *] at qr qt qu qv xr)); (try have kc : w.heap.size + 1 < w22.heap.size := by omega); (try (obtain ⟨kq, xt⟩ := cfAt hb22 (w.heap.size + 1 + 1); have qw := kq 0; have qx := kq 1; have qy := kq 2; have qz := kq 3; clear kq; simp [go_sem, *] at qw qx qy qz xt)); (try have kd : w.heap.size + 1 + 1 < w22.heap.size := by omega); (try (obtain ⟨kq, xc⟩ := cfAt hb22 (w20.heap.size); have qh := kq 0; have qi := kq 1; have qj := kq 2; have qk := kq 3; clear kq; simp [go_sem, *] at qh qi qj qk xc)); (try have jx : w20.heap.size < w22.heap.size := by omega); (try clear jy jz ke); (try clear kf); (try clear ya yb yc yd kh); (try clear ki); (try clear ye yf yg yh kj); (try clear kl); (try clear yi yj km); (try clear kn); (try clear yk yl ym yn ko); (try clear kp); (try clear yo yp yq yr kr); (try clear ks); (try clear yt yu kt); (try clear ku); (try clear yv yw yx yz kw); (try clear kx); (try clear va vb vc vd ky); (try clear kz); (try clear vf vg pc); (try clear pd); (try clear vh vi vj vk pe); (try clear pf); (try clear vm vn vo vp pg); (try clear ph); (try clear zp zq zr zt vq); (try clear vr)))
    have qc := (hb22.block (w.heap.size + 1 + 1) (blk_lt' qe.out)).trans qe.out
    clear zd ze zf zg jv qe
    obtain ⟨xd, xe, xf, xg, zm, fp⟩ := bk4 qc
    replace qc := Lib.hid qc
    have qd := (hb22.block (w20.heap.size) (blk_lt' qf.out)).trans qf.out
    clear zh zi zj zk jw qf
    obtain ⟨xh, xi, xj, xk, zn, fq⟩ := bk4 qd
    replace qd := Lib.hid qd
    replace hp := hp.below hb22
    replace hq := hq.below hb22
    have hB22 : Below w.heap.size w w22 := below_via hb22 (by assumption) (by go_size)
    replace qc := qc.out
    replace qd := qd.out
    refine chk (fun W => Below w.heap.size w W ∧ W.heap[w.heap.size + 1 + 1]? = some (.cells #[.bool false, .slice none 0 0, .bool false, .slice none 0 0] 107 (0, 0))) (by refine ⟨?_, ?_⟩ <;> (exact ck)) ?_
    clear xd xe xf xg zm qc
    clear xh xi xj xk zn qd
    clear hB22
    rintro w23 ⟨hB23, qg⟩
    obtain ⟨xl, xm, xn, xo, ft, fu⟩ := bk4 qg
    replace qg := Lib.hid qg
    clear TG
    iterate 24 (first | (with_reducible show bodyPost _ _ _ _ _ _) | (with_reducible refine wp_ret ?_) | go_values | go_skip | go_guarded | go_step | go_upon | go_back | skip)
    refine bodyPost_ret (v := .tuple #[.agg #[.bool false, .slice none 0 0, .bool false, .slice none 0 0], .bool false]) (by simp [results, Tryz.results105, go_sem, xl, xm, xn, xo]) rfl ⟨_, _, _, _, _, _, _, _, rfl, Wx.zero' _, Wx.zero' _, fr_none _, fr_none _, ?_⟩
    have HO := qg.out
    (exact ck)
end
end Go.Proofs.YtnkmgpmehkholaaGreat
