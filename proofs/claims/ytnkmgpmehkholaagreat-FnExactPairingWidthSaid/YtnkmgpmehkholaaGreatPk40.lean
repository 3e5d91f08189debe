/- Lemmas and contracts of functions. No condition. -/
import Derived.Test.YtnkmgpmehkholaaGreatPk14
import Derived.Test.YtnkmgpmehkholaaGreatPk37
import Derived.Test.YtnkmgpmehkholaaGreatPk39
namespace Go.Proofs.YtnkmgpmehkholaaGreat
section
open Go.RowKit
set_option linter.unusedVariables false
set_option maxHeartbeats 1000000
set_option maxRecDepth 20000
set_option linter.unusedSimpArgs false
attribute [local go_sem] openAt openUpon
theorem xdOf_any (p q : Int) (w : World) (hp : -9223372036854775807 ≤ p ∧ p ≤ 9223372036854775807) (hq : -9223372036854775807 ≤ q ∧ q ≤ 9223372036854775807) :
  Calls Tryz.prog 95 #[.int .i64 p, .int .i64 q] w (NewR w p q) := by
 have tok1 := trivial
 have tok2 := trivial
 go_enter Tryz.func95, Tryz.ntmps95
 go_wp2_with (first | (have _t := tok1; go_at_call 102; (with_reducible refine ((bgOf_any p _ hp.1 hp.2)).mono ?_); rintro e w1 ⟨b1, a1, n1, c1, rfl, h1, f1, hb1⟩; clear tok1 _t; have hz1 := hb1.size; (try simp only [sA, sB, sC, sD] at hz1); (try (obtain ⟨kq, qe⟩ := cfAt hb1 (w.heap.size); have qa := kq 0; have qb := kq 1; have qc := kq 2; have qd := kq 3; clear kq; simp [go_sem, *] at qa qb qc qd qe)); (try have qj : w.heap.size < w1.heap.size := by omega)) | (have _t := tok2; go_at_call 102; (with_reducible refine ((bgOf_any q _ hq.1 hq.2)).mono ?_); rintro e w2 ⟨b2, a2, n2, c2, rfl, h2, f2, hb2⟩; clear tok2 _t; have hz2 := hb2.size; (try simp only [sA, sB, sC, sD] at hz2); (try (obtain ⟨kq, qk⟩ := cfAt hb2 (w.heap.size); have qf := kq 0; have qg := kq 1; have qh := kq 2; have qi := kq 3; clear kq; simp [go_sem, *] at qf qg qh qi qk)); (try have ql : w.heap.size < w2.heap.size := by omega); (try clear qa qb qc qd qe); (try clear qj)))
 refine bodyPost_ret (v := .agg #[.bool b1, .slice a1 n1 c1, .bool b2, .slice a2 n2 c2]) (by simp [results, Tryz.results95, go_sem, *]) rfl ⟨_, _, _, _, _, _, _, _, rfl, ?_, ?_, ?_⟩
 ·have H := (hb2.block (w.heap.size) (by omega)).trans ((hb1.block (w.heap.size) (by simp)).trans (heap_alloc_new w _))
  have h1' := h1.below hb2
  (exact ck)
 ·have H := (hb2.block (w.heap.size) (by omega)).trans ((hb1.block (w.heap.size) (by simp)).trans (heap_alloc_new w _))
  (exact ck)
 ·exact bel
theorem xdBits_any (b b2 : Bool) (a a2 : Option Addr) (n c n2 c2 : Nat) (x z : Int) (w : World) (hx : Wx w b a n c x) (hz : Wx w b2 a2 n2 c2 z) (lx : ln x ≤ 80) (lz : ln z ≤ 80) :
  Calls Tryz.prog 84 #[.agg #[.bool b, .slice a n c, .bool b2, .slice a2 n2 c2]] w fun e w' => e = .returned (.int .i64 (bitsZ x z)) ∧ Below w.heap.size w w' := by
 have T1 : ∀ W, Below w.heap.size w W → Calls Tryz.prog 100 #[.agg #[.bool b, .slice a n c]] W fun e w' => e = .returned (.int .i64 (bl (ab x))) ∧ Below W.heap.size W w' := fun W hW => bgBits_any b a n c x W (hx.below hW) (by have := hx.ln; omega)
 have T2 : ∀ W, Below w.heap.size w W → Calls Tryz.prog 100 #[.agg #[.bool b2, .slice a2 n2 c2]] W fun e w' => e = .returned (.int .i64 (bl (ab z))) ∧ Below W.heap.size W w' := fun W hW => bgBits_any b2 a2 n2 c2 z W (hz.below hW) (by have := hz.ln; omega)
 have HB := Lib.hid (show most (bl (ab x) : Nat) (bl (ab z) : Nat) = bitsZ x z from rfl)
 generalize bl (ab x) = u1 at *
 generalize bl (ab z) = u2 at *
 go_enter Tryz.func84, Tryz.ntmps84
 go_wp2_with fail
 refine wp_drawn' (n := 7) (by kernel_rfl) (by kernel_rfl) (by kernel_rfl) ?_
 apply Exists.intro
 refine ⟨?_, ?_⟩
 ·intro W hW
  try (have qa := fun x => xcell hW (w.heap.size) (by go_size) x 0; simp [go_sem, *] at qa)
  try (have qb := fun x => xcell hW (w.heap.size) (by go_size) x 1; simp [go_sem, *] at qb)
  try (have qc := fun x => xcell hW (w.heap.size) (by go_size) x 2; simp [go_sem, *] at qc)
  try (have qd := fun x => xcell hW (w.heap.size) (by go_size) x 3; simp [go_sem, *] at qd)
  simp only [List.take_succ_cons, List.take_zero]
  repeat (go_big_quiet_step ((first | (go_at_call 100; (with_reducible exact draw_of _ ((T1 _ (below_via (Over.lies _) (below_via hW bel (by go_size)) (by (have := hW.size; (try simp only [sA, sB, sC, sD] at this); omega))))))) | (go_at_call 100; (with_reducible exact draw_of _ ((T2 _ (below_via (Over.lies _) (below_via hW bel (by go_size)) (by (have := hW.size; (try simp only [sA, sB, sC, sD] at this); omega))))))) | (go_at_call 69; exact draw_of_same _ (l1Most_any _ _ _)))))
  exact wpQuiet_nil rfl
 intro w1 hb1
 simp only [List.drop_succ_cons, List.drop_zero, Act.put, List.setIfInBounds_toArray, List.set_cons_succ, List.set_cons_zero]
 have hz1 := hb1.size
 (try simp only [sA, sB, sC, sD] at hz1)
 (try (obtain ⟨kq, qi⟩ := cfAt hb1 (w.heap.size); have qe := kq 0; have qf := kq 1; have qg := kq 2; have qh := kq 3; clear kq; simp [go_sem, *] at qe qf qg qh qi))
 (try have qj : w.heap.size < w1.heap.size := by omega)
 go_wp2_with fail
 go_ret
 refine ⟨ret_int HB.out, ?_⟩
 exact bel
theorem xdDivisor_any (A B t s : Int) (b b2 : Bool) (a a2 : Option Addr) (n c n2 c2 : Nat) (w : World) (hA : -1000 ≤ A ∧ A ≤ 1000) (hBB : -10000 ≤ B ∧ B ≤ 10000) (hcv : coV A B ≠ 0) (ht : Wx w b a n c t) (hs : Wx w b2 a2 n2 c2 s) (lt' : ln t ≤ 8000) (ls' : ln s ≤ 8000) :
  Calls Tryz.prog 115 #[.agg #[.int .i64 A, .int .i64 B], .agg #[.bool b, .slice a n c], .agg #[.bool b2, .slice a2 n2 c2]] w fun e w' => e = .returned (.int .i64 (dvZ (4 * absI (coV A B)) t s)) ∧ Below w.heap.size w w' := by
 have hcb := coV_bd hA hBB
 have hab : 1 ≤ absI (coV A B) ∧ absI (coV A B) ≤ 6700000000 := by unfold absI; omega
 have T1 : ∀ W, Below w.heap.size w W → Calls Tryz.prog 116 #[.agg #[.bool b, .slice a n c], .int .i64 (4 * absI (coV A B))] W (NewQ W t (4 * absI (coV A B))) := fun W hW => bgOver_any b a n c t _ W (ht.below hW) (by have := ht.ln; omega) (by omega) (by omega)
 have T2 : ∀ W, Below w.heap.size w W → Calls Tryz.prog 116 #[.agg #[.bool b2, .slice a2 n2 c2], .int .i64 (4 * absI (coV A B))] W (NewQ W s (4 * absI (coV A B))) := fun W hW => bgOver_any b2 a2 n2 c2 s _ W (hs.below hW) (by have := hs.ln; omega) (by omega) (by omega)
 have DV := Lib.hid (dv_spec (n := 4 * absI (coV A B)) (t := t) (b := s) (by omega))
 have m1 := Int.emod_nonneg t (b := 4 * absI (coV A B)) (by omega)
 have m2 := Int.emod_lt_of_pos t (b := 4 * absI (coV A B)) (by omega)
 have m3 := Int.emod_nonneg s (b := 4 * absI (coV A B)) (by omega)
 have m4 := Int.emod_lt_of_pos s (b := 4 * absI (coV A B)) (by omega)
 have g1 := gcdI_nonneg (4 * absI (coV A B)) (t % (4 * absI (coV A B)))
 have g2 : gcdI (4 * absI (coV A B)) (t % (4 * absI (coV A B))) ≤ 4 * absI (coV A B) := by
  rw [gcdI_emod _ _ (by omega)]
  exact Int.le_of_dvd (by omega) (by unfold gcdI; exact Int.gcd_dvd_left ..)
 clear hcv
 have tok1 := trivial
 have tok2 := trivial
 have tok3 := trivial
 go_enter Tryz.func115, Tryz.ntmps115
 go_wp2_with (first | (have _t := tok1; go_at_call 80; refine (ecDisc_any A B _ hA hBB).mono ?_; rintro e w1 ⟨rfl, hb1⟩; clear tok1 _t; have hz1 := hb1.size; (try simp only [sA, sB, sC, sD] at hz1); (try (obtain ⟨kq, qg⟩ := cfAt hb1 (w.heap.size); have qa := kq 0; have qb := kq 1; clear kq; simp [go_sem, *] at qa qb qg)); (try have qq : w.heap.size < w1.heap.size := by omega); (try (obtain ⟨kq, qh⟩ := cfAt hb1 (w.heap.size + 1); have qc := kq 0; have qd := kq 1; clear kq; simp [go_sem, *] at qc qd qh)); (try have qr : w.heap.size + 1 < w1.heap.size := by omega); (try (obtain ⟨kq, qi⟩ := cfAt hb1 (w.heap.size + 1 + 1); have qe := kq 0; have qf := kq 1; clear kq; simp [go_sem, *] at qe qf qi)); (try have qt : w.heap.size + 1 + 1 < w1.heap.size := by omega)) | (go_at_call 44; refine (l1Abs_any _ _ (by omega) (by omega)).mono ?_; rintro e w' ⟨rfl, rfl⟩) | (have _t := tok2; go_at_call 116; (with_reducible refine ((T1 _ bel)).mono ?_); rintro e w2 ⟨b3, a3, n3, c3, rfl, h3, f3, hb2⟩; clear tok2 _t; have hz2 := hb2.size; (try simp only [sA, sB, sC, sD] at hz2); (try (obtain ⟨kq, qu⟩ := cfAt hb2 (w.heap.size); have qj := kq 0; have qk := kq 1; clear kq; simp [go_sem, *] at qj qk qu)); (try have xd : w.heap.size < w2.heap.size := by omega); (try (obtain ⟨kq, qv⟩ := cfAt hb2 (w.heap.size + 1); have ql := kq 0; have qm := kq 1; clear kq; simp [go_sem, *] at ql qm qv)); (try have xe : w.heap.size + 1 < w2.heap.size := by omega); (try (obtain ⟨kq, qw⟩ := cfAt hb2 (w.heap.size + 1 + 1); have qn := kq 0; have qo := kq 1; clear kq; simp [go_sem, *] at qn qo qw)); (try have xf : w.heap.size + 1 + 1 < w2.heap.size := by omega); (try clear qa qb qg); (try clear qq); (try clear qc qd qh); (try clear qr); (try clear qe qf qi); (try clear qt)) | (have _t := tok3; go_at_call 116; (with_reducible refine ((T2 _ bel)).mono ?_); rintro e w3 ⟨b4, a4, n4, c4, rfl, h4, f4, hb3⟩; clear tok3 _t; have hz3 := hb3.size; (try simp only [sA, sB, sC, sD] at hz3); (try (obtain ⟨kq, xg⟩ := cfAt hb3 (w.heap.size); have qx := kq 0; have qy := kq 1; clear kq; simp [go_sem, *] at qx qy xg)); (try have xj : w.heap.size < w3.heap.size := by omega); (try (obtain ⟨kq, xh⟩ := cfAt hb3 (w.heap.size + 1); have qz := kq 0; have xa := kq 1; clear kq; simp [go_sem, *] at qz xa xh)); (try have xk : w.heap.size + 1 < w3.heap.size := by omega); (try (obtain ⟨kq, xi⟩ := cfAt hb3 (w.heap.size + 1 + 1); have xb := kq 0; have xc := kq 1; clear kq; simp [go_sem, *] at xb xc xi)); (try have xl : w.heap.size + 1 + 1 < w3.heap.size := by omega); (try clear qa qb qg); (try clear qq); (try clear qc qd qh); (try clear qr); (try clear qe qf qi); (try clear qt); (try clear qj qk qu); (try clear xd); (try clear ql qm qv); (try clear xe); (try clear qn qo qw); (try clear xf)) | (go_at_call 67; refine (common_any _ _ _ (by omega) (by omega) (by omega) (by omega)).mono ?_; rintro e w' ⟨rfl, nq, rfl⟩))
 go_ret
 refine ⟨ret_int DV.out, ?_⟩
 exact bel
end
section
open Go.RowKit
set_option linter.unusedVariables false
set_option maxHeartbeats 1000000
set_option maxRecDepth 20000
set_option linter.unusedSimpArgs false
attribute [local go_sem] openAt openUpon
/-- a contract whose values are a ratio and a flag -/
def NewRR (w : World) (x z : Int) (ok : Bool) (e : Ending) (w' : World) : Prop := ∃ b a n c b2 a2 n2 c2, e = .returned (.tuple #[.agg #[.bool b, .slice a n c, .bool b2, .slice a2 n2 c2], .bool ok]) ∧ Wx w' b a n c x ∧ Wx w' b2 a2 n2 c2 z ∧ Fr w.heap.size a ∧ Fr w.heap.size a2 ∧ Below w.heap.size w w'
/-- a contract whose values are a whole number and a rest -/
def NewQp (w : World) (p : Int) (e : Ending) (w' : World) : Prop := ∃ b a n c r, e = .returned (.tuple #[.agg #[.bool b, .slice a n c], .int .i64 r]) ∧ Wx w' b a n c p ∧ Fr w.heap.size a ∧ Below w.heap.size w w'
theorem NewQ.qp {w : World} {z d p : Int} {e : Ending} {w' : World} (h : NewQ w z d e w') (hp : z / d = p) : NewQp w p e w' := by
 obtain ⟨b, a, n, c, h1, h2, h3, h4⟩ := h
 exact ⟨b, a, n, c, _, h1, hp ▸ h2, h3, h4⟩
theorem fr_none (B : Nat) : Fr B none := fun A e => by cases e
theorem Wx.zero' (W : World) : Wx W false none 0 0 0 := ⟨by decide, by rw [show limbs (ab 0) = [] by decide]; exact Sx.none W⟩
theorem top_ln {A B x z : Int} (hA : -1000 ≤ A ∧ A ≤ 1000) (hBB : -10000 ≤ B ∧ B ≤ 10000) (lx' : ln x ≤ 80) (lz' : ln z ≤ 80) : ln (topZ A B x z) ≤ 8000 := by
 unfold topZ
 have a1 := ln_small (a := 2 * A) (by omega) (by omega)
 have a2 := ln_small (a := 8 * B) (by omega) (by omega)
 have hAA := mul_bd (a := A) (b := A) (A := 1000) (B := 1000) (by omega) (by omega)
 have a3 := ln_small (a := A * A) (by omega) (by omega)
 have xx := ln_mul_le lx' lx'
 have zz := ln_mul_le lz' lz'
 have xz := ln_mul_le lx' lz'
 have b1 : ln (x * x * (x * x)) ≤ 330 := Nat.le_trans (ln_mul_le xx xx) (by omega)
 have b2 : ln (x * x * (z * z) * (2 * A)) ≤ 330 := Nat.le_trans (ln_mul_le (ln_mul_le xx zz) a1) (by omega)
 have b3 : ln (x * z * (z * z) * (8 * B)) ≤ 331 := Nat.le_trans (ln_mul_le (ln_mul_le xz zz) a2) (by omega)
 have b4 : ln (z * z * (z * z) * (A * A)) ≤ 332 := Nat.le_trans (ln_mul_le (ln_mul_le zz zz) a3) (by omega)
 exact Nat.le_trans (ln_add_le (ln_sub_le (ln_sub_le b1 b2) b3) b4) (by omega)
theorem bot_ln {A B x z : Int} (hA : -1000 ≤ A ∧ A ≤ 1000) (hBB : -10000 ≤ B ∧ B ≤ 10000) (lx' : ln x ≤ 80) (lz' : ln z ≤ 80) : ln (botZ A B x z) ≤ 8000 := by
 unfold botZ
 have a1 := ln_small (a := A) (by omega) (by omega)
 have a2 := ln_small (a := B) (by omega) (by omega)
 have a4 := ln_small (a := 4) (by omega) (by omega)
 have zz := ln_mul_le lz' lz'
 have b1 : ln (x * x * x) ≤ 330 := Nat.le_trans (ln_mul_le (ln_mul_le lx' lx') lx') (by omega)
 have b2 : ln (x * (z * z) * A) ≤ 330 := Nat.le_trans (ln_mul_le (ln_mul_le lx' zz) a1) (by omega)
 have b3 : ln (z * (z * z) * B) ≤ 331 := Nat.le_trans (ln_mul_le (ln_mul_le lz' zz) a2) (by omega)
 exact Nat.le_trans (ln_mul_le (ln_mul_le lz' (ln_add_le (ln_add_le b1 b2) b3)) a4) (by omega)
theorem xdDouble_any (A B x z : Int) (b b2 : Bool) (a a2 : Option Addr) (n c n2 c2 : Nat) (w : World) (hA : -1000 ≤ A ∧ A ≤ 1000) (hBB : -10000 ≤ B ∧ B ≤ 10000) (hcv : coV A B ≠ 0) (hx : Wx w b a n c x) (hz : Wx w b2 a2 n2 c2 z) (lx : ln x ≤ 80) (lz : ln z ≤ 80) :
  Calls Tryz.prog 97 #[.agg #[.int .i64 A, .int .i64 B], .agg #[.bool b, .slice a n c, .bool b2, .slice a2 n2 c2]] w (NewRR w (dbl (4 * absI (coV A B)) A B x z).1 (dbl (4 * absI (coV A B)) A B x z).2.1 (dbl (4 * absI (coV A B)) A B x z).2.2) := by
 obtain ⟨t, ht0⟩ : ∃ v, topZ A B x z = v := ⟨_, rfl⟩
 obtain ⟨s, hs0⟩ : ∃ v, botZ A B x z = v := ⟨_, rfl⟩
 have TT : ∀ W, Wx W b a n c x → Wx W b2 a2 n2 c2 z → Calls Tryz.prog 113 #[.agg #[.int .i64 A, .int .i64 B], .agg #[.bool b, .slice a n c, .bool b2, .slice a2 n2 c2]] W (NewW W t) := fun W h1 h2 => ht0 ▸ xdTop_any A B x z b b2 a a2 n c n2 c2 W hA hBB h1 h2 lx lz
 have TS : ∀ W, Wx W b a n c x → Wx W b2 a2 n2 c2 z → Calls Tryz.prog 96 #[.agg #[.int .i64 A, .int .i64 B], .agg #[.bool b, .slice a n c, .bool b2, .slice a2 n2 c2]] W (NewW W s) := fun W h1 h2 => hs0 ▸ xdBottom_any A B x z b b2 a a2 n c n2 c2 W hA hBB h1 h2 lx lz
 have hlt : ln t ≤ 8000 := by rw [← ht0]; exact top_ln hA hBB lx lz
 have hls : ln s ≤ 8000 := by rw [← hs0]; exact bot_ln hA hBB lx lz
 have hN : 1 ≤ 4 * absI (coV A B) := by unfold absI; omega
 have hD : (s = 0 ∧ dbl (4 * absI (coV A B)) A B x z = (0, 0, false)) ∨ (s ≠ 0 ∧ (raB (dbN (4 * absI (coV A B)) t s) (dbD (4 * absI (coV A B)) t s) = true ∧ dbl (4 * absI (coV A B)) A B x z = (dbN (4 * absI (coV A B)) t s, dbD (4 * absI (coV A B)) t s, true) ∨ raB (dbN (4 * absI (coV A B)) t s) (dbD (4 * absI (coV A B)) t s) = false ∧ dbl (4 * absI (coV A B)) A B x z = (0, 0, false))) := by
  unfold dbl
  rw [ht0, hs0]
  by_cases h : s = 0
  ·left; exact ⟨h, by rw [if_pos h]⟩
  ·right
   refine ⟨h, ?_⟩
   rw [if_neg h]
   cases hr : raB (dbN (4 * absI (coV A B)) t s) (dbD (4 * absI (coV A B)) t s)
   ·right; exact ⟨rfl, by simp⟩
   ·left; exact ⟨rfl, by simp⟩
 clear ht0 hs0
 rcases hD with ⟨h0, hd⟩ | ⟨h0, hd⟩
 ·rw [hd]
  have hs00 := ln_zero.2 h0
  clear hd
  have H0 := Lib.hid h0
  clear h0
  have tok1 := trivial
  have tok2 := trivial
  have tok3 := trivial
  have tok4 := trivial
  have tok5 := trivial
  have tok6 := trivial
  have tok7 := trivial
  have tok8 := trivial
  have tok9 := trivial
  go_enter Tryz.func97, Tryz.ntmps97
  go_wp2_with fail
  refine chk (fun W => Below w.heap.size w W ∧ W.heap[w.heap.size]? = some (.cells #[.int .i64 A, .int .i64 B] 32 (0, 0)) ∧ W.heap[w.heap.size + 1]? = some (.cells #[.bool b, .slice a n c, .bool b2, .slice a2 n2 c2] 107 (0, 0)) ∧ W.heap[w.heap.size + 1 + 1]? = some (.cells #[.bool false, .slice none 0 0, .bool false, .slice none 0 0] 107 (0, 0)) ∧ Wx W b a n c x ∧ Wx W b2 a2 n2 c2 z) (by refine ⟨?_, ?_, ?_, ?_, ?_, ?_⟩ <;> (exact ck)) ?_
  try clear hx
  try clear hz
  rintro w1 ⟨hB1, xv, xw, xy, hx', hz'⟩
  obtain ⟨jr, jt, Zt, nd⟩ := bk2 xv
  replace xv := Lib.hid xv
  obtain ⟨ju, jv, jw, jx, Zu, nf⟩ := bk4 xw
  replace xw := Lib.hid xw
  obtain ⟨mb, mc, me, mf, Zv, ng⟩ := bk4 xy
  replace xy := Lib.hid xy
  have hx := hx'
  clear hx'
  have hz := hz'
  clear hz'
  refine wp_open (n := 8) (by kernel_rfl) (by kernel_rfl) (by kernel_rfl) (by kernel_rfl) ?_
  simp only [List.take_succ_cons, List.take_zero]
  apply wpS_quiet
  ·intro γ W hW hp
   have hs := hW.size
   (try simp only [sA, sB, sC, sD] at hs)
   have bk := fun x => (xcA hW (w.heap.size) 0 (by first | omega | go_size) x).trans jr
   have bm := fun x => (xcA hW (w.heap.size) 1 (by first | omega | go_size) x).trans jt
   clear hW hp
   refine ⟨rfl, ?_⟩
   go_big_quiet_op
   first | exact rfl
  ·exact locS_const _
  try simp only [Act.put, List.setIfInBounds_toArray, List.set_cons_succ, List.set_cons_zero, Nat.reduceAdd]
  apply wpS_quiet
  ·intro γ W hW hp
   have hs := hW.size
   (try simp only [sA, sB, sC, sD] at hs)
   have bk := fun x => (xcA hW (w.heap.size + 1) 0 (by first | omega | go_size) x).trans ju
   have bm := fun x => (xcA hW (w.heap.size + 1) 1 (by first | omega | go_size) x).trans jv
   have Jz := fun x => (xcA hW (w.heap.size + 1) 2 (by first | omega | go_size) x).trans jw
   have Ya := fun x => (xcA hW (w.heap.size + 1) 3 (by first | omega | go_size) x).trans jx
   clear hW hp
   refine ⟨rfl, ?_⟩
   go_big_quiet_op
   first | exact rfl
  ·exact locS_const _
  try simp only [Act.put, List.setIfInBounds_toArray, List.set_cons_succ, List.set_cons_zero, Nat.reduceAdd]
  apply wpS_open (openW w.heap.size t)
  ·intro γ W hW hp
   refine ⟨rfl, ?_⟩
   go_simp
   refine plainNew rfl ?_
   exact open_W (TT W (hx.below hW) (hz.below hW)) (by (have := hW.size; (try simp only [sA, sB, sC, sD] at this); omega))
  try simp only [Act.put, List.setIfInBounds_toArray, List.set_cons_succ, List.set_cons_zero, Nat.reduceAdd]
  apply wpS_quiet
  ·intro γ W hW hp
   have hs := hW.size
   (try simp only [sA, sB, sC, sD] at hs)
   have bk := fun x => (xcA hW (w.heap.size) 0 (by first | omega | go_size) x).trans jr
   have bm := fun x => (xcA hW (w.heap.size) 1 (by first | omega | go_size) x).trans jt
   clear hW hp
   refine ⟨rfl, ?_⟩
   go_big_quiet_op
   first | exact rfl
  ·exact locS_const _
  try simp only [Act.put, List.setIfInBounds_toArray, List.set_cons_succ, List.set_cons_zero, Nat.reduceAdd]
  apply wpS_quiet
  ·intro γ W hW hp
   have hs := hW.size
   (try simp only [sA, sB, sC, sD] at hs)
   have bk := fun x => (xcA hW (w.heap.size + 1) 0 (by first | omega | go_size) x).trans ju
   have bm := fun x => (xcA hW (w.heap.size + 1) 1 (by first | omega | go_size) x).trans jv
   have Jz := fun x => (xcA hW (w.heap.size + 1) 2 (by first | omega | go_size) x).trans jw
   have Ya := fun x => (xcA hW (w.heap.size + 1) 3 (by first | omega | go_size) x).trans jx
   clear hW hp
   refine ⟨rfl, ?_⟩
   go_big_quiet_op
   first | exact rfl
  ·exact locS_const _
  try simp only [Act.put, List.setIfInBounds_toArray, List.set_cons_succ, List.set_cons_zero, Nat.reduceAdd]
  apply wpS_open (openW w.heap.size s)
  ·intro γ W hW hp
   refine ⟨rfl, ?_⟩
   go_simp
   refine plainNew rfl ?_
   exact open_W (TS W (hx.below hW) (hz.below hW)) (by (have := hW.size; (try simp only [sA, sB, sC, sD] at this); omega))
  try simp only [Act.put, List.setIfInBounds_toArray, List.set_cons_succ, List.set_cons_zero, Nat.reduceAdd]
  apply wpS_open (newBox _ _ _)
  ·intro γ W hW hp
   refine ⟨rfl, ?_⟩
   go_simp
   exact ⟨⟨⟨_, rfl, hW.size, heap_alloc_new _ _⟩, fun _ => ⟨_, rfl, Nat.le_refl _, by simp⟩⟩, (Below.refl _ _).alloc (Nat.le_refl _) _⟩
  try simp only [Act.put, List.setIfInBounds_toArray, List.set_cons_succ, List.set_cons_zero, Nat.reduceAdd]
  apply wpS_open (newBox _ _ _)
  ·intro γ W hW hp
   refine ⟨rfl, ?_⟩
   go_simp
   exact ⟨⟨⟨_, rfl, hW.size, heap_alloc_new _ _⟩, fun _ => ⟨_, rfl, Nat.le_refl _, by simp⟩⟩, (Below.refl _ _).alloc (Nat.le_refl _) _⟩
  try simp only [Act.put, List.setIfInBounds_toArray, List.set_cons_succ, List.set_cons_zero, Nat.reduceAdd]
  apply wpS_end
  intro γ w2 hb2 hG2 hA2
  have nh := hG2 _ (mL _ (mL _ (mL _ (mR _))))
  dsimp only at nh
  have ni := hG2 _ (mL _ (mL _ (mR _)))
  dsimp only at ni
  obtain ⟨qd, gv, vb, vc⟩ := hG2 _ (mL _ (mR _))
  dsimp only at gv vb vc
  obtain ⟨qa, gy, vd, vf⟩ := hG2 _ (mR _)
  dsimp only at gy vd vf
  have Zw := fun o => blk_cell vc o
  have Zx := fun o => blk_frozen vc o
  have Us := blk_lt' vc
  have Zy := fun o => blk_cell vf o
  have Zz := fun o => blk_frozen vf o
  have Ut := blk_lt' vf
  have Yb : qd ≠ qa := fun ee => hA2 _ (mL _ (mR _)) _ (mR _) rfl rfl (show (6 : Nat) ≠ 7 by decide) (by dsimp only; rw [gv, gy, ee])
  have Vd : w.heap.size ≠ qd := Nat.ne_of_lt (Nat.lt_of_lt_of_le nd vb)
  have Ve : w.heap.size + 1 ≠ qd := Nat.ne_of_lt (Nat.lt_of_lt_of_le nf vb)
  have Vf : w.heap.size + 1 + 1 ≠ qd := Nat.ne_of_lt (Nat.lt_of_lt_of_le ng vb)
  have Uu : w.heap.size ≤ qd := Nat.le_trans hB1.size vb
  have Vg : w.heap.size ≠ qa := Nat.ne_of_lt (Nat.lt_of_lt_of_le nd vd)
  have Vh : w.heap.size + 1 ≠ qa := Nat.ne_of_lt (Nat.lt_of_lt_of_le nf vd)
  have Vi : w.heap.size + 1 + 1 ≠ qa := Nat.ne_of_lt (Nat.lt_of_lt_of_le ng vd)
  have Uv : w.heap.size ≤ qa := Nat.le_trans hB1.size vd
  clear hG2 hA2
  try simp only [gv, gy]
  clear gv
  clear gy
  simp only [List.drop_succ_cons, List.drop_zero]
  have hz2 := hb2.size
  (try simp only [sA, sB, sC, sD] at hz2)
  obtain ⟨b3, a3, n3, c3, e3, ht, -⟩ := nh
  obtain ⟨b4, a4, n4, c4, e4, hs, -⟩ := ni
  simp only [e3, e4]
  clear e3 e4
  have za := (hb2.block (w.heap.size) (blk_lt' xv.out)).trans xv.out
  clear jr jt Zt xv
  obtain ⟨mg, mh, Ja, Uw⟩ := bk2 za
  replace za := Lib.hid za
  have zb := (hb2.block (w.heap.size + 1) (blk_lt' xw.out)).trans xw.out
  clear ju jv jw jx Zu xw
  obtain ⟨mi, mj, ml, mn, Jb, Ux⟩ := bk4 zb
  replace zb := Lib.hid zb
  have zc := (hb2.block (w.heap.size + 1 + 1) (blk_lt' xy.out)).trans xy.out
  clear mb mc me mf Zv xy
  obtain ⟨mo, mp, mq, mr, Jc, Uy⟩ := bk4 zc
  replace zc := Lib.hid zc
  replace hx := hx.below hb2
  replace hz := hz.below hb2
  have hB2 : Below w.heap.size w w2 := below_via hb2 (by assumption) (by go_size)
  go_upto_region 2 with (fail)
  replace za := za.out
  replace zb := zb.out
  replace zc := zc.out
  refine chk (fun W => Below w.heap.size w W ∧ W.heap[w.heap.size]? = some (.cells #[.int .i64 A, .int .i64 B] 32 (0, 0)) ∧ W.heap[w.heap.size + 1 + 1]? = some (.cells #[.bool false, .slice none 0 0, .bool false, .slice none 0 0] 107 (0, 0)) ∧ W.heap[qd]? = some (.cells #[.bool b3, .slice a3 n3 c3] 80 (0, 0)) ∧ W.heap[qa]? = some (.cells #[.bool b4, .slice a4 n4 c4] 80 (0, 0)) ∧ Wx W b3 a3 n3 c3 t ∧ Wx W b4 a4 n4 c4 s) (by refine ⟨?_, ?_, ?_, ?_, ?_, ?_, ?_⟩ <;> (exact ck)) ?_
  try clear ht
  try clear hs
  clear mg mh Ja za
  clear mi mj ml mn Jb zb
  clear mo mp mq mr Jc zc
  clear hB2
  try clear Zw
  try clear Zx
  try clear vc
  try clear Zy
  try clear Zz
  try clear vf
  rintro w3 ⟨hB3, zd, qw, ze, zf, ht', hs'⟩
  obtain ⟨mu, mv, Jd, Uz⟩ := bk2 zd
  replace zd := Lib.hid zd
  obtain ⟨fe, ff, fh, fi, Je, Ga⟩ := bk4 qw
  replace qw := Lib.hid qw
  obtain ⟨mw, mx, Jf, Gb⟩ := bk2 ze
  replace ze := Lib.hid ze
  obtain ⟨my, mz, Jg, Gc⟩ := bk2 zf
  replace zf := Lib.hid zf
  have ht := ht'
  clear ht'
  have hs := hs'
  clear hs'
  obtain rfl : n4 = 0 := by rw [hs.ln]; exact hs00
  clear hA hBB hcv hx hz lx lz TT TS hlt hls hN ht hs
  go_wp2_with fail
  refine bodyPost_ret (v := .tuple #[.agg #[.bool false, .slice none 0 0, .bool false, .slice none 0 0], .bool false]) (by simp [results, Tryz.results97, go_sem, fe, ff, fh, fi]) rfl ⟨_, _, _, _, _, _, _, _, rfl, Wx.zero' _, Wx.zero' _, fr_none _, fr_none _, ?_⟩
  have HO := qw.out
  (exact ck)
 ·obtain ⟨t1, ht1⟩ : ∃ v, sgZ s t = v := ⟨_, rfl⟩
  obtain ⟨s1, hs1⟩ : ∃ v, sgZ s s = v := ⟨_, rfl⟩
  have hs00 : ln s ≠ 0 := fun e => h0 (ln_zero.1 e)
  have hsp := db_spec (4 * absI (coV A B)) t s
  rw [ht1, hs1] at hsp
  have lt1 : ln t1 ≤ 8000 := by rw [← ht1]; unfold sgZ; split <;> (try rw [ln_neg]) <;> omega
  have ls1 : ln s1 ≤ 8000 := by rw [← hs1]; unfold sgZ; split <;> (try rw [ln_neg]) <;> omega
  have hd1 := dv_pos (n := 4 * absI (coV A B)) (t := t1) (b := s1) (by omega)
  have hd2 := dv_le (n := 4 * absI (coV A B)) (t := t1) (b := s1) (by omega)
  have hcb := coV_bd hA hBB
  have hab : absI (coV A B) ≤ 6700000000 := by unfold absI; omega
  have TD0 : ∀ W (b : Bool) (a : Option Addr) (n c : Nat) (b2 : Bool) (a2 : Option Addr) (n2 c2 : Nat), Wx W b a n c t1 → Wx W b2 a2 n2 c2 s1 → Calls Tryz.prog 115 #[.agg #[.int .i64 A, .int .i64 B], .agg #[.bool b, .slice a n c], .agg #[.bool b2, .slice a2 n2 c2]] W fun e w' => e = .returned (.int .i64 (dvZ (4 * absI (coV A B)) t1 s1)) ∧ Below W.heap.size W w' := fun W b a n c b2 a2 n2 c2 h1 h2 => xdDivisor_any A B t1 s1 b b2 a a2 n c n2 c2 W hA hBB hcv h1 h2 lt1 ls1
  obtain ⟨p, hp⟩ : ∃ v, dbN (4 * absI (coV A B)) t s = v := ⟨_, rfl⟩
  obtain ⟨q, hq⟩ : ∃ v, dbD (4 * absI (coV A B)) t s = v := ⟨_, rfl⟩
  rw [hp, hq] at hsp hd
  generalize dbl (4 * absI (coV A B)) A B x z = DB at *
  generalize dvZ (4 * absI (coV A B)) t1 s1 = d at *
  have TO1 : ∀ W (b : Bool) (a : Option Addr) (n c : Nat), Wx W b a n c t1 → Calls Tryz.prog 116 #[.agg #[.bool b, .slice a n c], .int .i64 d] W (NewQp W p) := fun W b a n c h1 => (bgOver_any b a n c t1 d W h1 (by have := h1.ln; omega) (by omega) (by omega)).mono fun e w' h => h.qp hsp.1
  have TO2 : ∀ W (b : Bool) (a : Option Addr) (n c : Nat), Wx W b a n c s1 → Calls Tryz.prog 116 #[.agg #[.bool b, .slice a n c], .int .i64 d] W (NewQp W q) := fun W b a n c h1 => (bgOver_any b a n c s1 d W h1 (by have := h1.ln; omega) (by omega) (by omega)).mono fun e w' h => h.qp hsp.2
  have TG0 : ∀ W (b : Bool) (a : Option Addr) (n c : Nat) (b2 : Bool) (a2 : Option Addr) (n2 c2 : Nat), Wx W b a n c p → Wx W b2 a2 n2 c2 q → Calls Tryz.prog 117 #[.agg #[.bool b, .slice a n c, .bool b2, .slice a2 n2 c2]] W fun e w' => e = .returned (.bool (raB p q)) ∧ Below W.heap.size W w' := fun W b a n c b2 a2 n2 c2 h1 h2 => xdGood_any b b2 a a2 n c n2 c2 p q W h1 h2
  have hD2 : ∃ R, raB p q = R ∧ (R = true ∧ DB = (p, q, true) ∨ R = false ∧ DB = (0, 0, false)) := ⟨_, rfl, hd⟩
  obtain ⟨R, hR, hR2⟩ := hD2
  have TD := TD0
  have TG := TG0
  rw [hR] at TG
  clear hd hsp hd1 hd2 hcb hab hp hq TD0 TG0 hR hcv
  have HT1 := Lib.hid ht1
  have HS1 := Lib.hid hs1
  have H0 := Lib.hid h0
  clear ht1 hs1 h0
  have HRR := Lib.hid hR2
  clear hR2
  have tok1 := trivial
  have tok2 := trivial
  have tok3 := trivial
  have tok4 := trivial
  have tok5 := trivial
  have tok6 := trivial
  have tok7 := trivial
  have tok8 := trivial
  have tok9 := trivial
  have tok10 := trivial
  have tok11 := trivial
  have tok12 := trivial
  have tok13 := trivial
  have tok14 := trivial
  go_enter Tryz.func97, Tryz.ntmps97
  go_wp2_with fail
  refine chk (fun W => Below w.heap.size w W ∧ W.heap[w.heap.size]? = some (.cells #[.int .i64 A, .int .i64 B] 32 (0, 0)) ∧ W.heap[w.heap.size + 1]? = some (.cells #[.bool b, .slice a n c, .bool b2, .slice a2 n2 c2] 107 (0, 0)) ∧ W.heap[w.heap.size + 1 + 1]? = some (.cells #[.bool false, .slice none 0 0, .bool false, .slice none 0 0] 107 (0, 0)) ∧ Wx W b a n c x ∧ Wx W b2 a2 n2 c2 z) (by refine ⟨?_, ?_, ?_, ?_, ?_, ?_⟩ <;> (exact ck)) ?_
  try clear hx
  try clear hz
  rintro w1 ⟨hB1, xv, xw, xy, hx', hz'⟩
  obtain ⟨jr, jt, Zt, nd⟩ := bk2 xv
  replace xv := Lib.hid xv
  obtain ⟨ju, jv, jw, jx, Zu, nf⟩ := bk4 xw
  replace xw := Lib.hid xw
  obtain ⟨mb, mc, me, mf, Zv, ng⟩ := bk4 xy
  replace xy := Lib.hid xy
  have hx := hx'
  clear hx'
  have hz := hz'
  clear hz'
  refine wp_open (n := 8) (by kernel_rfl) (by kernel_rfl) (by kernel_rfl) (by kernel_rfl) ?_
  simp only [List.take_succ_cons, List.take_zero]
  apply wpS_quiet
  ·intro γ W hW hp
   have hs := hW.size
   (try simp only [sA, sB, sC, sD] at hs)
   have bk := fun x => (xcA hW (w.heap.size) 0 (by first | omega | go_size) x).trans jr
   have bm := fun x => (xcA hW (w.heap.size) 1 (by first | omega | go_size) x).trans jt
   clear hW hp
   refine ⟨rfl, ?_⟩
   go_big_quiet_op
   first | exact rfl
  ·exact locS_const _
  try simp only [Act.put, List.setIfInBounds_toArray, List.set_cons_succ, List.set_cons_zero, Nat.reduceAdd]
  apply wpS_quiet
  ·intro γ W hW hp
   have hs := hW.size
   (try simp only [sA, sB, sC, sD] at hs)
   have bk := fun x => (xcA hW (w.heap.size + 1) 0 (by first | omega | go_size) x).trans ju
   have bm := fun x => (xcA hW (w.heap.size + 1) 1 (by first | omega | go_size) x).trans jv
   have Jz := fun x => (xcA hW (w.heap.size + 1) 2 (by first | omega | go_size) x).trans jw
   have Ya := fun x => (xcA hW (w.heap.size + 1) 3 (by first | omega | go_size) x).trans jx
   clear hW hp
   refine ⟨rfl, ?_⟩
   go_big_quiet_op
   first | exact rfl
  ·exact locS_const _
  try simp only [Act.put, List.setIfInBounds_toArray, List.set_cons_succ, List.set_cons_zero, Nat.reduceAdd]
  apply wpS_open (openW w.heap.size t)
  ·intro γ W hW hp
   refine ⟨rfl, ?_⟩
   go_simp
   refine plainNew rfl ?_
   exact open_W (TT W (hx.below hW) (hz.below hW)) (by (have := hW.size; (try simp only [sA, sB, sC, sD] at this); omega))
  try simp only [Act.put, List.setIfInBounds_toArray, List.set_cons_succ, List.set_cons_zero, Nat.reduceAdd]
  apply wpS_quiet
  ·intro γ W hW hp
   have hs := hW.size
   (try simp only [sA, sB, sC, sD] at hs)
   have bk := fun x => (xcA hW (w.heap.size) 0 (by first | omega | go_size) x).trans jr
   have bm := fun x => (xcA hW (w.heap.size) 1 (by first | omega | go_size) x).trans jt
   clear hW hp
   refine ⟨rfl, ?_⟩
   go_big_quiet_op
   first | exact rfl
  ·exact locS_const _
  try simp only [Act.put, List.setIfInBounds_toArray, List.set_cons_succ, List.set_cons_zero, Nat.reduceAdd]
  apply wpS_quiet
  ·intro γ W hW hp
   have hs := hW.size
   (try simp only [sA, sB, sC, sD] at hs)
   have bk := fun x => (xcA hW (w.heap.size + 1) 0 (by first | omega | go_size) x).trans ju
   have bm := fun x => (xcA hW (w.heap.size + 1) 1 (by first | omega | go_size) x).trans jv
   have Jz := fun x => (xcA hW (w.heap.size + 1) 2 (by first | omega | go_size) x).trans jw
   have Ya := fun x => (xcA hW (w.heap.size + 1) 3 (by first | omega | go_size) x).trans jx
   clear hW hp
   refine ⟨rfl, ?_⟩
   go_big_quiet_op
   first | exact rfl
  ·exact locS_const _
  try simp only [Act.put, List.setIfInBounds_toArray, List.set_cons_succ, List.set_cons_zero, Nat.reduceAdd]
  apply wpS_open (openW w.heap.size s)
  ·intro γ W hW hp
   refine ⟨rfl, ?_⟩
   go_simp
   refine plainNew rfl ?_
   exact open_W (TS W (hx.below hW) (hz.below hW)) (by (have := hW.size; (try simp only [sA, sB, sC, sD] at this); omega))
  try simp only [Act.put, List.setIfInBounds_toArray, List.set_cons_succ, List.set_cons_zero, Nat.reduceAdd]
  apply wpS_open (newBox _ _ _)
  ·intro γ W hW hp
   refine ⟨rfl, ?_⟩
   go_simp
   exact ⟨⟨⟨_, rfl, hW.size, heap_alloc_new _ _⟩, fun _ => ⟨_, rfl, Nat.le_refl _, by simp⟩⟩, (Below.refl _ _).alloc (Nat.le_refl _) _⟩
  try simp only [Act.put, List.setIfInBounds_toArray, List.set_cons_succ, List.set_cons_zero, Nat.reduceAdd]
  apply wpS_open (newBox _ _ _)
  ·intro γ W hW hp
   refine ⟨rfl, ?_⟩
   go_simp
   exact ⟨⟨⟨_, rfl, hW.size, heap_alloc_new _ _⟩, fun _ => ⟨_, rfl, Nat.le_refl _, by simp⟩⟩, (Below.refl _ _).alloc (Nat.le_refl _) _⟩
  try simp only [Act.put, List.setIfInBounds_toArray, List.set_cons_succ, List.set_cons_zero, Nat.reduceAdd]
  apply wpS_end
  intro γ w2 hb2 hG2 hA2
  have nh := hG2 _ (mL _ (mL _ (mL _ (mR _))))
  dsimp only at nh
  have ni := hG2 _ (mL _ (mL _ (mR _)))
  dsimp only at ni
  obtain ⟨qd, gv, vb, vc⟩ := hG2 _ (mL _ (mR _))
  dsimp only at gv vb vc
  obtain ⟨qa, gy, vd, vf⟩ := hG2 _ (mR _)
  dsimp only at gy vd vf
  have Zw := fun o => blk_cell vc o
  have Zx := fun o => blk_frozen vc o
  have Us := blk_lt' vc
  have Zy := fun o => blk_cell vf o
  have Zz := fun o => blk_frozen vf o
  have Ut := blk_lt' vf
  have Yb : qd ≠ qa := fun ee => hA2 _ (mL _ (mR _)) _ (mR _) rfl rfl (show (6 : Nat) ≠ 7 by decide) (by dsimp only; rw [gv, gy, ee])
  have Vd : w.heap.size ≠ qd := Nat.ne_of_lt (Nat.lt_of_lt_of_le nd vb)
  have Ve : w.heap.size + 1 ≠ qd := Nat.ne_of_lt (Nat.lt_of_lt_of_le nf vb)
  have Vf : w.heap.size + 1 + 1 ≠ qd := Nat.ne_of_lt (Nat.lt_of_lt_of_le ng vb)
  have Uu : w.heap.size ≤ qd := Nat.le_trans hB1.size vb
  have Vg : w.heap.size ≠ qa := Nat.ne_of_lt (Nat.lt_of_lt_of_le nd vd)
  have Vh : w.heap.size + 1 ≠ qa := Nat.ne_of_lt (Nat.lt_of_lt_of_le nf vd)
  have Vi : w.heap.size + 1 + 1 ≠ qa := Nat.ne_of_lt (Nat.lt_of_lt_of_le ng vd)
  have Uv : w.heap.size ≤ qa := Nat.le_trans hB1.size vd
  clear hG2 hA2
  try simp only [gv, gy]
  clear gv
  clear gy
  simp only [List.drop_succ_cons, List.drop_zero]
  have hz2 := hb2.size
  (try simp only [sA, sB, sC, sD] at hz2)
  obtain ⟨b3, a3, n3, c3, e3, ht, -⟩ := nh
  obtain ⟨b4, a4, n4, c4, e4, hs, -⟩ := ni
  simp only [e3, e4]
  clear e3 e4
  have za := (hb2.block (w.heap.size) (blk_lt' xv.out)).trans xv.out
  clear jr jt Zt xv
  obtain ⟨mg, mh, Ja, Uw⟩ := bk2 za
  replace za := Lib.hid za
  have zb := (hb2.block (w.heap.size + 1) (blk_lt' xw.out)).trans xw.out
  clear ju jv jw jx Zu xw
  obtain ⟨mi, mj, ml, mn, Jb, Ux⟩ := bk4 zb
  replace zb := Lib.hid zb
  have zc := (hb2.block (w.heap.size + 1 + 1) (blk_lt' xy.out)).trans xy.out
  clear mb mc me mf Zv xy
  obtain ⟨mo, mp, mq, mr, Jc, Uy⟩ := bk4 zc
  replace zc := Lib.hid zc
  replace hx := hx.below hb2
  replace hz := hz.below hb2
  have hB2 : Below w.heap.size w w2 := below_via hb2 (by assumption) (by go_size)
  go_upto_region 2 with (fail)
  replace za := za.out
  replace zb := zb.out
  replace zc := zc.out
  refine chk (fun W => Below w.heap.size w W ∧ W.heap[w.heap.size]? = some (.cells #[.int .i64 A, .int .i64 B] 32 (0, 0)) ∧ W.heap[w.heap.size + 1 + 1]? = some (.cells #[.bool false, .slice none 0 0, .bool false, .slice none 0 0] 107 (0, 0)) ∧ W.heap[qd]? = some (.cells #[.bool b3, .slice a3 n3 c3] 80 (0, 0)) ∧ W.heap[qa]? = some (.cells #[.bool b4, .slice a4 n4 c4] 80 (0, 0)) ∧ Wx W b3 a3 n3 c3 t ∧ Wx W b4 a4 n4 c4 s) (by refine ⟨?_, ?_, ?_, ?_, ?_, ?_, ?_⟩ <;> (exact ck)) ?_
  try clear ht
  try clear hs
  clear mg mh Ja za
  clear mi mj ml mn Jb zb
  clear mo mp mq mr Jc zc
  clear hB2
  try clear Zw
  try clear Zx
  try clear vc
  try clear Zy
  try clear Zz
  try clear vf
  rintro w3 ⟨hB3, zd, qw, ze, zf, ht', hs'⟩
  obtain ⟨mu, mv, Jd, Uz⟩ := bk2 zd
  replace zd := Lib.hid zd
  obtain ⟨fe, ff, fh, fi, Je, Ga⟩ := bk4 qw
  replace qw := Lib.hid qw
  obtain ⟨mw, mx, Jf, Gb⟩ := bk2 ze
  replace ze := Lib.hid ze
  obtain ⟨my, mz, Jg, Gc⟩ := bk2 zf
  replace zf := Lib.hid zf
  have ht := ht'
  clear ht'
  have hs := hs'
  clear hs'
  clear TT TS
  have hn4 : n4 ≠ 0 := by rw [hs.ln]; exact hs00
  have hn4' : ((n4 : Int) == 0) = false := by simp; omega
  have hn3 : n3 ≤ 8000 := by rw [ht.ln]; exact hlt
  have hn4b : n4 ≤ 8000 := by rw [hs.ln]; exact hls
  have hb4n := Lib.hid hs.neg
  by_cases hneg : s < 0
  ·obtain rfl : b4 = true := by rw [hb4n.out]; simp [ngB, hneg]
   have et := Lib.hid (show -t = t1 by rw [← HT1.out]; simp [sgZ, hneg])
   have es := Lib.hid (show -s = s1 by rw [← HS1.out]; simp [sgZ, hneg])
   go_upto_region 6 with (first | (have _t := tok4; go_at_call 114; (with_reducible refine ((bgMinus_any b3 a3 n3 c3 t _ (ht.below bel) (by omega))).mono ?_); rintro e w4 ⟨b5, a5, n5, c5, rfl, ht5, f5, hb4⟩; clear tok4 _t; have hz4 := hb4.size; (try simp only [sA, sB, sC, sD] at hz4); (try (obtain ⟨kq, nj⟩ := cfAt hb4 (w.heap.size); have ka := kq 0; have kb := kq 1; clear kq; simp [go_sem, *] at ka kb nj)); (try have Za : w.heap.size < w4.heap.size := by omega); (try (obtain ⟨kq, nk⟩ := cfAt hb4 (w.heap.size + 1); have kc := kq 0; have kd := kq 1; have ke := kq 2; have kf := kq 3; clear kq; simp [go_sem, *] at kc kd ke kf nk)); (try have Zb : w.heap.size + 1 < w4.heap.size := by omega); (try (obtain ⟨kq, nl⟩ := cfAt hb4 (w.heap.size + 1 + 1); have kh := kq 0; have ki := kq 1; have kj := kq 2; have kl := kq 3; clear kq; simp [go_sem, *] at kh ki kj kl nl)); (try have Zc : w.heap.size + 1 + 1 < w4.heap.size := by omega); (try (obtain ⟨kq, fj⟩ := cfAt hb4 (qd); have uk := kq 0; have ul := kq 1; clear kq; simp [go_sem, *] at uk ul fj)); (try have Qa : qd < w4.heap.size := by omega); (try (obtain ⟨kq, fk⟩ := cfAt hb4 (qa); have um := kq 0; have un := kq 1; clear kq; simp [go_sem, *] at um un fk)); (try have Qb : qa < w4.heap.size := by omega); (try clear Hc Hd Hm); (try clear Hn); (try clear He Hf Hg Hh Ho); (try clear Hp); (try clear Hi Hj Hk Hl Hq); (try clear Hr); (try clear Yc Yd Ws); (try clear Wt); (try clear Ye Yf Yg Yh Wu); (try clear Wv); (try clear Yi Yj Yk Yl Ww); (try clear Wy); (try clear Ym Yn Wz); (try clear Ua); (try clear Yo Yp Yq Yr Ub); (try clear Uc); (try clear Ys Yt Yu Yv Ud); (try clear Ue); (try clear Jv Jw Vj); (try clear Vk); (try clear Jx Jy Vl); (try clear Vm)))
   have fl := (hb4.block (w.heap.size) (blk_lt' zd.out)).trans zd.out
   clear mu mv Jd zd
   obtain ⟨Vn, Vo, Gd, Hs⟩ := bk2 fl
   replace fl := Lib.hid fl
   have fm := (hb4.block (w.heap.size + 1 + 1) (blk_lt' qw.out)).trans qw.out
   clear fe ff fh fi Je qw
   obtain ⟨Vp, Vq, Vr, Vs, Ge, Ht⟩ := bk4 fm
   replace fm := Lib.hid fm
   have fn := (hb4.block (qd) (blk_lt' ze.out)).trans ze.out
   clear mw mx Jf ze
   obtain ⟨Vt, Vu, Gf, Hu⟩ := bk2 fn
   replace fn := Lib.hid fn
   have fo := (hb4.block (qa) (blk_lt' zf.out)).trans zf.out
   clear my mz Jg zf
   obtain ⟨Vv, Vw, Gg, Hv⟩ := bk2 fo
   replace fo := Lib.hid fo
   replace ht := ht.below hb4
   replace hs := hs.below hb4
   have hB4 : Below w.heap.size w w4 := below_via hb4 (by assumption) (by go_size)
   replace fl := fl.out
   replace fm := fm.out
   replace fn := fn.out
   replace fo := fo.out
   refine chk (fun W => Below w.heap.size w W ∧ W.heap[w.heap.size]? = some (.cells #[.int .i64 A, .int .i64 B] 32 (0, 0)) ∧ W.heap[w.heap.size + 1 + 1]? = some (.cells #[.bool false, .slice none 0 0, .bool false, .slice none 0 0] 107 (0, 0)) ∧ W.heap[qd]? = some (.cells #[.bool b5, .slice a5 n5 c5] 80 (0, 0)) ∧ W.heap[qa]? = some (.cells #[.bool true, .slice a4 n4 c4] 80 (0, 0)) ∧ Wx W b5 a5 n5 c5 (-t) ∧ Wx W true a4 n4 c4 s) (by refine ⟨?_, ?_, ?_, ?_, ?_, ?_, ?_⟩ <;> (exact ck)) ?_
   try clear ht5
   try clear hs
   clear Vn Vo Gd fl
   clear Vp Vq Vr Vs Ge fm
   clear Vt Vu Gf fn
   clear Vv Vw Gg fo
   clear hB4
   rintro w5 ⟨hB5, fp, fq, ft, fu, ht5', hs'⟩
   obtain ⟨Vx, Vy, Gh, Hw⟩ := bk2 fp
   replace fp := Lib.hid fp
   obtain ⟨Vz, Wa, Wb, Wc, Gi, Hx⟩ := bk4 fq
   replace fq := Lib.hid fq
   obtain ⟨Wd, We, Gj, Hy⟩ := bk2 ft
   replace ft := Lib.hid ft
   obtain ⟨Wf, Wg, Gk, Hz⟩ := bk2 fu
   replace fu := Lib.hid fu
   have ht5 := ht5'
   clear ht5'
   have hs := hs'
   clear hs'
   go_upto_region 7 with (first | (have _t := tok6; go_at_call 114; (with_reducible refine ((bgMinus_any true a4 n4 c4 s _ (hs.below bel) (by omega))).mono ?_); rintro e w6 ⟨b6, a6, n6, c6, rfl, hs6, f6, hb6⟩; clear tok6 _t; have hz6 := hb6.size; (try simp only [sA, sB, sC, sD] at hz6); (try (obtain ⟨kq, pa⟩ := cfAt hb6 (w.heap.size); have vg := kq 0; have vh := kq 1; clear kq; simp [go_sem, *] at vg vh pa)); (try have nm : w.heap.size < w6.heap.size := by omega); (try (obtain ⟨kq, pb⟩ := cfAt hb6 (w.heap.size + 1); have vi := kq 0; have vj := kq 1; have vk := kq 2; have vm := kq 3; clear kq; simp [go_sem, *] at vi vj vk vm pb)); (try have np : w.heap.size + 1 < w6.heap.size := by omega); (try (obtain ⟨kq, pc⟩ := cfAt hb6 (w.heap.size + 1 + 1); have vn := kq 0; have vo := kq 1; have vp := kq 2; have vq := kq 3; clear kq; simp [go_sem, *] at vn vo vp vq pc)); (try have nr : w.heap.size + 1 + 1 < w6.heap.size := by omega); (try (obtain ⟨kq, gb⟩ := cfAt hb6 (qd); have yf := kq 0; have yg := kq 1; clear kq; simp [go_sem, *] at yf yg gb)); (try have fv : qd < w6.heap.size := by omega); (try (obtain ⟨kq, gc⟩ := cfAt hb6 (qa); have yh := kq 0; have yi := kq 1; clear kq; simp [go_sem, *] at yh yi gc)); (try have fw : qa < w6.heap.size := by omega); (try clear Yc Yd Ws); (try clear Wt); (try clear Ye Yf Yg Yh Wu); (try clear Wv); (try clear Yi Yj Yk Yl Ww); (try clear Wy); (try clear Ym Yn Wz); (try clear Ua); (try clear Yo Yp Yq Yr Ub); (try clear Uc); (try clear Ys Yt Yu Yv Ud); (try clear Ue); (try clear Jv Jw Vj); (try clear Vk); (try clear Jx Jy Vl); (try clear Vm); (try clear ka kb nj); (try clear Za); (try clear kc kd ke kf nk); (try clear Zb); (try clear kh ki kj kl nl); (try clear Zc); (try clear uk ul fj); (try clear Qa); (try clear um un fk); (try clear Qb); (try clear km kn nt); (try clear nu); (try clear ko kp kr ks nx); (try clear ny); (try clear kt ku kw kx nz); (try clear ma); (try clear uo uq ba); (try clear bc); (try clear ur us bd); (try clear bf)))
   have bg := (hb6.block (w.heap.size) (blk_lt' fp.out)).trans fp.out
   clear Vx Vy Gh fp
   obtain ⟨Wh, Wi, Gl, Ka⟩ := bk2 bg
   replace bg := Lib.hid bg
   have bh := (hb6.block (w.heap.size + 1 + 1) (blk_lt' fq.out)).trans fq.out
   clear Vz Wa Wb Wc Gi fq
   obtain ⟨Wj, Wk, Wl, Wm, Gm, Kb⟩ := bk4 bh
   replace bh := Lib.hid bh
   have bi := (hb6.block (qd) (blk_lt' ft.out)).trans ft.out
   clear Wd We Gj ft
   obtain ⟨Wn, Wo, Gn, Kc⟩ := bk2 bi
   replace bi := Lib.hid bi
   have bj := (hb6.block (qa) (blk_lt' fu.out)).trans fu.out
   clear Wf Wg Gk fu
   obtain ⟨Wp, Wq, Gp, Kd⟩ := bk2 bj
   replace bj := Lib.hid bj
   replace ht5 := ht5.below hb6
   replace hs := hs.below hb6
   have hB6 : Below w.heap.size w w6 := below_via hb6 (by assumption) (by go_size)
   rw [et.out] at ht5
   rw [es.out] at hs6
   replace bg := bg.out
   replace bh := bh.out
   replace bi := bi.out
   replace bj := bj.out
   refine chk (fun W => Below w.heap.size w W ∧ W.heap[w.heap.size]? = some (.cells #[.int .i64 A, .int .i64 B] 32 (0, 0)) ∧ W.heap[w.heap.size + 1 + 1]? = some (.cells #[.bool false, .slice none 0 0, .bool false, .slice none 0 0] 107 (0, 0)) ∧ W.heap[qd]? = some (.cells #[.bool b5, .slice a5 n5 c5] 80 (0, 0)) ∧ W.heap[qa]? = some (.cells #[.bool b6, .slice a6 n6 c6] 80 (0, 0)) ∧ Wx W b5 a5 n5 c5 t1 ∧ Wx W b6 a6 n6 c6 s1) (by refine ⟨?_, ?_, ?_, ?_, ?_, ?_, ?_⟩ <;> (exact ck)) ?_
   try clear ht5
   try clear hs6
   clear Wh Wi Gl bg
   clear Wj Wk Wl Wm Gm bh
   clear Wn Wo Gn bi
   clear Wp Wq Gp bj
   clear hB6
   rintro w7 ⟨hB7, zg, zh, zi, zj, ht5', hs6'⟩
   obtain ⟨Qc, Qd, Jh, Gq⟩ := bk2 zg
   replace zg := Lib.hid zg
   obtain ⟨Qe, Qf, Qg, Qh, Ji, Gr⟩ := bk4 zh
   replace zh := Lib.hid zh
   obtain ⟨Qi, Qj, Jj, Gs⟩ := bk2 zi
   replace zi := Lib.hid zi
   obtain ⟨Qk, Ql, Jk, Gt⟩ := bk2 zj
   replace zj := Lib.hid zj
   have ht5 := ht5'
   clear ht5'
   have hs6 := hs6'
   clear hs6'
   go_upto_region 8 with (first | (have _t := tok8; go_at_call 115; (with_reducible refine ((TD _ _ _ _ _ _ _ _ _ (ht5.below bel) (hs6.below bel))).mono ?_); rintro e w8 ⟨rfl, hb8⟩; clear tok8 _t; have hz8 := hb8.size; (try simp only [sA, sB, sC, sD] at hz8); (try (obtain ⟨kq, vr⟩ := cfAt hb8 (w.heap.size); have zu := kq 0; have zv := kq 1; clear kq; simp [go_sem, *] at zu zv vr)); (try have pd : w.heap.size < w8.heap.size := by omega); (try (obtain ⟨kq, vt⟩ := cfAt hb8 (w.heap.size + 1); have zw := kq 0; have zx := kq 1; have zy := kq 2; have ja := kq 3; clear kq; simp [go_sem, *] at zw zx zy ja vt)); (try have pe : w.heap.size + 1 < w8.heap.size := by omega); (try (obtain ⟨kq, vu⟩ := cfAt hb8 (w.heap.size + 1 + 1); have jb := kq 0; have jc := kq 1; have jd := kq 2; have je := kq 3; clear kq; simp [go_sem, *] at jb jc jd je vu)); (try have pf : w.heap.size + 1 + 1 < w8.heap.size := by omega); (try (obtain ⟨kq, gd⟩ := cfAt hb8 (qd); have yj := kq 0; have yk := kq 1; clear kq; simp [go_sem, *] at yj yk gd)); (try have Qm : qd < w8.heap.size := by omega); (try (obtain ⟨kq, jy⟩ := cfAt hb8 (qa); have qx := kq 0; have qy := kq 1; clear kq; simp [go_sem, *] at qx qy jy)); (try have ge : qa < w8.heap.size := by omega); (try clear ka kb nj); (try clear Za); (try clear kc kd ke kf nk); (try clear Zb); (try clear kh ki kj kl nl); (try clear Zc); (try clear uk ul fj); (try clear Qa); (try clear um un fk); (try clear Qb); (try clear km kn nt); (try clear nu); (try clear ko kp kr ks nx); (try clear ny); (try clear kt ku kw kx nz); (try clear ma); (try clear uo uq ba); (try clear bc); (try clear ur us bd); (try clear bf); (try clear vg vh pa); (try clear nm); (try clear vi vj vk vm pb); (try clear np); (try clear vn vo vp vq pc); (try clear nr); (try clear yf yg gb); (try clear fv); (try clear yh yi gc); (try clear fw); (try clear vv vw pg); (try clear ph); (try clear vy wc wd wg pi); (try clear pj); (try clear wi wj wk wl pk); (try clear pm); (try clear pn po Qn); (try clear Qo); (try clear yl ym gf); (try clear gg)))
   have zk := (hb8.block (w.heap.size) (blk_lt' zg.out)).trans zg.out
   clear Qc Qd Jh zg
   obtain ⟨Qp, Qq, Jl, Gu⟩ := bk2 zk
   replace zk := Lib.hid zk
   have zm := (hb8.block (w.heap.size + 1 + 1) (blk_lt' zh.out)).trans zh.out
   clear Qe Qf Qg Qh Ji zh
   obtain ⟨Qr, Qs, Qt, Qu, Jm, Gv⟩ := bk4 zm
   replace zm := Lib.hid zm
   have zn := (hb8.block (qd) (blk_lt' zi.out)).trans zi.out
   clear Qi Qj Jj zi
   obtain ⟨Qv, Qw, Jn, Gw⟩ := bk2 zn
   replace zn := Lib.hid zn
   have zo := (hb8.block (qa) (blk_lt' zj.out)).trans zj.out
   clear Qk Ql Jk zj
   obtain ⟨Qx, Qy, Jo, Gx⟩ := bk2 zo
   replace zo := Lib.hid zo
   replace ht5 := ht5.below hb8
   replace hs6 := hs6.below hb8
   have hB8 : Below w.heap.size w w8 := below_via hb8 (by assumption) (by go_size)
   go_upto_region 9 with (first | (have _t := tok9; go_at_call 116; (with_reducible refine ((TO1 _ _ _ _ _ (ht5.below bel))).mono ?_); rintro e w9 ⟨b9, a9, n9, c9, r9, rfl, hp9, f9, hb9⟩; clear tok9 _t; have hz9 := hb9.size; (try simp only [sA, sB, sC, sD] at hz9); (try (obtain ⟨kq, pp⟩ := cfAt hb9 (w.heap.size); have wm := kq 0; have wn := kq 1; clear kq; simp [go_sem, *] at wm wn pp)); (try have Zd : w.heap.size < w9.heap.size := by omega); (try (obtain ⟨kq, pq⟩ := cfAt hb9 (w.heap.size + 1); have wq := kq 0; have ws := kq 1; have wt := kq 2; have wu := kq 3; clear kq; simp [go_sem, *] at wq ws wt wu pq)); (try have Ze : w.heap.size + 1 < w9.heap.size := by omega); (try (obtain ⟨kq, pr⟩ := cfAt hb9 (w.heap.size + 1 + 1); have wv := kq 0; have ww := kq 1; have wx := kq 2; have wy := kq 3; clear kq; simp [go_sem, *] at wv ww wx wy pr)); (try have Zf : w.heap.size + 1 + 1 < w9.heap.size := by omega); (try (obtain ⟨kq, Qz⟩ := cfAt hb9 (qd); have pt := kq 0; have pu := kq 1; clear kq; simp [go_sem, *] at pt pu Qz)); (try have Wr : qd < w9.heap.size := by omega); (try (obtain ⟨kq, gh⟩ := cfAt hb9 (qa); have yn := kq 0; have yo := kq 1; clear kq; simp [go_sem, *] at yn yo gh)); (try have Xa : qa < w9.heap.size := by omega); (try clear km kn nt); (try clear nu); (try clear ko kp kr ks nx); (try clear ny); (try clear kt ku kw kx nz); (try clear ma); (try clear uo uq ba); (try clear bc); (try clear ur us bd); (try clear bf); (try clear vg vh pa); (try clear nm); (try clear vi vj vk vm pb); (try clear np); (try clear vn vo vp vq pc); (try clear nr); (try clear yf yg gb); (try clear fv); (try clear yh yi gc); (try clear fw); (try clear vv vw pg); (try clear ph); (try clear vy wc wd wg pi); (try clear pj); (try clear wi wj wk wl pk); (try clear pm); (try clear pn po Qn); (try clear Qo); (try clear yl ym gf); (try clear gg); (try clear zu zv vr); (try clear pd); (try clear zw zx zy ja vt); (try clear pe); (try clear jb jc jd je vu); (try clear pf); (try clear yj yk gd); (try clear Qm); (try clear qx qy jy); (try clear ge)))
   have zp := (hb9.block (w.heap.size) (blk_lt' zk.out)).trans zk.out
   clear Qp Qq Jl zk
   obtain ⟨Xb, Xc, Jp, Gy⟩ := bk2 zp
   replace zp := Lib.hid zp
   have zq := (hb9.block (w.heap.size + 1 + 1) (blk_lt' zm.out)).trans zm.out
   clear Qr Qs Qt Qu Jm zm
   obtain ⟨Xd, Xe, Xf, Xg, Jq, Gz⟩ := bk4 zq
   replace zq := Lib.hid zq
   have zr := (hb9.block (qd) (blk_lt' zn.out)).trans zn.out
   clear Qv Qw Jn zn
   obtain ⟨Xh, Xi, Jr, Ha⟩ := bk2 zr
   replace zr := Lib.hid zr
   have zt := (hb9.block (qa) (blk_lt' zo.out)).trans zo.out
   clear Qx Qy Jo zo
   obtain ⟨Xj, Xk, Js, Hb⟩ := bk2 zt
   replace zt := Lib.hid zt
   replace ht5 := ht5.below hb9
   replace hs6 := hs6.below hb9
   have hB9 : Below w.heap.size w w9 := below_via hb9 (by assumption) (by go_size)
   have F9 : Fr w.heap.size a9 := f9.mono (by have := hB8.size; first | omega | go_size)
   clear f9
   replace zp := zp.out
   replace zq := zq.out
   replace zr := zr.out
   replace zt := zt.out
   refine chk (fun W => Below w.heap.size w W ∧ W.heap[w.heap.size + 1 + 1]? = some (.cells #[.bool false, .slice none 0 0, .bool false, .slice none 0 0] 107 (0, 0)) ∧ W.heap[qa]? = some (.cells #[.bool b6, .slice a6 n6 c6] 80 (0, 0)) ∧ W.heap[w9.heap.size]? = some (.cells #[.bool b9, .slice a9 n9 c9] 80 (0, 0)) ∧ Wx W b6 a6 n6 c6 s1 ∧ Wx W b9 a9 n9 c9 p) (by refine ⟨?_, ?_, ?_, ?_, ?_, ?_⟩ <;> (exact ck)) ?_
   try clear hs6
   try clear hp9
   clear Xb Xc Jp zp
   clear Xd Xe Xf Xg Jq zq
   clear Xh Xi Jr zr
   clear Xj Xk Js zt
   clear hB9
   rintro w10 ⟨hB10, ql, qm, qn, hs6', hp9'⟩
   obtain ⟨bn, br, bu, bw, Zg, Uf⟩ := bk4 ql
   replace ql := Lib.hid ql
   obtain ⟨bx, cd, Zh, Ug⟩ := bk2 qm
   replace qm := Lib.hid qm
   obtain ⟨ce, cf, Zi, Uh⟩ := bk2 qn
   replace qn := Lib.hid qn
   have hs6 := hs6'
   clear hs6'
   have hp9 := hp9'
   clear hp9'
   go_upto_region 10 with (first | (have _t := tok11; go_at_call 116; (with_reducible refine ((TO2 _ _ _ _ _ (hs6.below bel))).mono ?_); rintro e w11 ⟨b11, a11, n11, c11, r11, rfl, hq11, f11, hb11⟩; clear tok11 _t; have hz11 := hb11.size; (try simp only [sA, sB, sC, sD] at hz11); (try (obtain ⟨kq, jz⟩ := cfAt hb11 (w.heap.size); have qz := kq 0; have xa := kq 1; clear kq; simp [go_sem, *] at qz xa jz)); (try have gi : w.heap.size < w11.heap.size := by omega); (try (obtain ⟨kq, ya⟩ := cfAt hb11 (w.heap.size + 1); have xb := kq 0; have xc := kq 1; have xd := kq 2; have xe := kq 3; clear kq; simp [go_sem, *] at xb xc xd xe ya)); (try have gj : w.heap.size + 1 < w11.heap.size := by omega); (try (obtain ⟨kq, yb⟩ := cfAt hb11 (w.heap.size + 1 + 1); have xf := kq 0; have xg := kq 1; have xh := kq 2; have xi := kq 3; clear kq; simp [go_sem, *] at xf xg xh xi yb)); (try have gk : w.heap.size + 1 + 1 < w11.heap.size := by omega); (try (obtain ⟨kq, cg⟩ := cfAt hb11 (qa); have ky := kq 0; have kz := kq 1; clear kq; simp [go_sem, *] at ky kz cg)); (try have Yw : qa < w11.heap.size := by omega); (try clear vv vw pg); (try clear ph); (try clear vy wc wd wg pi); (try clear pj); (try clear wi wj wk wl pk); (try clear pm); (try clear yl ym gf); (try clear gg); (try clear zu zv vr); (try clear pd); (try clear zw zx zy ja vt); (try clear pe); (try clear jb jc jd je vu); (try clear pf); (try clear qx qy jy); (try clear ge); (try clear wm wn pp); (try clear Zd); (try clear wq ws wt wu pq); (try clear Ze); (try clear wv ww wx wy pr); (try clear Zf); (try clear yn yo gh); (try clear Xa); (try clear yp yq gl); (try clear gm); (try clear yr yt yu yv gn); (try clear gr); (try clear yw yx yz va gt); (try clear gu); (try clear Jt Ju Yx); (try clear Yy)))
   have qo := (hb11.block (w.heap.size + 1 + 1) (blk_lt' ql.out)).trans ql.out
   clear bn br bu bw Zg ql
   obtain ⟨ch, ci, cj, cl, Zj, Ui⟩ := bk4 qo
   replace qo := Lib.hid qo
   have qq := (hb11.block (qa) (blk_lt' qm.out)).trans qm.out
   clear bx cd Zh qm
   obtain ⟨cn, co, Zk, Uj⟩ := bk2 qq
   replace qq := Lib.hid qq
   have qr := (hb11.block (w9.heap.size) (blk_lt' qn.out)).trans qn.out
   clear ce cf Zi qn
   obtain ⟨cp, cq, Zl, Uk⟩ := bk2 qr
   replace qr := Lib.hid qr
   replace hs6 := hs6.below hb11
   replace hp9 := hp9.below hb11
   have hB11 : Below w.heap.size w w11 := below_via hb11 (by assumption) (by go_size)
   have F11 : Fr w.heap.size a11 := f11.mono (by have := hB10.size; first | omega | go_size)
   clear f11
   replace qo := qo.out
   replace qq := qq.out
   replace qr := qr.out
   refine chk (fun W => Below w.heap.size w W ∧ W.heap[w.heap.size + 1 + 1]? = some (.cells #[.bool false, .slice none 0 0, .bool false, .slice none 0 0] 107 (0, 0)) ∧ W.heap[w9.heap.size]? = some (.cells #[.bool b9, .slice a9 n9 c9] 80 (0, 0)) ∧ W.heap[w11.heap.size]? = some (.cells #[.bool b11, .slice a11 n11 c11] 80 (0, 0)) ∧ Wx W b9 a9 n9 c9 p ∧ Wx W b11 a11 n11 c11 q) (by refine ⟨?_, ?_, ?_, ?_, ?_, ?_⟩ <;> (exact ck)) ?_
   try clear hp9
   try clear hq11
   clear ch ci cj cl Zj qo
   clear cn co Zk qq
   clear cp cq Zl qr
   clear hB11
   rintro w12 ⟨hB12, qt, qu, qv, hp9', hq11'⟩
   obtain ⟨cr, ct, cu, cw, Zm, Ul⟩ := bk4 qt
   replace qt := Lib.hid qt
   obtain ⟨cx, cy, Zn, Um⟩ := bk2 qu
   replace qu := Lib.hid qu
   obtain ⟨cz, nc, Zo, Un⟩ := bk2 qv
   replace qv := Lib.hid qv
   have hp9 := hp9'
   clear hp9'
   have hq11 := hq11'
   clear hq11'
   go_upto_region 11 with (fail)
   replace qt := qt.out
   replace qu := qu.out
   replace qv := qv.out
   refine chk (fun W => Below w.heap.size w W ∧ W.heap[w.heap.size + 1 + 1]? = some (.cells #[.bool false, .slice none 0 0, .bool false, .slice none 0 0] 107 (0, 0)) ∧ W.heap[w12.heap.size]? = some (.cells #[.bool b9, .slice a9 n9 c9, .bool b11, .slice a11 n11 c11] 107 (0, 0)) ∧ Wx W b9 a9 n9 c9 p ∧ Wx W b11 a11 n11 c11 q) (by refine ⟨?_, ?_, ?_, ?_, ?_⟩ <;> (exact ck)) ?_
   try clear hp9
   try clear hq11
   clear cr ct cu cw Zm qt
   clear cx cy Zn qu
   clear cz nc Zo qv
   clear hB12
   rintro w13 ⟨hB13, qe, qf, hp9', hq11'⟩
   obtain ⟨wz, ua, ub, uc, pv, Uo⟩ := bk4 qe
   replace qe := Lib.hid qe
   obtain ⟨ud, ue, uf, ug, pw, Up⟩ := bk4 qf
   replace qf := Lib.hid qf
   have hp9 := hp9'
   clear hp9'
   have hq11 := hq11'
   clear hq11'
   rcases HRR.out with ⟨rfl, hd⟩ | ⟨rfl, hd⟩
   ·subst hd
    clear HRR
    go_upto_region 13 with (first | (have _t := tok14; go_at_call 117; (with_reducible refine ((TG _ _ _ _ _ _ _ _ _ (hp9.below bel) (hq11.below bel))).mono ?_); rintro e w14 ⟨rfl, hb14⟩; clear tok14 _t; have hz14 := hb14.size; (try simp only [sA, sB, sC, sD] at hz14); (try (obtain ⟨kq, yc⟩ := cfAt hb14 (w.heap.size); have xj := kq 0; have xk := kq 1; clear kq; simp [go_sem, *] at xj xk yc)); (try have Xl : w.heap.size < w14.heap.size := by omega); (try (obtain ⟨kq, yd⟩ := cfAt hb14 (w.heap.size + 1); have xl := kq 0; have xm := kq 1; have xn := kq 2; have xo := kq 3; clear kq; simp [go_sem, *] at xl xm xn xo yd)); (try have Xm : w.heap.size + 1 < w14.heap.size := by omega); (try (obtain ⟨kq, ye⟩ := cfAt hb14 (w.heap.size + 1 + 1); have xp := kq 0; have xq := kq 1; have xr := kq 2; have xt := kq 3; clear kq; simp [go_sem, *] at xp xq xr xt ye)); (try have Xn : w.heap.size + 1 + 1 < w14.heap.size := by omega); (try (obtain ⟨kq, xu⟩ := cfAt hb14 (w12.heap.size); have qh := kq 0; have qi := kq 1; have qj := kq 2; have qk := kq 3; clear kq; simp [go_sem, *] at qh qi qj qk xu)); (try have px : w12.heap.size < w14.heap.size := by omega); (try clear yp yq gl); (try clear gm); (try clear yr yt yu yv gn); (try clear gr); (try clear yw yx yz va gt); (try clear gu); (try clear qz xa jz); (try clear gi); (try clear xb xc xd xe ya); (try clear gj); (try clear xf xg xh xi yb); (try clear gk); (try clear dc de Xo); (try clear Xp); (try clear df dg dh di Xq); (try clear Xr); (try clear dj dk dl dm Xs); (try clear Xt); (try clear dn dq Xu); (try clear Xv); (try clear dr dt du dv Xw); (try clear Xx); (try clear dw dx fa fb Xy); (try clear Xz); (try clear ut uw uy ga fc); (try clear fd)))
    have qb := (hb14.block (w.heap.size + 1 + 1) (blk_lt' qe.out)).trans qe.out
    clear wz ua ub uc pv qe
    obtain ⟨jf, jg, jh, ji, uh, Zp⟩ := bk4 qb
    replace qb := Lib.hid qb
    have qc := (hb14.block (w12.heap.size) (blk_lt' qf.out)).trans qf.out
    clear ud ue uf ug pw qf
    obtain ⟨jj, jk, jl, jm, ui, Zq⟩ := bk4 qc
    replace qc := Lib.hid qc
    replace hp9 := hp9.below hb14
    replace hq11 := hq11.below hb14
    have hB14 : Below w.heap.size w w14 := below_via hb14 (by assumption) (by go_size)
    replace qb := qb.out
    replace qc := qc.out
    refine chk (fun W => Below w.heap.size w W ∧ W.heap[w.heap.size + 1 + 1]? = some (.cells #[.bool false, .slice none 0 0, .bool false, .slice none 0 0] 107 (0, 0)) ∧ W.heap[w12.heap.size]? = some (.cells #[.bool b9, .slice a9 n9 c9, .bool b11, .slice a11 n11 c11] 107 (0, 0)) ∧ Wx W b9 a9 n9 c9 p ∧ Wx W b11 a11 n11 c11 q) (by refine ⟨?_, ?_, ?_, ?_, ?_⟩ <;> (exact ck)) ?_
    try clear hp9
    try clear hq11
    clear jf jg jh ji uh qb
    clear jj jk jl jm ui qc
    clear hB14
    rintro w15 ⟨hB15, qg, uj, hp9', hq11'⟩
    obtain ⟨jn, jo, jp, jq, Zr, Zs⟩ := bk4 qg
    replace qg := Lib.hid qg
    obtain ⟨Yz, Va, Vb, Vc, Uq, Ur⟩ := bk4 uj
    replace uj := Lib.hid uj
    have hp9 := hp9'
    clear hp9'
    have hq11 := hq11'
    clear hq11'
    clear TO1 TO2 TD TG lt1 ls1 hA hBB
    have hON : w.heap.size + 1 + 1 ≠ w12.heap.size := by omega
    iterate 24 (first | (with_reducible show bodyPost _ _ _ _ _ _) | (with_reducible refine wp_ret ?_) | go_values | go_skip | go_guarded | go_step | go_upon | go_back | skip)
    refine bodyPost_ret (v := .tuple #[.agg #[.bool b9, .slice a9 n9 c9, .bool b11, .slice a11 n11 c11], .bool true]) (by simp [results, Tryz.results97, go_sem, jn, jo, jp, jq]) rfl ⟨_, _, _, _, _, _, _, _, rfl, ?_, ?_, F9, F11, ?_⟩
    all_goals (have HO := qg.out)
    ·(exact ck)
    ·(exact ck)
    ·(exact ck)
   ·subst hd
    clear HRR
    go_upto_region 12 with (first | (have _t := tok14; go_at_call 117; (with_reducible refine ((TG _ _ _ _ _ _ _ _ _ (hp9.below bel) (hq11.below bel))).mono ?_); rintro e w14 ⟨rfl, hb14⟩; clear tok14 _t; have hz14 := hb14.size; (try simp only [sA, sB, sC, sD] at hz14); (try (obtain ⟨kq, yc⟩ := cfAt hb14 (w.heap.size); have xj := kq 0; have xk := kq 1; clear kq; simp [go_sem, *] at xj xk yc)); (try have Xl : w.heap.size < w14.heap.size := by omega); (try (obtain ⟨kq, yd⟩ := cfAt hb14 (w.heap.size + 1); have xl := kq 0; have xm := kq 1; have xn := kq 2; have xo := kq 3; clear kq; simp [go_sem, *] at xl xm xn xo yd)); (try have Xm : w.heap.size + 1 < w14.heap.size := by omega); (try (obtain ⟨kq, ye⟩ := cfAt hb14 (w.heap.size + 1 + 1); have xp := kq 0; have xq := kq 1; have xr := kq 2; have xt := kq 3; clear kq; simp [go_sem, *] at xp xq xr xt ye)); (try have Xn : w.heap.size + 1 + 1 < w14.heap.size := by omega); (try (obtain ⟨kq, xu⟩ := cfAt hb14 (w12.heap.size); have qh := kq 0; have qi := kq 1; have qj := kq 2; have qk := kq 3; clear kq; simp [go_sem, *] at qh qi qj qk xu)); (try have px : w12.heap.size < w14.heap.size := by omega); (try clear yp yq gl); (try clear gm); (try clear yr yt yu yv gn); (try clear gr); (try clear yw yx yz va gt); (try clear gu); (try clear qz xa jz); (try clear gi); (try clear xb xc xd xe ya); (try clear gj); (try clear xf xg xh xi yb); (try clear gk); (try clear dc de Xo); (try clear Xp); (try clear df dg dh di Xq); (try clear Xr); (try clear dj dk dl dm Xs); (try clear Xt); (try clear dn dq Xu); (try clear Xv); (try clear dr dt du dv Xw); (try clear Xx); (try clear dw dx fa fb Xy); (try clear Xz); (try clear ut uw uy ga fc); (try clear fd)))
    have qb := (hb14.block (w.heap.size + 1 + 1) (blk_lt' qe.out)).trans qe.out
    clear wz ua ub uc pv qe
    obtain ⟨jf, jg, jh, ji, uh, Zp⟩ := bk4 qb
    replace qb := Lib.hid qb
    have qc := (hb14.block (w12.heap.size) (blk_lt' qf.out)).trans qf.out
    clear ud ue uf ug pw qf
    obtain ⟨jj, jk, jl, jm, ui, Zq⟩ := bk4 qc
    replace qc := Lib.hid qc
    replace hp9 := hp9.below hb14
    replace hq11 := hq11.below hb14
    have hB14 : Below w.heap.size w w14 := below_via hb14 (by assumption) (by go_size)
    replace qb := qb.out
    replace qc := qc.out
    refine chk (fun W => Below w.heap.size w W ∧ W.heap[w.heap.size + 1 + 1]? = some (.cells #[.bool false, .slice none 0 0, .bool false, .slice none 0 0] 107 (0, 0))) (by refine ⟨?_, ?_⟩ <;> (exact ck)) ?_
    clear jf jg jh ji uh qb
    clear jj jk jl jm ui qc
    clear hB14
    rintro w15 ⟨hB15, qg⟩
    obtain ⟨jn, jo, jp, jq, Zr, Zs⟩ := bk4 qg
    replace qg := Lib.hid qg
    clear TO1 TO2 TD TG lt1 ls1 hA hBB
    iterate 24 (first | (with_reducible show bodyPost _ _ _ _ _ _) | (with_reducible refine wp_ret ?_) | go_values | go_skip | go_guarded | go_step | go_upon | go_back | skip)
    refine bodyPost_ret (v := .tuple #[.agg #[.bool false, .slice none 0 0, .bool false, .slice none 0 0], .bool false]) (by simp [results, Tryz.results97, go_sem, jn, jo, jp, jq]) rfl ⟨_, _, _, _, _, _, _, _, rfl, Wx.zero' _, Wx.zero' _, fr_none _, fr_none _, ?_⟩
    have HO := qg.out
    (exact ck)
  ·skip
   have hb4f : b4 = false := by rw [hb4n.out]; simp [ngB, hneg]
   obtain rfl : t1 = t := by rw [← HT1.out]; simp [sgZ, hneg]
   obtain rfl : s1 = s := by rw [← HS1.out]; simp [sgZ, hneg]
   go_upto_region 7 with (fail)
   clear hb4f
   obtain ⟨b5, rfl⟩ : ∃ b, b = b3 := ⟨_, rfl⟩
   obtain ⟨a5, rfl⟩ : ∃ b, b = a3 := ⟨_, rfl⟩
   obtain ⟨n5, rfl⟩ : ∃ b, b = n3 := ⟨_, rfl⟩
   obtain ⟨c5, rfl⟩ : ∃ b, b = c3 := ⟨_, rfl⟩
   obtain ⟨b6, rfl⟩ : ∃ b, b = b4 := ⟨_, rfl⟩
   obtain ⟨a6, rfl⟩ : ∃ b, b = a4 := ⟨_, rfl⟩
   obtain ⟨n6, rfl⟩ : ∃ b, b = n4 := ⟨_, rfl⟩
   obtain ⟨c6, rfl⟩ : ∃ b, b = c4 := ⟨_, rfl⟩
   have ht5 := ht
   have hs6 := hs
   clear ht hs
   replace zd := zd.out
   replace qw := qw.out
   replace ze := ze.out
   replace zf := zf.out
   refine chk (fun W => Below w.heap.size w W ∧ W.heap[w.heap.size]? = some (.cells #[.int .i64 A, .int .i64 B] 32 (0, 0)) ∧ W.heap[w.heap.size + 1 + 1]? = some (.cells #[.bool false, .slice none 0 0, .bool false, .slice none 0 0] 107 (0, 0)) ∧ W.heap[qd]? = some (.cells #[.bool b5, .slice a5 n5 c5] 80 (0, 0)) ∧ W.heap[qa]? = some (.cells #[.bool b6, .slice a6 n6 c6] 80 (0, 0)) ∧ Wx W b5 a5 n5 c5 t1 ∧ Wx W b6 a6 n6 c6 s1) (by refine ⟨?_, ?_, ?_, ?_, ?_, ?_, ?_⟩ <;> (exact ck)) ?_
   try clear ht5
   try clear hs6
   clear mu mv Jd zd
   clear fe ff fh fi Je qw
   clear mw mx Jf ze
   clear my mz Jg zf
   clear hB3
   rintro w7 ⟨hB7, zg, zh, zi, zj, ht5', hs6'⟩
   obtain ⟨Qc, Qd, Jh, Gq⟩ := bk2 zg
   replace zg := Lib.hid zg
   obtain ⟨Qe, Qf, Qg, Qh, Ji, Gr⟩ := bk4 zh
   replace zh := Lib.hid zh
   obtain ⟨Qi, Qj, Jj, Gs⟩ := bk2 zi
   replace zi := Lib.hid zi
   obtain ⟨Qk, Ql, Jk, Gt⟩ := bk2 zj
   replace zj := Lib.hid zj
   have ht5 := ht5'
   clear ht5'
   have hs6 := hs6'
   clear hs6'
   go_upto_region 8 with (first | (have _t := tok8; go_at_call 115; (with_reducible refine ((TD _ _ _ _ _ _ _ _ _ (ht5.below bel) (hs6.below bel))).mono ?_); rintro e w8 ⟨rfl, hb8⟩; clear tok8 _t; have hz8 := hb8.size; (try simp only [sA, sB, sC, sD] at hz8); (try (obtain ⟨kq, vr⟩ := cfAt hb8 (w.heap.size); have zu := kq 0; have zv := kq 1; clear kq; simp [go_sem, *] at zu zv vr)); (try have pd : w.heap.size < w8.heap.size := by omega); (try (obtain ⟨kq, vt⟩ := cfAt hb8 (w.heap.size + 1); have zw := kq 0; have zx := kq 1; have zy := kq 2; have ja := kq 3; clear kq; simp [go_sem, *] at zw zx zy ja vt)); (try have pe : w.heap.size + 1 < w8.heap.size := by omega); (try (obtain ⟨kq, vu⟩ := cfAt hb8 (w.heap.size + 1 + 1); have jb := kq 0; have jc := kq 1; have jd := kq 2; have je := kq 3; clear kq; simp [go_sem, *] at jb jc jd je vu)); (try have pf : w.heap.size + 1 + 1 < w8.heap.size := by omega); (try (obtain ⟨kq, gd⟩ := cfAt hb8 (qd); have yj := kq 0; have yk := kq 1; clear kq; simp [go_sem, *] at yj yk gd)); (try have Qm : qd < w8.heap.size := by omega); (try (obtain ⟨kq, jy⟩ := cfAt hb8 (qa); have qx := kq 0; have qy := kq 1; clear kq; simp [go_sem, *] at qx qy jy)); (try have ge : qa < w8.heap.size := by omega); (try clear ka kb nj); (try clear Za); (try clear kc kd ke kf nk); (try clear Zb); (try clear kh ki kj kl nl); (try clear Zc); (try clear uk ul fj); (try clear Qa); (try clear um un fk); (try clear Qb); (try clear km kn nt); (try clear nu); (try clear ko kp kr ks nx); (try clear ny); (try clear kt ku kw kx nz); (try clear ma); (try clear uo uq ba); (try clear bc); (try clear ur us bd); (try clear bf); (try clear vg vh pa); (try clear nm); (try clear vi vj vk vm pb); (try clear np); (try clear vn vo vp vq pc); (try clear nr); (try clear yf yg gb); (try clear fv); (try clear yh yi gc); (try clear fw); (try clear vv vw pg); (try clear ph); (try clear vy wc wd wg pi); (try clear pj); (try clear wi wj wk wl pk); (try clear pm); (try clear pn po Qn); (try clear Qo); (try clear yl ym gf); (try clear gg)))
   have zk := (hb8.block (w.heap.size) (blk_lt' zg.out)).trans zg.out
   clear Qc Qd Jh zg
   obtain ⟨Qp, Qq, Jl, Gu⟩ := bk2 zk
   replace zk := Lib.hid zk
   have zm := (hb8.block (w.heap.size + 1 + 1) (blk_lt' zh.out)).trans zh.out
   clear Qe Qf Qg Qh Ji zh
   obtain ⟨Qr, Qs, Qt, Qu, Jm, Gv⟩ := bk4 zm
   replace zm := Lib.hid zm
   have zn := (hb8.block (qd) (blk_lt' zi.out)).trans zi.out
   clear Qi Qj Jj zi
   obtain ⟨Qv, Qw, Jn, Gw⟩ := bk2 zn
   replace zn := Lib.hid zn
   have zo := (hb8.block (qa) (blk_lt' zj.out)).trans zj.out
   clear Qk Ql Jk zj
   obtain ⟨Qx, Qy, Jo, Gx⟩ := bk2 zo
   replace zo := Lib.hid zo
   replace ht5 := ht5.below hb8
   replace hs6 := hs6.below hb8
   have hB8 : Below w.heap.size w w8 := below_via hb8 (by assumption) (by go_size)
   go_upto_region 9 with (first | (have _t := tok9; go_at_call 116; (with_reducible refine ((TO1 _ _ _ _ _ (ht5.below bel))).mono ?_); rintro e w9 ⟨b9, a9, n9, c9, r9, rfl, hp9, f9, hb9⟩; clear tok9 _t; have hz9 := hb9.size; (try simp only [sA, sB, sC, sD] at hz9); (try (obtain ⟨kq, pp⟩ := cfAt hb9 (w.heap.size); have wm := kq 0; have wn := kq 1; clear kq; simp [go_sem, *] at wm wn pp)); (try have Zd : w.heap.size < w9.heap.size := by omega); (try (obtain ⟨kq, pq⟩ := cfAt hb9 (w.heap.size + 1); have wq := kq 0; have ws := kq 1; have wt := kq 2; have wu := kq 3; clear kq; simp [go_sem, *] at wq ws wt wu pq)); (try have Ze : w.heap.size + 1 < w9.heap.size := by omega); (try (obtain ⟨kq, pr⟩ := cfAt hb9 (w.heap.size + 1 + 1); have wv := kq 0; have ww := kq 1; have wx := kq 2; have wy := kq 3; clear kq; simp [go_sem, *] at wv ww wx wy pr)); (try have Zf : w.heap.size + 1 + 1 < w9.heap.size := by omega); (try (obtain ⟨kq, Qz⟩ := cfAt hb9 (qd); have pt := kq 0; have pu := kq 1; clear kq; simp [go_sem, *] at pt pu Qz)); (try have Wr : qd < w9.heap.size := by omega); (try (obtain ⟨kq, gh⟩ := cfAt hb9 (qa); have yn := kq 0; have yo := kq 1; clear kq; simp [go_sem, *] at yn yo gh)); (try have Xa : qa < w9.heap.size := by omega); (try clear km kn nt); (try clear nu); (try clear ko kp kr ks nx); (try clear ny); (try clear kt ku kw kx nz); (try clear ma); (try clear uo uq ba); (try clear bc); (try clear ur us bd); (try clear bf); (try clear vg vh pa); (try clear nm); (try clear vi vj vk vm pb); (try clear np); (try clear vn vo vp vq pc); (try clear nr); (try clear yf yg gb); (try clear fv); (try clear yh yi gc); (try clear fw); (try clear vv vw pg); (try clear ph); (try clear vy wc wd wg pi); (try clear pj); (try clear wi wj wk wl pk); (try clear pm); (try clear pn po Qn); (try clear Qo); (try clear yl ym gf); (try clear gg); (try clear zu zv vr); (try clear pd); (try clear zw zx zy ja vt); (try clear pe); (try clear jb jc jd je vu); (try clear pf); (try clear yj yk gd); (try clear Qm); (try clear qx qy jy); (try clear ge)))
   have zp := (hb9.block (w.heap.size) (blk_lt' zk.out)).trans zk.out
   clear Qp Qq Jl zk
   obtain ⟨Xb, Xc, Jp, Gy⟩ := bk2 zp
   replace zp := Lib.hid zp
   have zq := (hb9.block (w.heap.size + 1 + 1) (blk_lt' zm.out)).trans zm.out
   clear Qr Qs Qt Qu Jm zm
   obtain ⟨Xd, Xe, Xf, Xg, Jq, Gz⟩ := bk4 zq
   replace zq := Lib.hid zq
   have zr := (hb9.block (qd) (blk_lt' zn.out)).trans zn.out
   clear Qv Qw Jn zn
   obtain ⟨Xh, Xi, Jr, Ha⟩ := bk2 zr
   replace zr := Lib.hid zr
   have zt := (hb9.block (qa) (blk_lt' zo.out)).trans zo.out
   clear Qx Qy Jo zo
   obtain ⟨Xj, Xk, Js, Hb⟩ := bk2 zt
   replace zt := Lib.hid zt
   replace ht5 := ht5.below hb9
   replace hs6 := hs6.below hb9
   have hB9 : Below w.heap.size w w9 := below_via hb9 (by assumption) (by go_size)
   have F9 : Fr w.heap.size a9 := f9.mono (by have := hB8.size; first | omega | go_size)
   clear f9
   replace zp := zp.out
   replace zq := zq.out
   replace zr := zr.out
   replace zt := zt.out
   refine chk (fun W => Below w.heap.size w W ∧ W.heap[w.heap.size + 1 + 1]? = some (.cells #[.bool false, .slice none 0 0, .bool false, .slice none 0 0] 107 (0, 0)) ∧ W.heap[qa]? = some (.cells #[.bool b6, .slice a6 n6 c6] 80 (0, 0)) ∧ W.heap[w9.heap.size]? = some (.cells #[.bool b9, .slice a9 n9 c9] 80 (0, 0)) ∧ Wx W b6 a6 n6 c6 s1 ∧ Wx W b9 a9 n9 c9 p) (by refine ⟨?_, ?_, ?_, ?_, ?_, ?_⟩ <;> (exact ck)) ?_
   try clear hs6
   try clear hp9
   clear Xb Xc Jp zp
   clear Xd Xe Xf Xg Jq zq
   clear Xh Xi Jr zr
   clear Xj Xk Js zt
   clear hB9
   rintro w10 ⟨hB10, ql, qm, qn, hs6', hp9'⟩
   obtain ⟨bn, br, bu, bw, Zg, Uf⟩ := bk4 ql
   replace ql := Lib.hid ql
   obtain ⟨bx, cd, Zh, Ug⟩ := bk2 qm
   replace qm := Lib.hid qm
   obtain ⟨ce, cf, Zi, Uh⟩ := bk2 qn
   replace qn := Lib.hid qn
   have hs6 := hs6'
   clear hs6'
   have hp9 := hp9'
   clear hp9'
   go_upto_region 10 with (first | (have _t := tok11; go_at_call 116; (with_reducible refine ((TO2 _ _ _ _ _ (hs6.below bel))).mono ?_); rintro e w11 ⟨b11, a11, n11, c11, r11, rfl, hq11, f11, hb11⟩; clear tok11 _t; have hz11 := hb11.size; (try simp only [sA, sB, sC, sD] at hz11); (try (obtain ⟨kq, jz⟩ := cfAt hb11 (w.heap.size); have qz := kq 0; have xa := kq 1; clear kq; simp [go_sem, *] at qz xa jz)); (try have gi : w.heap.size < w11.heap.size := by omega); (try (obtain ⟨kq, ya⟩ := cfAt hb11 (w.heap.size + 1); have xb := kq 0; have xc := kq 1; have xd := kq 2; have xe := kq 3; clear kq; simp [go_sem, *] at xb xc xd xe ya)); (try have gj : w.heap.size + 1 < w11.heap.size := by omega); (try (obtain ⟨kq, yb⟩ := cfAt hb11 (w.heap.size + 1 + 1); have xf := kq 0; have xg := kq 1; have xh := kq 2; have xi := kq 3; clear kq; simp [go_sem, *] at xf xg xh xi yb)); (try have gk : w.heap.size + 1 + 1 < w11.heap.size := by omega); (try (obtain ⟨kq, cg⟩ := cfAt hb11 (qa); have ky := kq 0; have kz := kq 1; clear kq; simp [go_sem, *] at ky kz cg)); (try have Yw : qa < w11.heap.size := by omega); (try clear vv vw pg); (try clear ph); (try clear vy wc wd wg pi); (try clear pj); (try clear wi wj wk wl pk); (try clear pm); (try clear yl ym gf); (try clear gg); (try clear zu zv vr); (try clear pd); (try clear zw zx zy ja vt); (try clear pe); (try clear jb jc jd je vu); (try clear pf); (try clear qx qy jy); (try clear ge); (try clear wm wn pp); (try clear Zd); (try clear wq ws wt wu pq); (try clear Ze); (try clear wv ww wx wy pr); (try clear Zf); (try clear yn yo gh); (try clear Xa); (try clear yp yq gl); (try clear gm); (try clear yr yt yu yv gn); (try clear gr); (try clear yw yx yz va gt); (try clear gu); (try clear Jt Ju Yx); (try clear Yy)))
   have qo := (hb11.block (w.heap.size + 1 + 1) (blk_lt' ql.out)).trans ql.out
   clear bn br bu bw Zg ql
   obtain ⟨ch, ci, cj, cl, Zj, Ui⟩ := bk4 qo
   replace qo := Lib.hid qo
   have qq := (hb11.block (qa) (blk_lt' qm.out)).trans qm.out
   clear bx cd Zh qm
   obtain ⟨cn, co, Zk, Uj⟩ := bk2 qq
   replace qq := Lib.hid qq
   have qr := (hb11.block (w9.heap.size) (blk_lt' qn.out)).trans qn.out
   clear ce cf Zi qn
   obtain ⟨cp, cq, Zl, Uk⟩ := bk2 qr
   replace qr := Lib.hid qr
   replace hs6 := hs6.below hb11
   replace hp9 := hp9.below hb11
   have hB11 : Below w.heap.size w w11 := below_via hb11 (by assumption) (by go_size)
   have F11 : Fr w.heap.size a11 := f11.mono (by have := hB10.size; first | omega | go_size)
   clear f11
   replace qo := qo.out
   replace qq := qq.out
   replace qr := qr.out
   refine chk (fun W => Below w.heap.size w W ∧ W.heap[w.heap.size + 1 + 1]? = some (.cells #[.bool false, .slice none 0 0, .bool false, .slice none 0 0] 107 (0, 0)) ∧ W.heap[w9.heap.size]? = some (.cells #[.bool b9, .slice a9 n9 c9] 80 (0, 0)) ∧ W.heap[w11.heap.size]? = some (.cells #[.bool b11, .slice a11 n11 c11] 80 (0, 0)) ∧ Wx W b9 a9 n9 c9 p ∧ Wx W b11 a11 n11 c11 q) (by refine ⟨?_, ?_, ?_, ?_, ?_, ?_⟩ <;> (exact ck)) ?_
   try clear hp9
   try clear hq11
   clear ch ci cj cl Zj qo
   clear cn co Zk qq
   clear cp cq Zl qr
   clear hB11
   rintro w12 ⟨hB12, qt, qu, qv, hp9', hq11'⟩
   obtain ⟨cr, ct, cu, cw, Zm, Ul⟩ := bk4 qt
   replace qt := Lib.hid qt
   obtain ⟨cx, cy, Zn, Um⟩ := bk2 qu
   replace qu := Lib.hid qu
   obtain ⟨cz, nc, Zo, Un⟩ := bk2 qv
   replace qv := Lib.hid qv
   have hp9 := hp9'
   clear hp9'
   have hq11 := hq11'
   clear hq11'
   go_upto_region 11 with (fail)
   replace qt := qt.out
   replace qu := qu.out
   replace qv := qv.out
   refine chk (fun W => Below w.heap.size w W ∧ W.heap[w.heap.size + 1 + 1]? = some (.cells #[.bool false, .slice none 0 0, .bool false, .slice none 0 0] 107 (0, 0)) ∧ W.heap[w12.heap.size]? = some (.cells #[.bool b9, .slice a9 n9 c9, .bool b11, .slice a11 n11 c11] 107 (0, 0)) ∧ Wx W b9 a9 n9 c9 p ∧ Wx W b11 a11 n11 c11 q) (by refine ⟨?_, ?_, ?_, ?_, ?_⟩ <;> (exact ck)) ?_
   try clear hp9
   try clear hq11
   clear cr ct cu cw Zm qt
   clear cx cy Zn qu
   clear cz nc Zo qv
   clear hB12
   rintro w13 ⟨hB13, qe, qf, hp9', hq11'⟩
   obtain ⟨wz, ua, ub, uc, pv, Uo⟩ := bk4 qe
   replace qe := Lib.hid qe
   obtain ⟨ud, ue, uf, ug, pw, Up⟩ := bk4 qf
   replace qf := Lib.hid qf
   have hp9 := hp9'
   clear hp9'
   have hq11 := hq11'
   clear hq11'
   rcases HRR.out with ⟨rfl, hd⟩ | ⟨rfl, hd⟩
   ·subst hd
    clear HRR
    go_upto_region 13 with (first | (have _t := tok14; go_at_call 117; (with_reducible refine ((TG _ _ _ _ _ _ _ _ _ (hp9.below bel) (hq11.below bel))).mono ?_); rintro e w14 ⟨rfl, hb14⟩; clear tok14 _t; have hz14 := hb14.size; (try simp only [sA, sB, sC, sD] at hz14); (try (obtain ⟨kq, yc⟩ := cfAt hb14 (w.heap.size); have xj := kq 0; have xk := kq 1; clear kq; simp [go_sem, *] at xj xk yc)); (try have Xl : w.heap.size < w14.heap.size := by omega); (try (obtain ⟨kq, yd⟩ := cfAt hb14 (w.heap.size + 1); have xl := kq 0; have xm := kq 1; have xn := kq 2; have xo := kq 3; clear kq; simp [go_sem, *] at xl xm xn xo yd)); (try have Xm : w.heap.size + 1 < w14.heap.size := by omega); (try (obtain ⟨kq, ye⟩ := cfAt hb14 (w.heap.size + 1 + 1); have xp := kq 0; have xq := kq 1; have xr := kq 2; have xt := kq 3; clear kq; simp [go_sem, *] at xp xq xr xt ye)); (try have Xn : w.heap.size + 1 + 1 < w14.heap.size := by omega); (try (obtain ⟨kq, xu⟩ := cfAt hb14 (w12.heap.size); have qh := kq 0; have qi := kq 1; have qj := kq 2; have qk := kq 3; clear kq; simp [go_sem, *] at qh qi qj qk xu)); (try have px : w12.heap.size < w14.heap.size := by omega); (try clear yp yq gl); (try clear gm); (try clear yr yt yu yv gn); (try clear gr); (try clear yw yx yz va gt); (try clear gu); (try clear qz xa jz); (try clear gi); (try clear xb xc xd xe ya); (try clear gj); (try clear xf xg xh xi yb); (try clear gk); (try clear dc de Xo); (try clear Xp); (try clear df dg dh di Xq); (try clear Xr); (try clear dj dk dl dm Xs); (try clear Xt); (try clear dn dq Xu); (try clear Xv); (try clear dr dt du dv Xw); (try clear Xx); (try clear dw dx fa fb Xy); (try clear Xz); (try clear ut uw uy ga fc); (try clear fd)))
    have qb := (hb14.block (w.heap.size + 1 + 1) (blk_lt' qe.out)).trans qe.out
    clear wz ua ub uc pv qe
    obtain ⟨jf, jg, jh, ji, uh, Zp⟩ := bk4 qb
    replace qb := Lib.hid qb
    have qc := (hb14.block (w12.heap.size) (blk_lt' qf.out)).trans qf.out
    clear ud ue uf ug pw qf
    obtain ⟨jj, jk, jl, jm, ui, Zq⟩ := bk4 qc
    replace qc := Lib.hid qc
    replace hp9 := hp9.below hb14
    replace hq11 := hq11.below hb14
    have hB14 : Below w.heap.size w w14 := below_via hb14 (by assumption) (by go_size)
    replace qb := qb.out
    replace qc := qc.out
    refine chk (fun W => Below w.heap.size w W ∧ W.heap[w.heap.size + 1 + 1]? = some (.cells #[.bool false, .slice none 0 0, .bool false, .slice none 0 0] 107 (0, 0)) ∧ W.heap[w12.heap.size]? = some (.cells #[.bool b9, .slice a9 n9 c9, .bool b11, .slice a11 n11 c11] 107 (0, 0)) ∧ Wx W b9 a9 n9 c9 p ∧ Wx W b11 a11 n11 c11 q) (by refine ⟨?_, ?_, ?_, ?_, ?_⟩ <;> (exact ck)) ?_
    try clear hp9
    try clear hq11
    clear jf jg jh ji uh qb
    clear jj jk jl jm ui qc
    clear hB14
    rintro w15 ⟨hB15, qg, uj, hp9', hq11'⟩
    obtain ⟨jn, jo, jp, jq, Zr, Zs⟩ := bk4 qg
    replace qg := Lib.hid qg
    obtain ⟨Yz, Va, Vb, Vc, Uq, Ur⟩ := bk4 uj
    replace uj := Lib.hid uj
    have hp9 := hp9'
    clear hp9'
    have hq11 := hq11'
    clear hq11'
    clear TO1 TO2 TD TG lt1 ls1 hA hBB
    have hON : w.heap.size + 1 + 1 ≠ w12.heap.size := by omega
    iterate 24 (first | (with_reducible show bodyPost _ _ _ _ _ _) | (with_reducible refine wp_ret ?_) | go_values | go_skip | go_guarded | go_step | go_upon | go_back | skip)
    refine bodyPost_ret (v := .tuple #[.agg #[.bool b9, .slice a9 n9 c9, .bool b11, .slice a11 n11 c11], .bool true]) (by simp [results, Tryz.results97, go_sem, jn, jo, jp, jq]) rfl ⟨_, _, _, _, _, _, _, _, rfl, ?_, ?_, F9, F11, ?_⟩
    all_goals (have HO := qg.out)
    ·(exact ck)
    ·(exact ck)
    ·(exact ck)
   ·subst hd
    clear HRR
    go_upto_region 12 with (first | (have _t := tok14; go_at_call 117; (with_reducible refine ((TG _ _ _ _ _ _ _ _ _ (hp9.below bel) (hq11.below bel))).mono ?_); rintro e w14 ⟨rfl, hb14⟩; clear tok14 _t; have hz14 := hb14.size; (try simp only [sA, sB, sC, sD] at hz14); (try (obtain ⟨kq, yc⟩ := cfAt hb14 (w.heap.size); have xj := kq 0; have xk := kq 1; clear kq; simp [go_sem, *] at xj xk yc)); (try have Xl : w.heap.size < w14.heap.size := by omega); (try (obtain ⟨kq, yd⟩ := cfAt hb14 (w.heap.size + 1); have xl := kq 0; have xm := kq 1; have xn := kq 2; have xo := kq 3; clear kq; simp [go_sem, *] at xl xm xn xo yd)); (try have Xm : w.heap.size + 1 < w14.heap.size := by omega); (try (obtain ⟨kq, ye⟩ := cfAt hb14 (w.heap.size + 1 + 1); have xp := kq 0; have xq := kq 1; have xr := kq 2; have xt := kq 3; clear kq; simp [go_sem, *] at xp xq xr xt ye)); (try have Xn : w.heap.size + 1 + 1 < w14.heap.size := by omega); (try (obtain ⟨kq, xu⟩ := cfAt hb14 (w12.heap.size); have qh := kq 0; have qi := kq 1; have qj := kq 2; have qk := kq 3; clear kq; simp [go_sem, *] at qh qi qj qk xu)); (try have px : w12.heap.size < w14.heap.size := by omega); (try clear yp yq gl); (try clear gm); (try clear yr yt yu yv gn); (try clear gr); (try clear yw yx yz va gt); (try clear gu); (try clear qz xa jz); (try clear gi); (try clear xb xc xd xe ya); (try clear gj); (try clear xf xg xh xi yb); (try clear gk); (try clear dc de Xo); (try clear Xp); (try clear df dg dh di Xq); (try clear Xr); (try clear dj dk dl dm Xs); (try clear Xt); (try clear dn dq Xu); (try clear Xv); (try clear dr dt du dv Xw); (try clear Xx); (try clear dw dx fa fb Xy); (try clear Xz); (try clear ut uw uy ga fc); (try clear fd)))
    have qb := (hb14.block (w.heap.size + 1 + 1) (blk_lt' qe.out)).trans qe.out
    clear wz ua ub uc pv qe
    obtain ⟨jf, jg, jh, ji, uh, Zp⟩ := bk4 qb
    replace qb := Lib.hid qb
    have qc := (hb14.block (w12.heap.size) (blk_lt' qf.out)).trans qf.out
    clear ud ue uf ug pw qf
    obtain ⟨jj, jk, jl, jm, ui, Zq⟩ := bk4 qc
    replace qc := Lib.hid qc
    replace hp9 := hp9.below hb14
    replace hq11 := hq11.below hb14
    have hB14 : Below w.heap.size w w14 := below_via hb14 (by assumption) (by go_size)
    replace qb := qb.out
    replace qc := qc.out
    refine chk (fun W => Below w.heap.size w W ∧ W.heap[w.heap.size + 1 + 1]? = some (.cells #[.bool false, .slice none 0 0, .bool false, .slice none 0 0] 107 (0, 0))) (by refine ⟨?_, ?_⟩ <;> (exact ck)) ?_
    clear jf jg jh ji uh qb
    clear jj jk jl jm ui qc
    clear hB14
    rintro w15 ⟨hB15, qg⟩
    obtain ⟨jn, jo, jp, jq, Zr, Zs⟩ := bk4 qg
    replace qg := Lib.hid qg
    clear TO1 TO2 TD TG lt1 ls1 hA hBB
    iterate 24 (first | (with_reducible show bodyPost _ _ _ _ _ _) | (with_reducible refine wp_ret ?_) | go_values | go_skip | go_guarded | go_step | go_upon | go_back | skip)
    refine bodyPost_ret (v := .tuple #[.agg #[.bool false, .slice none 0 0, .bool false, .slice none 0 0], .bool false]) (by simp [results, Tryz.results97, go_sem, jn, jo, jp, jq]) rfl ⟨_, _, _, _, _, _, _, _, rfl, Wx.zero' _, Wx.zero' _, fr_none _, fr_none _, ?_⟩
    have HO := qg.out
    (exact ck)
end
section
open Go.RowKit
set_option linter.unusedVariables false
set_option maxHeartbeats 1000000
set_option maxRecDepth 20000
set_option linter.unusedSimpArgs false
attribute [local go_sem] openAt openUpon
theorem sg_div {d s : Int} (hd : 1 ≤ d) (h : d ∣ s) : (s / d < 0 ↔ s < 0) := by
 obtain ⟨q, rfl⟩ := h
 rw [Int.mul_ediv_cancel_left _ (by omega)]
 constructor
 ·intro hq
  exact Int.mul_neg_of_pos_of_neg (by omega) hq
 ·intro hq
  rcases Int.lt_or_le q 0 with h' | h'
  ·exact h'
  ·have := Int.mul_nonneg (show 0 ≤ d by omega) h'; omega
theorem doubleX_any (A B x z : Int) (b b2 : Bool) (a a2 : Option Addr) (n c n2 c2 : Nat) (w : World) (hA : -1000 ≤ A ∧ A ≤ 1000) (hBB : -10000 ≤ B ∧ B ≤ 10000) (hcv : coV A B ≠ 0) (hx : Wx w b a n c x) (hz : Wx w b2 a2 n2 c2 z) (lx : ln x ≤ 80) (lz : ln z ≤ 80) :
  Calls Tryz.prog 105 #[.agg #[.int .i64 A, .int .i64 B], .agg #[.bool b, .slice a n c, .bool b2, .slice a2 n2 c2]] w (NewRR w (dbl (4 * absI (coV A B)) A B x z).1 (dbl (4 * absI (coV A B)) A B x z).2.1 (dbl (4 * absI (coV A B)) A B x z).2.2) := by
 obtain ⟨t, ht0⟩ : ∃ v, topZ A B x z = v := ⟨_, rfl⟩
 obtain ⟨s, hs0⟩ : ∃ v, botZ A B x z = v := ⟨_, rfl⟩
 obtain ⟨d, hd0⟩ : ∃ v, dvZ (4 * absI (coV A B)) t s = v := ⟨_, rfl⟩
 have TT : ∀ W, Wx W b a n c x → Wx W b2 a2 n2 c2 z → Calls Tryz.prog 124 #[.agg #[.int .i64 A, .int .i64 B], .agg #[.bool b, .slice a n c, .bool b2, .slice a2 n2 c2]] W (NewW W t) := fun W h1 h2 => numeratorOf_eq hA hBB h1 h2 lx lz ht0
 have TS : ∀ W, Wx W b a n c x → Wx W b2 a2 n2 c2 z → Calls Tryz.prog 104 #[.agg #[.int .i64 A, .int .i64 B], .agg #[.bool b, .slice a n c, .bool b2, .slice a2 n2 c2]] W (NewW W s) := fun W h1 h2 => denominatorOf_eq hA hBB h1 h2 lx lz hs0
 have TV : ∀ W, Wx W b a n c x → Wx W b2 a2 n2 c2 z → Calls Tryz.prog 122 #[.agg #[.int .i64 A, .int .i64 B], .agg #[.bool b, .slice a n c, .bool b2, .slice a2 n2 c2]] W fun e w' => e = .returned (.int .i64 d) ∧ Below W.heap.size W w' := fun W h1 h2 => divisorTaken_eq hA hBB hcv h1 h2 lx lz ht0 hs0 hd0
 have hlt : ln t ≤ 8000 := by rw [← ht0]; exact top_ln hA hBB lx lz
 have hls : ln s ≤ 8000 := by rw [← hs0]; exact bot_ln hA hBB lx lz
 have hN : 1 ≤ 4 * absI (coV A B) := by unfold absI; omega
 have hd1 := dv_pos (n := 4 * absI (coV A B)) (t := t) (b := s) (by omega)
 have hd2 := dv_le (n := 4 * absI (coV A B)) (t := t) (b := s) (by omega)
 have hcb := coV_bd hA hBB
 have hab : absI (coV A B) ≤ 6700000000 := by unfold absI; omega
 have hsg := sg_div (d := d) (s := s) (by omega) (by rw [← hd0]; exact dv_bot _ _ _)
 obtain ⟨p, hp⟩ : ∃ v, t / d = v := ⟨_, rfl⟩
 obtain ⟨q, hq⟩ : ∃ v, s / d = v := ⟨_, rfl⟩
 have lnp : ln p ≤ 8000 := by rw [← hp]; exact Nat.le_trans (ln_div (by omega) (by rw [← hd0]; exact dv_top _ _ _)) hlt
 have lnq : ln q ≤ 8000 := by rw [← hq]; exact Nat.le_trans (ln_div (by omega) (by rw [← hd0]; exact dv_bot _ _ _)) hls
 have TO1 : ∀ W (b : Bool) (a : Option Addr) (n c : Nat), Wx W b a n c t → Calls Tryz.prog 123 #[.agg #[.bool b, .slice a n c], .int .i64 d] W (NewQp W p) := fun W b a n c h1 => (divWhole_any h1 (by omega) (by omega) (by omega)).mono fun e w' h => h.qp hp
 have TO2 : ∀ W (b : Bool) (a : Option Addr) (n c : Nat), Wx W b a n c s → Calls Tryz.prog 123 #[.agg #[.bool b, .slice a n c], .int .i64 d] W (NewQp W q) := fun W b a n c h1 => (divWhole_any h1 (by omega) (by omega) (by omega)).mono fun e w' h => h.qp hq
 have hD : (s = 0 ∧ dbl (4 * absI (coV A B)) A B x z = (0, 0, false)) ∨ (s ≠ 0 ∧ (raB (sgZ s p) (sgZ s q) = true ∧ dbl (4 * absI (coV A B)) A B x z = (sgZ s p, sgZ s q, true) ∨ raB (sgZ s p) (sgZ s q) = false ∧ dbl (4 * absI (coV A B)) A B x z = (0, 0, false))) := by
  have e1 : dbN (4 * absI (coV A B)) t s = sgZ s p := by unfold dbN; rw [hd0, hp]
  have e2 : dbD (4 * absI (coV A B)) t s = sgZ s q := by unfold dbD; rw [hd0, hq]
  unfold dbl
  rw [ht0, hs0, e1, e2]
  by_cases h : s = 0
  ·left; exact ⟨h, by rw [if_pos h]⟩
  ·right
   refine ⟨h, ?_⟩
   rw [if_neg h]
   cases hr : raB (sgZ s p) (sgZ s q)
   ·right; exact ⟨rfl, by simp⟩
   ·left; exact ⟨rfl, by simp⟩
 rw [hq] at hsg
 generalize dbl (4 * absI (coV A B)) A B x z = DB at *
 clear ht0 hs0 hd0 hp hq hd1 hd2 hcb hab hN hcv
 have HD := Lib.hid hD
 clear hD
 have tok1 := trivial
 have tok2 := trivial
 have tok3 := trivial
 have tok4 := trivial
 have tok5 := trivial
 have tok6 := trivial
 have tok7 := trivial
 have tok8 := trivial
 have tok9 := trivial
 have tok10 := trivial
 have tok11 := trivial
 have tok12 := trivial
 have tok13 := trivial
 have tok14 := trivial
 have tok15 := trivial
 have tok16 := trivial
 have tok17 := trivial
 have tok18 := trivial
 have tok19 := trivial
 have tok20 := trivial
 have tok21 := trivial
 have tok22 := trivial
 have tok23 := trivial
 have tok24 := trivial
 go_enter Tryz.func105, Tryz.ntmps105
 go_upto_region 1 with (fail)
 refine chk (fun W => Below w.heap.size w W ∧ W.heap[w.heap.size]? = some (.cells #[.int .i64 A, .int .i64 B] 32 (0, 0)) ∧ W.heap[w.heap.size + 1]? = some (.cells #[.bool b, .slice a n c, .bool b2, .slice a2 n2 c2] 107 (0, 0)) ∧ W.heap[w.heap.size + 1 + 1]? = some (.cells #[.bool false, .slice none 0 0, .bool false, .slice none 0 0] 107 (0, 0)) ∧ Wx W b a n c x ∧ Wx W b2 a2 n2 c2 z) (by refine ⟨?_, ?_, ?_, ?_, ?_, ?_⟩ <;> (exact ck)) ?_
 try clear hx
 try clear hz
 rintro w1 ⟨hB1, vo, vp, vq, hx', hz'⟩
 obtain ⟨me, mf, Zg, Yd⟩ := bk2 vo
 replace vo := Lib.hid vo
 obtain ⟨mg, mh, mi, mj, Zh, Ye⟩ := bk4 vp
 replace vp := Lib.hid vp
 obtain ⟨ml, mn, mo, mp, Zi, Yf⟩ := bk4 vq
 replace vq := Lib.hid vq
 have hx := hx'
 clear hx'
 have hz := hz'
 clear hz'
 go_upto_region 2 with (first | (have _t := tok2; go_at_call 104; (with_reducible refine ((TS _ (hx.below bel) (hz.below bel))).mono ?_); rintro e w2 ⟨b3, a3, n3, c3, rfl, hs3, f3, hb2⟩; clear tok2 _t; have hz2 := hb2.size; (try simp only [sA, sB, sC, sD] at hz2); (try (obtain ⟨kq, uk⟩ := cfAt hb2 (w.heap.size); have zt := kq 0; have zu := kq 1; clear kq; simp [go_sem, *] at zt zu uk)); (try have kt : w.heap.size < w2.heap.size := by omega); (try (obtain ⟨kq, ul⟩ := cfAt hb2 (w.heap.size + 1); have zv := kq 0; have zw := kq 1; have zx := kq 2; have zy := kq 3; clear kq; simp [go_sem, *] at zv zw zx zy ul)); (try have ku : w.heap.size + 1 < w2.heap.size := by omega); (try (obtain ⟨kq, um⟩ := cfAt hb2 (w.heap.size + 1 + 1); have ja := kq 0; have jb := kq 1; have jc := kq 2; have jd := kq 3; clear kq; simp [go_sem, *] at ja jb jc jd um)); (try have kw : w.heap.size + 1 + 1 < w2.heap.size := by omega); (try clear kx ky ba); (try clear bc); (try clear kz pa pb pc bd); (try clear bf); (try clear pd pe pf pg bg); (try clear bh)))
 have vr := (hb2.block (w.heap.size) (blk_lt' vo.out)).trans vo.out
 clear me mf Zg vo
 obtain ⟨mq, mr, Zj, Yg⟩ := bk2 vr
 replace vr := Lib.hid vr
 have vt := (hb2.block (w.heap.size + 1) (blk_lt' vp.out)).trans vp.out
 clear mg mh mi mj Zh vp
 obtain ⟨mu, mv, mw, mx, Zk, Yh⟩ := bk4 vt
 replace vt := Lib.hid vt
 have vu := (hb2.block (w.heap.size + 1 + 1) (blk_lt' vq.out)).trans vq.out
 clear ml mn mo mp Zi vq
 obtain ⟨my, mz, Qa, Qb, Zl, Yi⟩ := bk4 vu
 replace vu := Lib.hid vu
 replace hx := hx.below hb2
 replace hz := hz.below hb2
 have hB2 : Below w.heap.size w w2 := below_via hb2 (by assumption) (by go_size)
 replace vr := vr.out
 replace vt := vt.out
 replace vu := vu.out
 refine chk (fun W => Below w.heap.size w W ∧ W.heap[w.heap.size]? = some (.cells #[.int .i64 A, .int .i64 B] 32 (0, 0)) ∧ W.heap[w.heap.size + 1]? = some (.cells #[.bool b, .slice a n c, .bool b2, .slice a2 n2 c2] 107 (0, 0)) ∧ W.heap[w.heap.size + 1 + 1]? = some (.cells #[.bool false, .slice none 0 0, .bool false, .slice none 0 0] 107 (0, 0)) ∧ W.heap[w2.heap.size]? = some (.cells #[.bool b3, .slice a3 n3 c3] 80 (0, 0)) ∧ Wx W b a n c x ∧ Wx W b2 a2 n2 c2 z ∧ Wx W b3 a3 n3 c3 s) (by refine ⟨?_, ?_, ?_, ?_, ?_, ?_, ?_, ?_⟩ <;> (exact ck)) ?_
 try clear hx
 try clear hz
 try clear hs3
 clear mq mr Zj vr
 clear mu mv mw mx Zk vt
 clear my mz Qa Qb Zl vu
 clear hB2
 rintro w3 ⟨hB3, xp, xq, xr, xt, hx', hz', hs3'⟩
 obtain ⟨fa, fb, nt, Yj⟩ := bk2 xp
 replace xp := Lib.hid xp
 obtain ⟨fc, fd, fe, ff, nu, Yk⟩ := bk4 xq
 replace xq := Lib.hid xq
 obtain ⟨fh, fi, fj, fk, nx, Yl⟩ := bk4 xr
 replace xr := Lib.hid xr
 obtain ⟨fl, fm, ny, Ym⟩ := bk2 xt
 replace xt := Lib.hid xt
 have hx := hx'
 clear hx'
 have hz := hz'
 clear hz'
 have hs3 := hs3'
 clear hs3'
 have hn3b : n3 ≤ 8000 := by rw [hs3.ln]; exact hls
 rcases HD.out with ⟨h0, hd⟩ | ⟨h0, hd⟩
 ·subst hd
  have hn3 : n3 = 0 := by rw [hs3.ln]; exact ln_zero.2 h0
  have hn3' : ((n3 : Int) == 0) = true := by simp; omega
  clear HD h0 hn3 TT TS TV TO1 TO2
  go_upto_region 3 with (fail)
  replace xp := xp.out
  replace xq := xq.out
  replace xr := xr.out
  replace xt := xt.out
  refine chk (fun W => Below w.heap.size w W ∧ W.heap[w.heap.size + 1 + 1]? = some (.cells #[.bool false, .slice none 0 0, .bool false, .slice none 0 0] 107 (0, 0))) (by refine ⟨?_, ?_⟩ <;> (exact ck)) ?_
  clear fa fb nt xp
  clear fc fd fe ff nu xq
  clear fh fi fj fk nx xr
  clear fl fm ny xt
  clear hB3
  rintro w4 ⟨hB4, xl⟩
  obtain ⟨ur, us, ut, uw, nz, Zm⟩ := bk4 xl
  replace xl := Lib.hid xl
  iterate 24 (first | (with_reducible show bodyPost _ _ _ _ _ _) | (with_reducible refine wp_ret ?_) | go_values | go_skip | go_guarded | go_step | go_upon | go_back | skip)
  refine bodyPost_ret (v := .tuple #[.agg #[.bool false, .slice none 0 0, .bool false, .slice none 0 0], .bool false]) (by simp [results, Tryz.results105, go_sem, ur, us, ut, uw]) rfl ⟨_, _, _, _, _, _, _, _, rfl, Wx.zero' _, Wx.zero' _, fr_none _, fr_none _, ?_⟩
  have HO := xl.out
  (exact ck)
 ·have hn3 : n3 ≠ 0 := by rw [hs3.ln]; exact fun e => h0 (ln_zero.1 e)
  have hn3' : ((n3 : Int) == 0) = false := by simp; omega
  have HR := Lib.hid hd
  clear HD hd hn3
  go_upto_region 4 with (fail)
  go_upto_region 5 with (first | (have _t := tok4; go_at_call 122; (with_reducible refine ((TV _ (hx.below bel) (hz.below bel))).mono ?_); rintro e w4 ⟨rfl, hb4⟩; clear tok4 _t; have hz4 := hb4.size; (try simp only [sA, sB, sC, sD] at hz4); (try (obtain ⟨kq, un⟩ := cfAt hb4 (w.heap.size); have je := kq 0; have jf := kq 1; clear kq; simp [go_sem, *] at je jf un)); (try have ph : w.heap.size < w4.heap.size := by omega); (try (obtain ⟨kq, uo⟩ := cfAt hb4 (w.heap.size + 1); have jg := kq 0; have jh := kq 1; have ji := kq 2; have jj := kq 3; clear kq; simp [go_sem, *] at jg jh ji jj uo)); (try have pi : w.heap.size + 1 < w4.heap.size := by omega); (try (obtain ⟨kq, uq⟩ := cfAt hb4 (w.heap.size + 1 + 1); have jk := kq 0; have jl := kq 1; have jm := kq 2; have jn := kq 3; clear kq; simp [go_sem, *] at jk jl jm jn uq)); (try have pj : w.heap.size + 1 + 1 < w4.heap.size := by omega); (try clear kx ky ba); (try clear bc); (try clear kz pa pb pc bd); (try clear bf); (try clear pd pe pf pg bg); (try clear bh); (try clear zt zu uk); (try clear kt); (try clear zv zw zx zy ul); (try clear ku); (try clear ja jb jc jd um); (try clear kw); (try clear pk pm bi); (try clear bj); (try clear pn po pp pq bk); (try clear bm); (try clear pr pt pu pv bn); (try clear br)))
  have vv := (hb4.block (w.heap.size) (blk_lt' xp.out)).trans xp.out
  clear fa fb nt xp
  obtain ⟨Qc, Qd, Zn, Yn⟩ := bk2 vv
  replace vv := Lib.hid vv
  have vw := (hb4.block (w.heap.size + 1) (blk_lt' xq.out)).trans xq.out
  clear fc fd fe ff nu xq
  obtain ⟨Qe, Qf, Qg, Qh, Zo, Yo⟩ := bk4 vw
  replace vw := Lib.hid vw
  have xl := (hb4.block (w.heap.size + 1 + 1) (blk_lt' xr.out)).trans xr.out
  clear fh fi fj fk nx xr
  obtain ⟨ur, us, ut, uw, nz, Zm⟩ := bk4 xl
  replace xl := Lib.hid xl
  have vy := (hb4.block (w2.heap.size) (blk_lt' xt.out)).trans xt.out
  clear fl fm ny xt
  obtain ⟨Qi, Qj, Zp, Yp⟩ := bk2 vy
  replace vy := Lib.hid vy
  replace hx := hx.below hb4
  replace hz := hz.below hb4
  replace hs3 := hs3.below hb4
  have hB4 : Below w.heap.size w w4 := below_via hb4 (by assumption) (by go_size)
  go_upto_region 6 with (first | (have _t := tok5; go_at_call 124; (with_reducible refine ((TT _ (hx.below bel) (hz.below bel))).mono ?_); rintro e w5 ⟨b5, a5, n5, c5, rfl, ht5, f5, hb5⟩; clear tok5 _t; have hz5 := hb5.size; (try simp only [sA, sB, sC, sD] at hz5); (try (obtain ⟨kq, pw⟩ := cfAt hb5 (w.heap.size); have ws := kq 0; have wt := kq 1; clear kq; simp [go_sem, *] at ws wt pw)); (try have bu : w.heap.size < w5.heap.size := by omega); (try (obtain ⟨kq, px⟩ := cfAt hb5 (w.heap.size + 1); have wu := kq 0; have wv := kq 1; have ww := kq 2; have wx := kq 3; clear kq; simp [go_sem, *] at wu wv ww wx px)); (try have bw : w.heap.size + 1 < w5.heap.size := by omega); (try (obtain ⟨kq, dc⟩ := cfAt hb5 (w.heap.size + 1 + 1); have wy := kq 0; have wz := kq 1; have ua := kq 2; have ub := kq 3; clear kq; simp [go_sem, *] at wy wz ua ub dc)); (try have bx : w.heap.size + 1 + 1 < w5.heap.size := by omega); (try (obtain ⟨kq, uy⟩ := cfAt hb5 (w2.heap.size); have jo := kq 0; have jp := kq 1; clear kq; simp [go_sem, *] at jo jp uy)); (try have fn : w2.heap.size < w5.heap.size := by omega); (try clear kx ky ba); (try clear bc); (try clear kz pa pb pc bd); (try clear bf); (try clear pd pe pf pg bg); (try clear bh); (try clear zt zu uk); (try clear kt); (try clear zv zw zx zy ul); (try clear ku); (try clear ja jb jc jd um); (try clear kw); (try clear pk pm bi); (try clear bj); (try clear pn po pp pq bk); (try clear bm); (try clear pr pt pu pv bn); (try clear br); (try clear cd ce Qk); (try clear Ql); (try clear je jf un); (try clear ph); (try clear jg jh ji jj uo); (try clear pi); (try clear jk jl jm jn uq); (try clear pj); (try clear ko kp fo); (try clear fp)) | (have _t := tok6; go_at_call 123; (with_reducible refine ((TO1 _ _ _ _ _ ht5)).mono ?_); rintro e w6 ⟨b6, a6, n6, c6, r6, rfl, hp6, f6, hb6⟩; clear tok6 _t; have hz6 := hb6.size; (try simp only [sA, sB, sC, sD] at hz6); (try (obtain ⟨kq, cf⟩ := cfAt hb6 (w.heap.size); have de := kq 0; have df := kq 1; clear kq; simp [go_sem, *] at de df cf)); (try have Xq : w.heap.size < w6.heap.size := by omega); (try (obtain ⟨kq, cg⟩ := cfAt hb6 (w.heap.size + 1); have dg := kq 0; have dh := kq 1; have di := kq 2; have dj := kq 3; clear kq; simp [go_sem, *] at dg dh di dj cg)); (try have Xr : w.heap.size + 1 < w6.heap.size := by omega); (try (obtain ⟨kq, ch⟩ := cfAt hb6 (w.heap.size + 1 + 1); have dk := kq 0; have dl := kq 1; have dm := kq 2; have dn := kq 3; clear kq; simp [go_sem, *] at dk dl dm dn ch)); (try have Xs : w.heap.size + 1 + 1 < w6.heap.size := by omega); (try (obtain ⟨kq, fq⟩ := cfAt hb6 (w2.heap.size); have kr := kq 0; have ks := kq 1; clear kq; simp [go_sem, *] at kr ks fq)); (try have Qm : w2.heap.size < w6.heap.size := by omega); (try clear zt zu uk); (try clear kt); (try clear zv zw zx zy ul); (try clear ku); (try clear ja jb jc jd um); (try clear kw); (try clear pk pm bi); (try clear bj); (try clear pn po pp pq bk); (try clear bm); (try clear pr pt pu pv bn); (try clear br); (try clear cd ce Qk); (try clear Ql); (try clear je jf un); (try clear ph); (try clear jg jh ji jj uo); (try clear pi); (try clear jk jl jm jn uq); (try clear pj); (try clear ko kp fo); (try clear fp); (try clear ws wt pw); (try clear bu); (try clear wu wv ww wx px); (try clear bw); (try clear wy wz ua ub dc); (try clear bx); (try clear jo jp uy); (try clear fn)))
  have F6 : Fr w.heap.size a6 := f6.mono (by have := hB4.size; have := hb5.size; omega)
  replace hb6 := below_via hb6 hb5 (by have := hb5.size; omega)
  have wc := (hb6.block (w.heap.size) (blk_lt' vv.out)).trans vv.out
  clear Qc Qd Zn vv
  obtain ⟨Qn, Qo, Zq, Yq⟩ := bk2 wc
  replace wc := Lib.hid wc
  have wd := (hb6.block (w.heap.size + 1) (blk_lt' vw.out)).trans vw.out
  clear Qe Qf Qg Qh Zo vw
  obtain ⟨Qp, Qq, Qr, Qs, Zr, Yr⟩ := bk4 wd
  replace wd := Lib.hid wd
  have wg := (hb6.block (w.heap.size + 1 + 1) (blk_lt' xl.out)).trans xl.out
  clear ur us ut uw nz xl
  obtain ⟨Qt, Qu, Qv, Qw, Zs, Ys⟩ := bk4 wg
  replace wg := Lib.hid wg
  have wi := (hb6.block (w2.heap.size) (blk_lt' vy.out)).trans vy.out
  clear Qi Qj Zp vy
  obtain ⟨Qx, Qy, Zt, Yt⟩ := bk2 wi
  replace wi := Lib.hid wi
  replace hx := hx.below hb6
  replace hz := hz.below hb6
  replace hs3 := hs3.below hb6
  have hB6 : Below w.heap.size w w6 := below_via hb6 (by assumption) (by go_size)
  clear f6 f5 hn3'
  replace wc := wc.out
  replace wd := wd.out
  replace wg := wg.out
  replace wi := wi.out
  refine chk (fun W => Below w.heap.size w W ∧ W.heap[w.heap.size + 1 + 1]? = some (.cells #[.bool false, .slice none 0 0, .bool false, .slice none 0 0] 107 (0, 0)) ∧ W.heap[w2.heap.size]? = some (.cells #[.bool b3, .slice a3 n3 c3] 80 (0, 0)) ∧ W.heap[w6.heap.size]? = some (.cells #[.bool b6, .slice a6 n6 c6] 80 (0, 0)) ∧ Wx W b3 a3 n3 c3 s ∧ Wx W b6 a6 n6 c6 p) (by refine ⟨?_, ?_, ?_, ?_, ?_, ?_⟩ <;> (exact ck)) ?_
  try clear hs3
  try clear hp6
  clear Qn Qo Zq wc
  clear Qp Qq Qr Qs Zr wd
  clear Qt Qu Qv Qw Zs wg
  clear Qx Qy Zt wi
  clear hB6
  rintro w7 ⟨hB7, wj, wk, wl, hs3', hp6'⟩
  obtain ⟨Qz, Xa, Xb, Xc, Zu, Yu⟩ := bk4 wj
  replace wj := Lib.hid wj
  obtain ⟨Xd, Xe, Zv, Yv⟩ := bk2 wk
  replace wk := Lib.hid wk
  obtain ⟨Xf, Xg, Zw, Yw⟩ := bk2 wl
  replace wl := Lib.hid wl
  have hs3 := hs3'
  clear hs3'
  have hp6 := hp6'
  clear hp6'
  go_upto_region 7 with (first | (have _t := tok8; go_at_call 123; (with_reducible refine ((TO2 _ _ _ _ _ (hs3.below bel))).mono ?_); rintro e w8 ⟨b8, a8, n8, c8, r8, rfl, hq8, f8, hb8⟩; clear tok8 _t; have hz8 := hb8.size; (try simp only [sA, sB, sC, sD] at hz8); (try (obtain ⟨kq, Xt⟩ := cfAt hb8 (w.heap.size); have co := kq 0; have cp := kq 1; clear kq; simp [go_sem, *] at co cp Xt)); (try have Jr : w.heap.size < w8.heap.size := by omega); (try (obtain ⟨kq, Xu⟩ := cfAt hb8 (w.heap.size + 1); have cq := kq 0; have cr := kq 1; have ct := kq 2; have cu := kq 3; clear kq; simp [go_sem, *] at cq cr ct cu Xu)); (try have Js : w.heap.size + 1 < w8.heap.size := by omega); (try (obtain ⟨kq, Xv⟩ := cfAt hb8 (w.heap.size + 1 + 1); have cw := kq 0; have cx := kq 1; have cy := kq 2; have cz := kq 3; clear kq; simp [go_sem, *] at cw cx cy cz Xv)); (try have Jt : w.heap.size + 1 + 1 < w8.heap.size := by omega); (try (obtain ⟨kq, Xh⟩ := cfAt hb8 (w2.heap.size); have ci := kq 0; have cj := kq 1; clear kq; simp [go_sem, *] at ci cj Xh)); (try have Jo : w2.heap.size < w8.heap.size := by omega); (try clear je jf un); (try clear ph); (try clear jg jh ji jj uo); (try clear pi); (try clear jk jl jm jn uq); (try clear pj); (try clear ko kp fo); (try clear fp); (try clear ws wt pw); (try clear bu); (try clear wu wv ww wx px); (try clear bw); (try clear wy wz ua ub dc); (try clear bx); (try clear jo jp uy); (try clear fn); (try clear de df cf); (try clear Xq); (try clear dg dh di dj cg); (try clear Xr); (try clear dk dl dm dn ch); (try clear Xs); (try clear kr ks fq); (try clear Qm); (try clear Jc Jd Ju); (try clear Jv); (try clear Je Jf Jg Jh Jw); (try clear Jx); (try clear Ji Jj Jk Jl Jy); (try clear Jz); (try clear Ja Jb Jp); (try clear Jq)))
  have wm := (hb8.block (w.heap.size + 1 + 1) (blk_lt' wj.out)).trans wj.out
  clear Qz Xa Xb Xc Zu wj
  obtain ⟨Xi, Xj, Xk, Xl, Zx, Yx⟩ := bk4 wm
  replace wm := Lib.hid wm
  have wn := (hb8.block (w2.heap.size) (blk_lt' wk.out)).trans wk.out
  clear Xd Xe Zv wk
  obtain ⟨Xm, Xn, Zy, Yy⟩ := bk2 wn
  replace wn := Lib.hid wn
  have wq := (hb8.block (w6.heap.size) (blk_lt' wl.out)).trans wl.out
  clear Xf Xg Zw wl
  obtain ⟨Xo, Xp, Zz, Yz⟩ := bk2 wq
  replace wq := Lib.hid wq
  replace hs3 := hs3.below hb8
  replace hp6 := hp6.below hb8
  have hB8 : Below w.heap.size w w8 := below_via hb8 (by assumption) (by go_size)
  have F8 : Fr w.heap.size a8 := f8.mono (by have := hB7.size; omega)
  clear f8
  replace wm := wm.out
  replace wn := wn.out
  replace wq := wq.out
  refine chk (fun W => Below w.heap.size w W ∧ W.heap[w.heap.size + 1 + 1]? = some (.cells #[.bool false, .slice none 0 0, .bool false, .slice none 0 0] 107 (0, 0)) ∧ W.heap[w6.heap.size]? = some (.cells #[.bool b6, .slice a6 n6 c6] 80 (0, 0)) ∧ W.heap[w8.heap.size]? = some (.cells #[.bool b8, .slice a8 n8 c8] 80 (0, 0)) ∧ Wx W b6 a6 n6 c6 p ∧ Wx W b8 a8 n8 c8 q) (by refine ⟨?_, ?_, ?_, ?_, ?_, ?_⟩ <;> (exact ck)) ?_
  try clear hp6
  try clear hq8
  clear Xi Xj Xk Xl Zx wm
  clear Xm Xn Zy wn
  clear Xo Xp Zz wq
  clear hB8
  rintro w9 ⟨hB9, xu, xv, xw, hp6', hq8'⟩
  obtain ⟨ft, fu, fv, fw, ma, Va⟩ := bk4 xu
  replace xu := Lib.hid xu
  obtain ⟨ga, gb, mb, Vb⟩ := bk2 xv
  replace xv := Lib.hid xv
  obtain ⟨gc, gd, mc, Vc⟩ := bk2 xw
  replace xw := Lib.hid xw
  have hp6 := hp6'
  clear hp6'
  have hq8 := hq8'
  clear hq8'
  have hTD : w6.heap.size ≠ w8.heap.size := by omega
  have hn6 : n6 ≤ 8000 := by rw [hp6.ln]; exact lnp
  have hn8 : n8 ≤ 8000 := by rw [hq8.ln]; exact lnq
  have hb8n := Lib.hid hq8.neg
  by_cases hneg : s < 0
  ·obtain rfl : b8 = true := by rw [hb8n.out]; simp [ngB, hsg.2 hneg]
   obtain ⟨p1, hp1⟩ : ∃ v, -p = v := ⟨_, rfl⟩
   obtain ⟨q1, hq1⟩ : ∃ v, -q = v := ⟨_, rfl⟩
   have HR2 := HR.out
   rw [show sgZ s p = p1 by rw [← hp1]; simp [sgZ, hneg], show sgZ s q = q1 by rw [← hq1]; simp [sgZ, hneg]] at HR2
   have TN1 : ∀ W, Wx W b6 a6 n6 c6 p → Calls Tryz.prog 55 #[.agg #[.bool b6, .slice a6 n6 c6]] W (NewW W p1) := fun W h => hp1 ▸ negated_any b6 a6 n6 c6 p W h (by omega)
   have TN2 : ∀ W, Wx W true a8 n8 c8 q → Calls Tryz.prog 55 #[.agg #[.bool true, .slice a8 n8 c8]] W (NewW W q1) := fun W h => hq1 ▸ negated_any true a8 n8 c8 q W h (by omega)
   clear HR
   have HR := Lib.hid HR2
   clear HR2 hp1 hq1
   go_upto_region 8 with (fail)
   refine wp_open (n := 4) (by kernel_rfl) (by kernel_rfl) (by kernel_rfl) (by kernel_rfl) ?_
   simp only [List.take_succ_cons, List.take_zero]
   apply wpS_quiet
   ·intro γ W hW hp
    have hs := hW.size
    (try simp only [sA, sB, sC, sD] at hs)
    have Jm := fun x => (xcA hW (w6.heap.size) 0 (by first | omega | go_size) x).trans ga
    have Jn := fun x => (xcA hW (w6.heap.size) 1 (by first | omega | go_size) x).trans gb
    clear hW hp
    refine ⟨rfl, ?_⟩
    go_big_quiet_op
    first | exact rfl
   ·exact locS_const _
   try simp only [Act.put, List.setIfInBounds_toArray, List.set_cons_succ, List.set_cons_zero, Nat.reduceAdd]
   apply wpS_open (openW w.heap.size p1)
   ·intro γ W hW hp
    refine ⟨rfl, ?_⟩
    go_simp
    refine plainNew rfl ?_
    exact open_W (TN1 _ (hp6.below hW)) (by (have := hW.size; (try simp only [sA, sB, sC, sD] at this); omega))
   try simp only [Act.put, List.setIfInBounds_toArray, List.set_cons_succ, List.set_cons_zero, Nat.reduceAdd]
   apply wpS_quiet
   ·intro γ W hW hp
    have hs := hW.size
    (try simp only [sA, sB, sC, sD] at hs)
    have Jm := fun x => (xcA hW (w8.heap.size) 0 (by first | omega | go_size) x).trans gc
    have Jn := fun x => (xcA hW (w8.heap.size) 1 (by first | omega | go_size) x).trans gd
    clear hW hp
    refine ⟨rfl, ?_⟩
    go_big_quiet_op
    first | exact rfl
   ·exact locS_const _
   try simp only [Act.put, List.setIfInBounds_toArray, List.set_cons_succ, List.set_cons_zero, Nat.reduceAdd]
   apply wpS_open (openW w.heap.size q1)
   ·intro γ W hW hp
    refine ⟨rfl, ?_⟩
    go_simp
    refine plainNew rfl ?_
    exact open_W (TN2 _ (hq8.below hW)) (by (have := hW.size; (try simp only [sA, sB, sC, sD] at this); omega))
   try simp only [Act.put, List.setIfInBounds_toArray, List.set_cons_succ, List.set_cons_zero, Nat.reduceAdd]
   apply wpS_end
   intro γ w10 hb10 hG10 hA10
   have cl := hG10 _ (mL _ (mR _))
   dsimp only at cl
   have cn := hG10 _ (mR _)
   dsimp only at cn
   clear hG10 hA10
   simp only [List.drop_succ_cons, List.drop_zero]
   have hz10 := hb10.size
   (try simp only [sA, sB, sC, sD] at hz10)
   obtain ⟨b9, a9, n9, c9, e9, hp, F9⟩ := cl
   obtain ⟨b10, a10, n10, c10, e10, hq, F10⟩ := cn
   simp only [e9, e10]
   clear e9 e10 TN1 TN2
   have zp := (hb10.block (w.heap.size + 1 + 1) (blk_lt' xu.out)).trans xu.out
   clear ft fu fv fw ma xu
   obtain ⟨nc, nd, nf, ng, Xw, Ya⟩ := bk4 zp
   replace zp := Lib.hid zp
   have zq := (hb10.block (w6.heap.size) (blk_lt' xv.out)).trans xv.out
   clear ga gb mb xv
   obtain ⟨nh, ni, Xx, Yb⟩ := bk2 zq
   replace zq := Lib.hid zq
   have zr := (hb10.block (w8.heap.size) (blk_lt' xw.out)).trans xw.out
   clear gc gd mc xw
   obtain ⟨nj, nk, Xy, Yc⟩ := bk2 zr
   replace zr := Lib.hid zr
   replace hp6 := hp6.below hb10
   replace hq8 := hq8.below hb10
   have hB10 : Below w.heap.size w w10 := below_via hb10 (by assumption) (by go_size)
   go_upto_region 9 with (fail)
   replace zp := zp.out
   replace zq := zq.out
   replace zr := zr.out
   refine chk (fun W => Below w.heap.size w W ∧ W.heap[w.heap.size + 1 + 1]? = some (.cells #[.bool false, .slice none 0 0, .bool false, .slice none 0 0] 107 (0, 0)) ∧ W.heap[w6.heap.size]? = some (.cells #[.bool b9, .slice a9 n9 c9] 80 (0, 0)) ∧ W.heap[w8.heap.size]? = some (.cells #[.bool b10, .slice a10 n10 c10] 80 (0, 0)) ∧ Wx W b9 a9 n9 c9 p1 ∧ Wx W b10 a10 n10 c10 q1) (by refine ⟨?_, ?_, ?_, ?_, ?_, ?_⟩ <;> (exact ck)) ?_
   try clear hp
   try clear hq
   clear nc nd nf ng Xw zp
   clear nh ni Xx zq
   clear nj nk Xy zr
   clear hB10
   rintro w20 ⟨hB20, qj, qk, ql, hp', hq'⟩
   obtain ⟨uc, ud, ue, uf, dq, Xz⟩ := bk4 qj
   replace qj := Lib.hid qj
   obtain ⟨ug, uh, dr, Za⟩ := bk2 qk
   replace qk := Lib.hid qk
   obtain ⟨ui, uj, dt, Zb⟩ := bk2 ql
   replace ql := Lib.hid ql
   have hp := hp'
   clear hp'
   have hq := hq'
   clear hq'
   go_upto_region 10 with (fail)
   replace qj := qj.out
   replace qk := qk.out
   replace ql := ql.out
   refine chk (fun W => Below w.heap.size w W ∧ W.heap[w.heap.size + 1 + 1]? = some (.cells #[.bool false, .slice none 0 0, .bool false, .slice none 0 0] 107 (0, 0)) ∧ W.heap[w20.heap.size]? = some (.cells #[.bool b9, .slice a9 n9 c9, .bool b10, .slice a10 n10 c10] 107 (0, 0)) ∧ Wx W b9 a9 n9 c9 p1 ∧ Wx W b10 a10 n10 c10 q1) (by refine ⟨?_, ?_, ?_, ?_, ?_⟩ <;> (exact ck)) ?_
   try clear hp
   try clear hq
   clear uc ud ue uf dq qj
   clear ug uh dr qk
   clear ui uj dt ql
   clear hB20
   rintro w21 ⟨hB21, qc, qd, hp', hq'⟩
   obtain ⟨xy, za, zb, zc, jq, Zc⟩ := bk4 qc
   replace qc := Lib.hid qc
   obtain ⟨zd, ze, zf, zg, jr, Zd⟩ := bk4 qd
   replace qd := Lib.hid qd
   have hp := hp'
   clear hp'
   have hq := hq'
   clear hq'
   rcases HR.out with ⟨e1, hd⟩ | ⟨e1, hd⟩
   ·subst hd
    have TG : ∀ W (b : Bool) (a : Option Addr) (n c : Nat) (b2 : Bool) (a2 : Option Addr) (n2 c2 : Nat), Wx W b a n c p1 → Wx W b2 a2 n2 c2 q1 → Calls Tryz.prog 125 #[.agg #[.bool b, .slice a n c, .bool b2, .slice a2 n2 c2]] W fun e w' => e = .returned (.bool true) ∧ Below W.heap.size W w' := fun W b a n c b2 a2 n2 c2 h1 h2 => e1 ▸ isRatio_any b b2 a a2 n c n2 c2 p1 q1 W h1 h2
    clear e1 HR TT TS TV TO1 TO2
    go_upto_region 12 with (first | (have _t := tok22; go_at_call 125; (with_reducible refine ((TG _ _ _ _ _ _ _ _ _ (hp.below bel) (hq.below bel))).mono ?_); rintro e w22 ⟨rfl, hb22⟩; clear tok22 _t; have hz22 := hb22.size; (try simp only [sA, sB, sC, sD] at hz22); (try (obtain ⟨kq, xm⟩ := cfAt hb22 (w.heap.size); have qm := kq 0; have qn := kq 1; clear kq; simp [go_sem, *] at qm qn xm)); (try have ge : w.heap.size < w22.heap.size := by omega); (try (obtain ⟨kq, xn⟩ := cfAt hb22 (w.heap.size + 1); have qo := kq 0; have qq := kq 1; have qr := kq 2; have qt := kq 3; clear kq; simp [go_sem, *] at qo qq qr qt xn)); (try have gf : w.heap.size + 1 < w22.heap.size := by omega); (try (obtain ⟨kq, xo⟩ := cfAt hb22 (w.heap.size + 1 + 1); have qu := kq 0; have qv := kq 1; have qw := kq 2; have qx := kq 3; clear kq; simp [go_sem, *] at qu qv qw qx xo)); (try have gg : w.heap.size + 1 + 1 < w22.heap.size := by omega); (try (obtain ⟨kq, qy⟩ := cfAt hb22 (w20.heap.size); have qf := kq 0; have qg := kq 1; have qh := kq 2; have qi := kq 3; clear kq; simp [go_sem, *] at qf qg qh qi qy)); (try have jt : w20.heap.size < w22.heap.size := by omega); (try clear ju jv gh); (try clear gi); (try clear jw jx jy jz gj); (try clear gk); (try clear ya yb yc yd gl); (try clear gm); (try clear ye yf gn); (try clear gr); (try clear yg yh yi yj gt); (try clear gu); (try clear yk yl ym yn gv); (try clear gy); (try clear yo yp ka); (try clear kb); (try clear yq yr yt yu kc); (try clear kd); (try clear yv yw yx yz ke); (try clear kf); (try clear va vb kh); (try clear ki); (try clear vc vd vf vg kj); (try clear kl); (try clear vh vi vj vk km); (try clear kn); (try clear zk zm zn zo vm); (try clear vn)))
    have qa := (hb22.block (w.heap.size + 1 + 1) (blk_lt' qc.out)).trans qc.out
    clear xy za zb zc jq qc
    obtain ⟨qz, xa, xb, xc, zh, du⟩ := bk4 qa
    replace qa := Lib.hid qa
    have qb := (hb22.block (w20.heap.size) (blk_lt' qd.out)).trans qd.out
    clear zd ze zf zg jr qd
    obtain ⟨xd, xe, xf, xg, zi, dv⟩ := bk4 qb
    replace qb := Lib.hid qb
    replace hp := hp.below hb22
    replace hq := hq.below hb22
    have hB22 : Below w.heap.size w w22 := below_via hb22 (by assumption) (by go_size)
    replace qa := qa.out
    replace qb := qb.out
    refine chk (fun W => Below w.heap.size w W ∧ W.heap[w.heap.size + 1 + 1]? = some (.cells #[.bool false, .slice none 0 0, .bool false, .slice none 0 0] 107 (0, 0)) ∧ W.heap[w20.heap.size]? = some (.cells #[.bool b9, .slice a9 n9 c9, .bool b10, .slice a10 n10 c10] 107 (0, 0)) ∧ Wx W b9 a9 n9 c9 p1 ∧ Wx W b10 a10 n10 c10 q1) (by refine ⟨?_, ?_, ?_, ?_, ?_⟩ <;> (exact ck)) ?_
    try clear hp
    try clear hq
    clear qz xa xb xc zh qa
    clear xd xe xf xg zi qb
    clear hB22
    rintro w23 ⟨hB23, qe, zj, hp', hq'⟩
    obtain ⟨xh, xi, xj, xk, dw, dx⟩ := bk4 qe
    replace qe := Lib.hid qe
    obtain ⟨nl, nm, np, nr, Ze, Zf⟩ := bk4 zj
    replace zj := Lib.hid zj
    have hp := hp'
    clear hp'
    have hq := hq'
    clear hq'
    have hON : w.heap.size + 1 + 1 ≠ w20.heap.size := by omega
    clear TG
    iterate 24 (first | (with_reducible show bodyPost _ _ _ _ _ _) | (with_reducible refine wp_ret ?_) | go_values | go_skip | go_guarded | go_step | go_upon | go_back | skip)
    refine bodyPost_ret (v := .tuple #[.agg #[.bool b9, .slice a9 n9 c9, .bool b10, .slice a10 n10 c10], .bool true]) (by simp [results, Tryz.results105, go_sem, xh, xi, xj, xk]) rfl ⟨_, _, _, _, _, _, _, _, rfl, ?_, ?_, F9, F10, ?_⟩
    all_goals (have HO := qe.out)
    ·(exact ck)
    ·(exact ck)
    ·(exact ck)
   ·subst hd
    have TG : ∀ W (b : Bool) (a : Option Addr) (n c : Nat) (b2 : Bool) (a2 : Option Addr) (n2 c2 : Nat), Wx W b a n c p1 → Wx W b2 a2 n2 c2 q1 → Calls Tryz.prog 125 #[.agg #[.bool b, .slice a n c, .bool b2, .slice a2 n2 c2]] W fun e w' => e = .returned (.bool false) ∧ Below W.heap.size W w' := fun W b a n c b2 a2 n2 c2 h1 h2 => e1 ▸ isRatio_any b b2 a a2 n c n2 c2 p1 q1 W h1 h2
    clear e1 HR TT TS TV TO1 TO2
    go_upto_region 11 with (first | (have _t := tok22; go_at_call 125; (with_reducible refine ((TG _ _ _ _ _ _ _ _ _ (hp.below bel) (hq.below bel))).mono ?_); rintro e w22 ⟨rfl, hb22⟩; clear tok22 _t; have hz22 := hb22.size; (try simp only [sA, sB, sC, sD] at hz22); (try (obtain ⟨kq, xm⟩ := cfAt hb22 (w.heap.size); have qm := kq 0; have qn := kq 1; clear kq; simp [go_sem, *] at qm qn xm)); (try have ge : w.heap.size < w22.heap.size := by omega); (try (obtain ⟨kq, xn⟩ := cfAt hb22 (w.heap.size + 1); have qo := kq 0; have qq := kq 1; have qr := kq 2; have qt := kq 3; clear kq; simp [go_sem, *] at qo qq qr qt xn)); (try have gf : w.heap.size + 1 < w22.heap.size := by omega); (try (obtain ⟨kq, xo⟩ := cfAt hb22 (w.heap.size + 1 + 1); have qu := kq 0; have qv := kq 1; have qw := kq 2; have qx := kq 3; clear kq; simp [go_sem, *] at qu qv qw qx xo)); (try have gg : w.heap.size + 1 + 1 < w22.heap.size := by omega); (try (obtain ⟨kq, qy⟩ := cfAt hb22 (w20.heap.size); have qf := kq 0; have qg := kq 1; have qh := kq 2; have qi := kq 3; clear kq; simp [go_sem, *] at qf qg qh qi qy)); (try have jt : w20.heap.size < w22.heap.size := by omega); (try clear ju jv gh); (try clear gi); (try clear jw jx jy jz gj); (try clear gk); (try clear ya yb yc yd gl); (try clear gm); (try clear ye yf gn); (try clear gr); (try clear yg yh yi yj gt); (try clear gu); (try clear yk yl ym yn gv); (try clear gy); (try clear yo yp ka); (try clear kb); (try clear yq yr yt yu kc); (try clear kd); (try clear yv yw yx yz ke); (try clear kf); (try clear va vb kh); (try clear ki); (try clear vc vd vf vg kj); (try clear kl); (try clear vh vi vj vk km); (try clear kn); (try clear zk zm zn zo vm); (try clear vn)))
    have qa := (hb22.block (w.heap.size + 1 + 1) (blk_lt' qc.out)).trans qc.out
    clear xy za zb zc jq qc
    obtain ⟨qz, xa, xb, xc, zh, du⟩ := bk4 qa
    replace qa := Lib.hid qa
    have qb := (hb22.block (w20.heap.size) (blk_lt' qd.out)).trans qd.out
    clear zd ze zf zg jr qd
    obtain ⟨xd, xe, xf, xg, zi, dv⟩ := bk4 qb
    replace qb := Lib.hid qb
    replace hp := hp.below hb22
    replace hq := hq.below hb22
    have hB22 : Below w.heap.size w w22 := below_via hb22 (by assumption) (by go_size)
    replace qa := qa.out
    replace qb := qb.out
    refine chk (fun W => Below w.heap.size w W ∧ W.heap[w.heap.size + 1 + 1]? = some (.cells #[.bool false, .slice none 0 0, .bool false, .slice none 0 0] 107 (0, 0))) (by refine ⟨?_, ?_⟩ <;> (exact ck)) ?_
    clear qz xa xb xc zh qa
    clear xd xe xf xg zi qb
    clear hB22
    rintro w23 ⟨hB23, qe⟩
    obtain ⟨xh, xi, xj, xk, dw, dx⟩ := bk4 qe
    replace qe := Lib.hid qe
    clear TG
    iterate 24 (first | (with_reducible show bodyPost _ _ _ _ _ _) | (with_reducible refine wp_ret ?_) | go_values | go_skip | go_guarded | go_step | go_upon | go_back | skip)
    refine bodyPost_ret (v := .tuple #[.agg #[.bool false, .slice none 0 0, .bool false, .slice none 0 0], .bool false]) (by simp [results, Tryz.results105, go_sem, xh, xi, xj, xk]) rfl ⟨_, _, _, _, _, _, _, _, rfl, Wx.zero' _, Wx.zero' _, fr_none _, fr_none _, ?_⟩
    have HO := qe.out
    (exact ck)
  ·have hb8f : b8 = false := by rw [hb8n.out]; have := hsg.1; simp [ngB]; omega
   have HR2 := HR.out
   rw [show sgZ s p = p by simp [sgZ, hneg], show sgZ s q = q by simp [sgZ, hneg]] at HR2
   clear HR
   have HR := Lib.hid HR2
   clear HR2
   go_upto_region 9 with (fail)
   clear hb8f
   obtain ⟨b9, rfl⟩ : ∃ b, b = b6 := ⟨_, rfl⟩
   obtain ⟨a9, rfl⟩ : ∃ b, b = a6 := ⟨_, rfl⟩
   obtain ⟨n9, rfl⟩ : ∃ b, b = n6 := ⟨_, rfl⟩
   obtain ⟨c9, rfl⟩ : ∃ b, b = c6 := ⟨_, rfl⟩
   obtain ⟨b10, rfl⟩ : ∃ b, b = b8 := ⟨_, rfl⟩
   obtain ⟨a10, rfl⟩ : ∃ b, b = a8 := ⟨_, rfl⟩
   obtain ⟨n10, rfl⟩ : ∃ b, b = n8 := ⟨_, rfl⟩
   obtain ⟨c10, rfl⟩ : ∃ b, b = c8 := ⟨_, rfl⟩
   obtain ⟨p1, rfl⟩ : ∃ b, b = p := ⟨_, rfl⟩
   obtain ⟨q1, rfl⟩ : ∃ b, b = q := ⟨_, rfl⟩
   have F9 := F6
   have F10 := F8
   have hp := hp6
   have hq := hq8
   clear hp6 hq8 F6 F8
   replace xu := xu.out
   replace xv := xv.out
   replace xw := xw.out
   refine chk (fun W => Below w.heap.size w W ∧ W.heap[w.heap.size + 1 + 1]? = some (.cells #[.bool false, .slice none 0 0, .bool false, .slice none 0 0] 107 (0, 0)) ∧ W.heap[w6.heap.size]? = some (.cells #[.bool b9, .slice a9 n9 c9] 80 (0, 0)) ∧ W.heap[w8.heap.size]? = some (.cells #[.bool b10, .slice a10 n10 c10] 80 (0, 0)) ∧ Wx W b9 a9 n9 c9 p1 ∧ Wx W b10 a10 n10 c10 q1) (by refine ⟨?_, ?_, ?_, ?_, ?_, ?_⟩ <;> (exact ck)) ?_
   try clear hp
   try clear hq
   clear ft fu fv fw ma xu
   clear ga gb mb xv
   clear gc gd mc xw
   clear hB9
   rintro w20 ⟨hB20, qj, qk, ql, hp', hq'⟩
   obtain ⟨uc, ud, ue, uf, dq, Xz⟩ := bk4 qj
   replace qj := Lib.hid qj
   obtain ⟨ug, uh, dr, Za⟩ := bk2 qk
   replace qk := Lib.hid qk
   obtain ⟨ui, uj, dt, Zb⟩ := bk2 ql
   replace ql := Lib.hid ql
   have hp := hp'
   clear hp'
   have hq := hq'
   clear hq'
   go_upto_region 10 with (fail)
   replace qj := qj.out
   replace qk := qk.out
   replace ql := ql.out
   refine chk (fun W => Below w.heap.size w W ∧ W.heap[w.heap.size + 1 + 1]? = some (.cells #[.bool false, .slice none 0 0, .bool false, .slice none 0 0] 107 (0, 0)) ∧ W.heap[w20.heap.size]? = some (.cells #[.bool b9, .slice a9 n9 c9, .bool b10, .slice a10 n10 c10] 107 (0, 0)) ∧ Wx W b9 a9 n9 c9 p1 ∧ Wx W b10 a10 n10 c10 q1) (by refine ⟨?_, ?_, ?_, ?_, ?_⟩ <;> (exact ck)) ?_
   try clear hp
   try clear hq
   clear uc ud ue uf dq qj
   clear ug uh dr qk
   clear ui uj dt ql
   clear hB20
   rintro w21 ⟨hB21, qc, qd, hp', hq'⟩
   obtain ⟨xy, za, zb, zc, jq, Zc⟩ := bk4 qc
   replace qc := Lib.hid qc
   obtain ⟨zd, ze, zf, zg, jr, Zd⟩ := bk4 qd
   replace qd := Lib.hid qd
   have hp := hp'
   clear hp'
   have hq := hq'
   clear hq'
   rcases HR.out with ⟨e1, hd⟩ | ⟨e1, hd⟩
   ·subst hd
    have TG : ∀ W (b : Bool) (a : Option Addr) (n c : Nat) (b2 : Bool) (a2 : Option Addr) (n2 c2 : Nat), Wx W b a n c p1 → Wx W b2 a2 n2 c2 q1 → Calls Tryz.prog 125 #[.agg #[.bool b, .slice a n c, .bool b2, .slice a2 n2 c2]] W fun e w' => e = .returned (.bool true) ∧ Below W.heap.size W w' := fun W b a n c b2 a2 n2 c2 h1 h2 => e1 ▸ isRatio_any b b2 a a2 n c n2 c2 p1 q1 W h1 h2
    clear e1 HR TT TS TV TO1 TO2
    go_upto_region 12 with (first | (have _t := tok22; go_at_call 125; (with_reducible refine ((TG _ _ _ _ _ _ _ _ _ (hp.below bel) (hq.below bel))).mono ?_); rintro e w22 ⟨rfl, hb22⟩; clear tok22 _t; have hz22 := hb22.size; (try simp only [sA, sB, sC, sD] at hz22); (try (obtain ⟨kq, xm⟩ := cfAt hb22 (w.heap.size); have qm := kq 0; have qn := kq 1; clear kq; simp [go_sem, *] at qm qn xm)); (try have ge : w.heap.size < w22.heap.size := by omega); (try (obtain ⟨kq, xn⟩ := cfAt hb22 (w.heap.size + 1); have qo := kq 0; have qq := kq 1; have qr := kq 2; have qt := kq 3; clear kq; simp [go_sem, *] at qo qq qr qt xn)); (try have gf : w.heap.size + 1 < w22.heap.size := by omega); (try (obtain ⟨kq, xo⟩ := cfAt hb22 (w.heap.size + 1 + 1); have qu := kq 0; have qv := kq 1; have qw := kq 2; have qx := kq 3; clear kq; simp [go_sem, *] at qu qv qw qx xo)); (try have gg : w.heap.size + 1 + 1 < w22.heap.size := by omega); (try (obtain ⟨kq, qy⟩ := cfAt hb22 (w20.heap.size); have qf := kq 0; have qg := kq 1; have qh := kq 2; have qi := kq 3; clear kq; simp [go_sem, *] at qf qg qh qi qy)); (try have jt : w20.heap.size < w22.heap.size := by omega); (try clear ju jv gh); (try clear gi); (try clear jw jx jy jz gj); (try clear gk); (try clear ya yb yc yd gl); (try clear gm); (try clear ye yf gn); (try clear gr); (try clear yg yh yi yj gt); (try clear gu); (try clear yk yl ym yn gv); (try clear gy); (try clear yo yp ka); (try clear kb); (try clear yq yr yt yu kc); (try clear kd); (try clear yv yw yx yz ke); (try clear kf); (try clear va vb kh); (try clear ki); (try clear vc vd vf vg kj); (try clear kl); (try clear vh vi vj vk km); (try clear kn); (try clear zk zm zn zo vm); (try clear vn)))
    have qa := (hb22.block (w.heap.size + 1 + 1) (blk_lt' qc.out)).trans qc.out
    clear xy za zb zc jq qc
    obtain ⟨qz, xa, xb, xc, zh, du⟩ := bk4 qa
    replace qa := Lib.hid qa
    have qb := (hb22.block (w20.heap.size) (blk_lt' qd.out)).trans qd.out
    clear zd ze zf zg jr qd
    obtain ⟨xd, xe, xf, xg, zi, dv⟩ := bk4 qb
    replace qb := Lib.hid qb
    replace hp := hp.below hb22
    replace hq := hq.below hb22
    have hB22 : Below w.heap.size w w22 := below_via hb22 (by assumption) (by go_size)
    replace qa := qa.out
    replace qb := qb.out
    refine chk (fun W => Below w.heap.size w W ∧ W.heap[w.heap.size + 1 + 1]? = some (.cells #[.bool false, .slice none 0 0, .bool false, .slice none 0 0] 107 (0, 0)) ∧ W.heap[w20.heap.size]? = some (.cells #[.bool b9, .slice a9 n9 c9, .bool b10, .slice a10 n10 c10] 107 (0, 0)) ∧ Wx W b9 a9 n9 c9 p1 ∧ Wx W b10 a10 n10 c10 q1) (by refine ⟨?_, ?_, ?_, ?_, ?_⟩ <;> (exact ck)) ?_
    try clear hp
    try clear hq
    clear qz xa xb xc zh qa
    clear xd xe xf xg zi qb
    clear hB22
    rintro w23 ⟨hB23, qe, zj, hp', hq'⟩
    obtain ⟨xh, xi, xj, xk, dw, dx⟩ := bk4 qe
    replace qe := Lib.hid qe
    obtain ⟨nl, nm, np, nr, Ze, Zf⟩ := bk4 zj
    replace zj := Lib.hid zj
    have hp := hp'
    clear hp'
    have hq := hq'
    clear hq'
    have hON : w.heap.size + 1 + 1 ≠ w20.heap.size := by omega
    clear TG
    iterate 24 (first | (with_reducible show bodyPost _ _ _ _ _ _) | (with_reducible refine wp_ret ?_) | go_values | go_skip | go_guarded | go_step | go_upon | go_back | skip)
    refine bodyPost_ret (v := .tuple #[.agg #[.bool b9, .slice a9 n9 c9, .bool b10, .slice a10 n10 c10], .bool true]) (by simp [results, Tryz.results105, go_sem, xh, xi, xj, xk]) rfl ⟨_, _, _, _, _, _, _, _, rfl, ?_, ?_, F9, F10, ?_⟩
    all_goals (have HO := qe.out)
    ·(exact ck)
    ·(exact ck)
    ·(exact ck)
   ·subst hd
    have TG : ∀ W (b : Bool) (a : Option Addr) (n c : Nat) (b2 : Bool) (a2 : Option Addr) (n2 c2 : Nat), Wx W b a n c p1 → Wx W b2 a2 n2 c2 q1 → Calls Tryz.prog 125 #[.agg #[.bool b, .slice a n c, .bool b2, .slice a2 n2 c2]] W fun e w' => e = .returned (.bool false) ∧ Below W.heap.size W w' := fun W b a n c b2 a2 n2 c2 h1 h2 => e1 ▸ isRatio_any b b2 a a2 n c n2 c2 p1 q1 W h1 h2
    clear e1 HR TT TS TV TO1 TO2
    go_upto_region 11 with (first | (have _t := tok22; go_at_call 125; (with_reducible refine ((TG _ _ _ _ _ _ _ _ _ (hp.below bel) (hq.below bel))).mono ?_); rintro e w22 ⟨rfl, hb22⟩; clear tok22 _t; have hz22 := hb22.size; (try simp only [sA, sB, sC, sD] at hz22); (try (obtain ⟨kq, xm⟩ := cfAt hb22 (w.heap.size); have qm := kq 0; have qn := kq 1; clear kq; simp [go_sem, *] at qm qn xm)); (try have ge : w.heap.size < w22.heap.size := by omega); (try (obtain ⟨kq, xn⟩ := cfAt hb22 (w.heap.size + 1); have qo := kq 0; have qq := kq 1; have qr := kq 2; have qt := kq 3; clear kq; simp [go_sem, *] at qo qq qr qt xn)); (try have gf : w.heap.size + 1 < w22.heap.size := by omega); (try (obtain ⟨kq, xo⟩ := cfAt hb22 (w.heap.size + 1 + 1); have qu := kq 0; have qv := kq 1; have qw := kq 2; have qx := kq 3; clear kq; simp [go_sem, *] at qu qv qw qx xo)); (try have gg : w.heap.size + 1 + 1 < w22.heap.size := by omega); (try (obtain ⟨kq, qy⟩ := cfAt hb22 (w20.heap.size); have qf := kq 0; have qg := kq 1; have qh := kq 2; have qi := kq 3; clear kq; simp [go_sem, *] at qf qg qh qi qy)); (try have jt : w20.heap.size < w22.heap.size := by omega); (try clear ju jv gh); (try clear gi); (try clear jw jx jy jz gj); (try clear gk); (try clear ya yb yc yd gl); (try clear gm); (try clear ye yf gn); (try clear gr); (try clear yg yh yi yj gt); (try clear gu); (try clear yk yl ym yn gv); (try clear gy); (try clear yo yp ka); (try clear kb); (try clear yq yr yt yu kc); (try clear kd); (try clear yv yw yx yz ke); (try clear kf); (try clear va vb kh); (try clear ki); (try clear vc vd vf vg kj); (try clear kl); (try clear vh vi vj vk km); (try clear kn); (try clear zk zm zn zo vm); (try clear vn)))
    have qa := (hb22.block (w.heap.size + 1 + 1) (blk_lt' qc.out)).trans qc.out
    clear xy za zb zc jq qc
    obtain ⟨qz, xa, xb, xc, zh, du⟩ := bk4 qa
    replace qa := Lib.hid qa
    have qb := (hb22.block (w20.heap.size) (blk_lt' qd.out)).trans qd.out
    clear zd ze zf zg jr qd
    obtain ⟨xd, xe, xf, xg, zi, dv⟩ := bk4 qb
    replace qb := Lib.hid qb
    replace hp := hp.below hb22
    replace hq := hq.below hb22
    have hB22 : Below w.heap.size w w22 := below_via hb22 (by assumption) (by go_size)
    replace qa := qa.out
    replace qb := qb.out
    refine chk (fun W => Below w.heap.size w W ∧ W.heap[w.heap.size + 1 + 1]? = some (.cells #[.bool false, .slice none 0 0, .bool false, .slice none 0 0] 107 (0, 0))) (by refine ⟨?_, ?_⟩ <;> (exact ck)) ?_
    clear qz xa xb xc zh qa
    clear xd xe xf xg zi qb
    clear hB22
    rintro w23 ⟨hB23, qe⟩
    obtain ⟨xh, xi, xj, xk, dw, dx⟩ := bk4 qe
    replace qe := Lib.hid qe
    clear TG
    iterate 24 (first | (with_reducible show bodyPost _ _ _ _ _ _) | (with_reducible refine wp_ret ?_) | go_values | go_skip | go_guarded | go_step | go_upon | go_back | skip)
    refine bodyPost_ret (v := .tuple #[.agg #[.bool false, .slice none 0 0, .bool false, .slice none 0 0], .bool false]) (by simp [results, Tryz.results105, go_sem, xh, xi, xj, xk]) rfl ⟨_, _, _, _, _, _, _, _, rfl, Wx.zero' _, Wx.zero' _, fr_none _, fr_none _, ?_⟩
    have HO := qe.out
    (exact ck)
end
end Go.Proofs.YtnkmgpmehkholaaGreat
