/- Lemmas and contracts of functions. No condition. -/
import Derived.Test.YtnkmgpmehkholaaGreatPq20
import Derived.Test.YtnkmgpmehkholaaGreatPq21
import Derived.Test.YtnkmgpmehkholaaGreatPq41
namespace Go.Proofs.YtnkmgpmehkholaaGreat
open Go.RowKit
set_option linter.unusedVariables false
set_option maxHeartbeats 1000000
set_option maxRecDepth 20000
set_option linter.unusedSimpArgs false
attribute [local go_sem] openAt openUpon
theorem heightAt_any (A B x y e : Int) (n : Nat) (w : World) (hA : -1000 ≤ A ∧ A ≤ 1000) (hBB : -10000 ≤ B ∧ B ≤ 10000) (hcv : coV A B ≠ 0) (hx : -10000 ≤ x ∧ x ≤ 10000) (he : 0 ≤ e ∧ e ≤ 20) (hn : n ≤ 5) :
  Calls Tryz.prog 78 #[.agg #[.int .i64 A, .int .i64 B], .agg #[.int .i64 x, .int .i64 y, .int .i64 e], .int .i64 n] w fun r w' => r = .returned (.tuple #[.agg #[.int .i64 (htLo (dcV A B) n (ptSt A B x e n)), .int .i64 (htHi (dcV A B) n (ptSt A B x e n))], .bool (htOk (ptSt A B x e n))]) ∧ Below w.heap.size w w' := by
 have TB0 := fun W => bitsAt_any A B x y e n W hA hBB hcv hx he (by omega)
 have hok := ptSt_ok (A := A) (B := B) hx he n
 have hC := dc_bd hA hBB
 have hnn : (n : Int) ≤ 5 := by omega
 cases hs : ptSt A B x e n with
 | inf =>
  rw [hs] at TB0
  have TB : ∀ W, Calls Tryz.prog 92 #[.agg #[.int .i64 A, .int .i64 B], .agg #[.int .i64 x, .int .i64 y, .int .i64 e], .int .i64 n] W fun r w' => r = .returned (.tuple #[.int .i64 0, .bool true, .bool true]) ∧ Below W.heap.size W w' := TB0
  rw [show htOk .inf = true from rfl, show htLo (dcV A B) n .inf = 0 from rfl, show htHi (dcV A B) n .inf = 0 from rfl]
  clear hs TB0 hok
  have tok1 := trivial
  have tok2 := trivial
  go_enter Tryz.func78, Tryz.ntmps78
  go_wp2_with (first | (have _t := tok1; go_at_call 92; (with_reducible refine ((TB _)).mono ?_); rintro e w1 ⟨rfl, hb1⟩; clear tok1 _t; have hz1 := hb1.size; (try simp only [sA, sB, sC, sD] at hz1); (try (obtain ⟨kq, qj⟩ := cfAt hb1 (w.heap.size); have qc := kq 0; have qd := kq 1; clear kq; simp [go_sem, *] at qc qd qj)); (try have qv : w.heap.size < w1.heap.size := by omega); (try (obtain ⟨kq, qk⟩ := cfAt hb1 (w.heap.size + 1); have qe := kq 0; have qf := kq 1; have qg := kq 2; clear kq; simp [go_sem, *] at qe qf qg qk)); (try have qw : w.heap.size + 1 < w1.heap.size := by omega); (try (obtain ⟨kq, ql⟩ := cfAt hb1 (w.heap.size + 1 + 1); have qh := kq 0; have qi := kq 1; clear kq; simp [go_sem, *] at qh qi ql)); (try have qx : w.heap.size + 1 + 1 < w1.heap.size := by omega)) | (have _t := tok2; go_at_call 93; (with_reducible refine ((TC _)).mono ?_); rintro e w2 ⟨rfl, hb2⟩; clear tok2 _t; have hz2 := hb2.size; (try simp only [sA, sB, sC, sD] at hz2); (try (obtain ⟨kq, qy⟩ := cfAt hb2 (w.heap.size); have qm := kq 0; have qn := kq 1; clear kq; simp [go_sem, *] at qm qn qy)); (try have xd : w.heap.size < w2.heap.size := by omega); (try (obtain ⟨kq, qz⟩ := cfAt hb2 (w.heap.size + 1); have qo := kq 0; have qq := kq 1; have qr := kq 2; clear kq; simp [go_sem, *] at qo qq qr qz)); (try have xe : w.heap.size + 1 < w2.heap.size := by omega); (try (obtain ⟨kq, xc⟩ := cfAt hb2 (w.heap.size + 1 + 1); have qt := kq 0; have qu := kq 1; clear kq; simp [go_sem, *] at qt qu xc)); (try have xf : w.heap.size + 1 + 1 < w2.heap.size := by omega); (try clear qc qd qj); (try clear qv); (try clear qe qf qg qk); (try clear qw); (try clear qh qi ql); (try clear qx)) | (go_at_call 94; (with_reducible refine ((TP _)).mono ?_); rintro e w' ⟨rfl, rfl⟩) | (go_at_call 75; refine (floorOf_any _ _ _ (by omega) (by omega) (by omega)).mono ?_; rintro e w' ⟨rfl, rfl⟩))
  refine bodyPost_ret (v := _) (by simp [results, Tryz.results78, go_sem, *]) rfl ⟨rfl, ?_⟩
  exact bel
 | bad =>
  rw [hs] at TB0
  have TB : ∀ W, Calls Tryz.prog 92 #[.agg #[.int .i64 A, .int .i64 B], .agg #[.int .i64 x, .int .i64 y, .int .i64 e], .int .i64 n] W fun r w' => r = .returned (.tuple #[.int .i64 0, .bool false, .bool false]) ∧ Below W.heap.size W w' := TB0
  rw [show htOk .bad = false from rfl, show htLo (dcV A B) n .bad = 0 from rfl, show htHi (dcV A B) n .bad = 0 from rfl]
  clear hs TB0 hok
  have tok1 := trivial
  have tok2 := trivial
  go_enter Tryz.func78, Tryz.ntmps78
  go_wp2_with (first | (have _t := tok1; go_at_call 92; (with_reducible refine ((TB _)).mono ?_); rintro e w1 ⟨rfl, hb1⟩; clear tok1 _t; have hz1 := hb1.size; (try simp only [sA, sB, sC, sD] at hz1); (try (obtain ⟨kq, qj⟩ := cfAt hb1 (w.heap.size); have qc := kq 0; have qd := kq 1; clear kq; simp [go_sem, *] at qc qd qj)); (try have qv : w.heap.size < w1.heap.size := by omega); (try (obtain ⟨kq, qk⟩ := cfAt hb1 (w.heap.size + 1); have qe := kq 0; have qf := kq 1; have qg := kq 2; clear kq; simp [go_sem, *] at qe qf qg qk)); (try have qw : w.heap.size + 1 < w1.heap.size := by omega); (try (obtain ⟨kq, ql⟩ := cfAt hb1 (w.heap.size + 1 + 1); have qh := kq 0; have qi := kq 1; clear kq; simp [go_sem, *] at qh qi ql)); (try have qx : w.heap.size + 1 + 1 < w1.heap.size := by omega)) | (have _t := tok2; go_at_call 93; (with_reducible refine ((TC _)).mono ?_); rintro e w2 ⟨rfl, hb2⟩; clear tok2 _t; have hz2 := hb2.size; (try simp only [sA, sB, sC, sD] at hz2); (try (obtain ⟨kq, qy⟩ := cfAt hb2 (w.heap.size); have qm := kq 0; have qn := kq 1; clear kq; simp [go_sem, *] at qm qn qy)); (try have xd : w.heap.size < w2.heap.size := by omega); (try (obtain ⟨kq, qz⟩ := cfAt hb2 (w.heap.size + 1); have qo := kq 0; have qq := kq 1; have qr := kq 2; clear kq; simp [go_sem, *] at qo qq qr qz)); (try have xe : w.heap.size + 1 < w2.heap.size := by omega); (try (obtain ⟨kq, xc⟩ := cfAt hb2 (w.heap.size + 1 + 1); have qt := kq 0; have qu := kq 1; clear kq; simp [go_sem, *] at qt qu xc)); (try have xf : w.heap.size + 1 + 1 < w2.heap.size := by omega); (try clear qc qd qj); (try clear qv); (try clear qe qf qg qk); (try clear qw); (try clear qh qi ql); (try clear qx)) | (go_at_call 94; (with_reducible refine ((TP _)).mono ?_); rintro e w' ⟨rfl, rfl⟩) | (go_at_call 75; refine (floorOf_any _ _ _ (by omega) (by omega) (by omega)).mono ?_; rintro e w' ⟨rfl, rfl⟩))
  refine bodyPost_ret (v := _) (by simp [results, Tryz.results78, go_sem, *]) rfl ⟨rfl, ?_⟩
  exact bel
 | «at» p q =>
  rw [hs] at TB0 hok
  have TB : ∀ W, Calls Tryz.prog 92 #[.agg #[.int .i64 A, .int .i64 B], .agg #[.int .i64 x, .int .i64 y, .int .i64 e], .int .i64 n] W fun r w' => r = .returned (.tuple #[.int .i64 (bitsZ p q), .bool false, .bool true]) ∧ Below W.heap.size W w' := TB0
  clear TB0 hs
  have hrb := raB_bd hok
  have hbb := bitsZ_bd (x := p) (z := q) ⟨hrb.1, hrb.2.1⟩
  have h4 := four_bd (k := n) (by omega) (by omega)
  rw [Int.toNat_natCast] at h4
  have TP : ∀ W, Calls Tryz.prog 94 #[.int .i64 4, .int .i64 n] W fun e w' => e = .returned (.int .i64 (4 ^ n)) ∧ W = w' := fun W => by
   have := intPower_any 4 n W (by omega) (by omega) (by omega) (by rw [Int.toNat_natCast]; omega)
   rwa [Int.toNat_natCast] at this
  have TC := fun W => doublingConstant_any A B W hA hBB
  have HL := Lib.hid (show htLo (dcV A B) n (.at p q) = down (most (3 * (bitsZ p q - 1) - dcV A B) 0 * 4096) (3 * 4 ^ n) by
   change hLo (dcV A B) (bitsZ p q) (4 ^ n * 3) = _
   unfold hLo
   rw [Int.mul_comm 3 (4 ^ n), most_eq, most_eq, Int.max_comm])
  have HH := Lib.hid (show htHi (dcV A B) n (.at p q) = -(down (-(3 * bitsZ p q + dcV A B) * 4096) (3 * 4 ^ n)) by
   change hHi (dcV A B) (bitsZ p q) (4 ^ n * 3) = _
   unfold hHi
   rw [Int.mul_comm 3 (4 ^ n), Int.neg_mul])
  rw [show htOk (.at p q) = true from rfl]
  generalize htLo (dcV A B) n (.at p q) = lo at *
  generalize htHi (dcV A B) n (.at p q) = hi at *
  generalize bitsZ p q = bz at *
  generalize dcV A B = C at *
  generalize (4 : Int) ^ n = P at *
  have hmo : most (3 * (bz - 1) - C) 0 = max (3 * (bz - 1) - C) 0 := most_eq _ _
  have hmb : 0 ≤ most (3 * (bz - 1) - C) 0 ∧ most (3 * (bz - 1) - C) 0 ≤ 10000 := by omega
  have hmx := max_most
  have q1 := down_in (a := most (3 * (bz - 1) - C) 0 * 4096) (b := 3 * P) (M := 10000000000) (by omega) (by omega)
  have q2 := down_in (a := -(3 * bz + C) * 4096) (b := 3 * P) (M := 10000000000) (by omega) (by omega)
  clear hmo hok hrb
  have tok1 := trivial
  have tok2 := trivial
  have tok3 := trivial
  have tok4 := trivial
  go_enter Tryz.func78, Tryz.ntmps78
  go_wp2_with (first | (have _t := tok1; go_at_call 92; (with_reducible refine ((TB _)).mono ?_); rintro e w1 ⟨rfl, hb1⟩; clear tok1 _t; have hz1 := hb1.size; (try simp only [sA, sB, sC, sD] at hz1); (try (obtain ⟨kq, qj⟩ := cfAt hb1 (w.heap.size); have qc := kq 0; have qd := kq 1; clear kq; simp [go_sem, *] at qc qd qj)); (try have qv : w.heap.size < w1.heap.size := by omega); (try (obtain ⟨kq, qk⟩ := cfAt hb1 (w.heap.size + 1); have qe := kq 0; have qf := kq 1; have qg := kq 2; clear kq; simp [go_sem, *] at qe qf qg qk)); (try have qw : w.heap.size + 1 < w1.heap.size := by omega); (try (obtain ⟨kq, ql⟩ := cfAt hb1 (w.heap.size + 1 + 1); have qh := kq 0; have qi := kq 1; clear kq; simp [go_sem, *] at qh qi ql)); (try have qx : w.heap.size + 1 + 1 < w1.heap.size := by omega)) | (have _t := tok2; go_at_call 93; (with_reducible refine ((TC _)).mono ?_); rintro e w2 ⟨rfl, hb2⟩; clear tok2 _t; have hz2 := hb2.size; (try simp only [sA, sB, sC, sD] at hz2); (try (obtain ⟨kq, qy⟩ := cfAt hb2 (w.heap.size); have qm := kq 0; have qn := kq 1; clear kq; simp [go_sem, *] at qm qn qy)); (try have xd : w.heap.size < w2.heap.size := by omega); (try (obtain ⟨kq, qz⟩ := cfAt hb2 (w.heap.size + 1); have qo := kq 0; have qq := kq 1; have qr := kq 2; clear kq; simp [go_sem, *] at qo qq qr qz)); (try have xe : w.heap.size + 1 < w2.heap.size := by omega); (try (obtain ⟨kq, xc⟩ := cfAt hb2 (w.heap.size + 1 + 1); have qt := kq 0; have qu := kq 1; clear kq; simp [go_sem, *] at qt qu xc)); (try have xf : w.heap.size + 1 + 1 < w2.heap.size := by omega); (try clear qc qd qj); (try clear qv); (try clear qe qf qg qk); (try clear qw); (try clear qh qi ql); (try clear qx)) | (go_at_call 94; (with_reducible refine ((TP _)).mono ?_); rintro e w' ⟨rfl, rfl⟩) | (go_at_call 75; refine (floorOf_any _ _ _ (by omega) (by omega) (by omega)).mono ?_; rintro e w' ⟨rfl, rfl⟩))
  refine bodyPost_ret (v := .tuple #[.agg #[.int .i64 (down (most (3 * (bz - 1) - C) 0 * 4096) (3 * P)), .int .i64 (-(down (-(3 * bz + C) * 4096) (3 * P)))], .bool true]) (by simp [results, Tryz.results78, go_sem, *]) rfl ⟨by rw [HL.out, HH.out], ?_⟩
  exact bel
end Go.Proofs.YtnkmgpmehkholaaGreat
