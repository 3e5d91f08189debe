/- Lemmas and contracts of functions. No condition. -/
import Derived.Test.YtbnglnbcfabmgaaPk19
namespace Go.Proofs.Ytbnglnbcfabmgaa
open Go.RowKit
set_option linter.unusedVariables false
set_option maxHeartbeats 1000000
set_option maxRecDepth 20000
set_option linter.unusedSimpArgs false
attribute [local go_sem] openAt openUpon
theorem pointList_any (A B : Int) (a : Option Addr) (n c : Nat) (zs : List Int) (w : World) (h : Px w a n c zs) : Calls Try.prog 22 #[.agg #[.int .i64 A, .int .i64 B], .slice a n c] w fun e w' => e = .returned (.bool (plB A B zs n)) ∧ Below w.heap.size w w' := by
 have hnm := h.cap
 have hnm2 := h.max
 unfold maxLen at hnm2
 have T1 := fun W : World => Lib.hid (isCurve_any A B W)
 have T2 := fun W : World => Lib.hid (inside_any n 1 4 W)
 have T3 : ∀ W : World, Below w.heap.size w W → W.cell? ⟨w.heap.size, 0, none⟩ = some (.int .i64 A) → W.cell? ⟨w.heap.size, 1, none⟩ = some (.int .i64 B) → Calls Try.prog 38 #[.slice a n c, .func (.func 39) #[] #[.pointer (some ⟨w.heap.size, 0, none⟩)]] W fun e w' => e = .returned (.bool (!((List.range n).all fun j => cvB A B && ptAt A B zs j))) ∧ Below W.heap.size W w' := fun W hW kA kB => containsPts_any A B a n c w.heap.size zs W (h.below hW) kA kB (by
  rcases Nat.lt_or_ge w.heap.size W.heap.size with h' | h'
  ·exact h'
  ·simp [World.cell?, Array.getElem?_eq_none (by simpa using h')] at kA)
 cases h1 : cvB A B
 ·have HP := Lib.hid (show plB A B zs n = false by simp [plB, h1])
  rw [h1] at T1
  clear h1
  have tok1 := trivial
  have tok2 := trivial
  go_enter Try.func22, Try.ntmps22
  go_wp2_with (first | (have _t := tok1; go_at_call 37; (with_reducible refine ((T1 _).out).mono ?_); rintro e w1 ⟨rfl, hb1⟩; clear tok1 _t; have hz1 := hb1.size; (try simp only [sA, sB, sC, sD] at hz1); (try (obtain ⟨kq, qc⟩ := cfAt hb1 (w.heap.size); have qa := kq 0; have qb := kq 1; clear kq; simp [go_sem, *] at qa qb qc)); (try have qf : w.heap.size < w1.heap.size := by omega)) | (go_at_call 31; (with_reducible refine ((T2 _).out).mono ?_); rintro e w' ⟨rfl, rfl⟩) | (have _t := tok2; go_at_call 38; (with_reducible refine ((T3 _ bel (by assumption) (by assumption))).mono ?_); rintro e w2 ⟨rfl, hb2⟩; clear tok2 _t; have hz2 := hb2.size; (try simp only [sA, sB, sC, sD] at hz2); (try (obtain ⟨kq, qg⟩ := cfAt hb2 (w.heap.size); have qd := kq 0; have qe := kq 1; clear kq; simp [go_sem, *] at qd qe qg)); (try have qh : w.heap.size < w2.heap.size := by omega); (try clear qa qb qc); (try clear qf)))
  go_ret
  refine ⟨ret_bool HP.out.symm, ?_⟩
  exact bel
 ·cases h2 : inB n 1 4
  ·have HP := Lib.hid (show plB A B zs n = false by simp [plB, h2])
   rw [h1] at T1
   rw [h2] at T2
   clear h1 h2
   have tok1 := trivial
   have tok2 := trivial
   go_enter Try.func22, Try.ntmps22
   go_wp2_with (first | (have _t := tok1; go_at_call 37; (with_reducible refine ((T1 _).out).mono ?_); rintro e w1 ⟨rfl, hb1⟩; clear tok1 _t; have hz1 := hb1.size; (try simp only [sA, sB, sC, sD] at hz1); (try (obtain ⟨kq, qc⟩ := cfAt hb1 (w.heap.size); have qa := kq 0; have qb := kq 1; clear kq; simp [go_sem, *] at qa qb qc)); (try have qf : w.heap.size < w1.heap.size := by omega)) | (go_at_call 31; (with_reducible refine ((T2 _).out).mono ?_); rintro e w' ⟨rfl, rfl⟩) | (have _t := tok2; go_at_call 38; (with_reducible refine ((T3 _ bel (by assumption) (by assumption))).mono ?_); rintro e w2 ⟨rfl, hb2⟩; clear tok2 _t; have hz2 := hb2.size; (try simp only [sA, sB, sC, sD] at hz2); (try (obtain ⟨kq, qg⟩ := cfAt hb2 (w.heap.size); have qd := kq 0; have qe := kq 1; clear kq; simp [go_sem, *] at qd qe qg)); (try have qh : w.heap.size < w2.heap.size := by omega); (try clear qa qb qc); (try clear qf)))
   go_ret
   refine ⟨ret_bool HP.out.symm, ?_⟩
   exact bel
  ·have HP := Lib.hid (show plB A B zs n = !(!((List.range n).all fun j => cvB A B && ptAt A B zs j)) by simp [plB, h1, h2, ptsB])
   generalize (List.range n).all (fun j => cvB A B && ptAt A B zs j) = v at *
   rw [h1] at T1
   rw [h2] at T2
   clear h1 h2
   have tok1 := trivial
   have tok2 := trivial
   go_enter Try.func22, Try.ntmps22
   go_wp2_with (first | (have _t := tok1; go_at_call 37; (with_reducible refine ((T1 _).out).mono ?_); rintro e w1 ⟨rfl, hb1⟩; clear tok1 _t; have hz1 := hb1.size; (try simp only [sA, sB, sC, sD] at hz1); (try (obtain ⟨kq, qc⟩ := cfAt hb1 (w.heap.size); have qa := kq 0; have qb := kq 1; clear kq; simp [go_sem, *] at qa qb qc)); (try have qf : w.heap.size < w1.heap.size := by omega)) | (go_at_call 31; (with_reducible refine ((T2 _).out).mono ?_); rintro e w' ⟨rfl, rfl⟩) | (have _t := tok2; go_at_call 38; (with_reducible refine ((T3 _ bel (by assumption) (by assumption))).mono ?_); rintro e w2 ⟨rfl, hb2⟩; clear tok2 _t; have hz2 := hb2.size; (try simp only [sA, sB, sC, sD] at hz2); (try (obtain ⟨kq, qg⟩ := cfAt hb2 (w.heap.size); have qd := kq 0; have qe := kq 1; clear kq; simp [go_sem, *] at qd qe qg)); (try have qh : w.heap.size < w2.heap.size := by omega); (try clear qa qb qc); (try clear qf)))
   go_ret
   refine ⟨ret_bool (by rw [HP.out]; simp), ?_⟩
   exact bel
end Go.Proofs.Ytbnglnbcfabmgaa
