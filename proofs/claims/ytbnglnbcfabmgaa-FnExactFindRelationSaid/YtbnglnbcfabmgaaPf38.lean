/- Lemmas and contracts of functions. No condition. -/
import Derived.Test.YtbnglnbcfabmgaaPf37
namespace Go.Proofs.Ytbnglnbcfabmgaa
open Go.RowKit
set_option linter.unusedVariables false
set_option maxHeartbeats 4000000
set_option maxRecDepth 20000
set_option linter.unusedSimpArgs false
attribute [local go_sem] openAt openUpon
/-- what is asked of FindRelation's arguments -/
def fqB (A B : Int) (zs : List Int) (n : Nat) (M : Int) : Bool := plB A B zs n && (decide (n ≤ 3) && inB M 1 3)
/-- what FindRelation answers -/
noncomputable def frL (A B : Int) (zs : List Int) (n : Nat) (M : Int) : List Int := if fqB A B zs n M = true then fdR (rlB A B zs n) M.toNat n [] else []
theorem frL_no {A B : Int} {zs : List Int} {n : Nat} {M : Int} (h : fqB A B zs n M = false) : frL A B zs n M = [] := by simp [frL, h]
theorem fqB_out {A B : Int} {zs : List Int} {n : Nat} {M : Int} (h : fqB A B zs n M = true) : plB A B zs n = true ∧ (1 ≤ n ∧ n ≤ 3) ∧ ∃ m : Nat, M = m ∧ 1 ≤ m ∧ m ≤ 3 := by
 unfold fqB at h
 simp only [Bool.and_eq_true, decide_eq_true_eq] at h
 obtain ⟨h1, h2, h3⟩ := h
 have h4 := plB_out h1
 have h5 := inB_iff.1 h3
 exact ⟨h1, ⟨h4.2.1.1, h2⟩, M.toNat, by omega, by omega, by omega⟩
theorem fqB_cases (A B : Int) (zs : List Int) (n : Nat) (M : Int) : (plB A B zs n = false ∧ fqB A B zs n M = false) ∨ (plB A B zs n = true ∧ (¬ n ≤ 3 ∧ fqB A B zs n M = false ∨ n ≤ 3 ∧ (inB M 1 3 = false ∧ fqB A B zs n M = false ∨ inB M 1 3 = true ∧ fqB A B zs n M = true))) := by
 unfold fqB
 cases h1 : plB A B zs n
 ·exact Or.inl ⟨rfl, rfl⟩
 ·by_cases h2 : n ≤ 3
  ·cases h3 : inB M 1 3
   ·exact Or.inr ⟨rfl, Or.inr ⟨h2, Or.inl ⟨rfl, by simp⟩⟩⟩
   ·exact Or.inr ⟨rfl, Or.inr ⟨h2, Or.inr ⟨rfl, by simp [h2]⟩⟩⟩
  ·exact Or.inr ⟨rfl, Or.inl ⟨h2, by simp [h2]⟩⟩
theorem sFindRelation_any (A B : Int) (a0 : Option Addr) (n c0 : Nat) (zs : List Int) (M : Int) (w : World) (hp : Px w a0 n c0 zs) :
  Calls Try.prog 13 #[.agg #[.int .i64 A, .int .i64 B], .slice a0 n c0, .int .i64 M] w fun r w' => ∃ a k c, r = .returned (.tuple #[.slice a k c, .bool (decide (0 < k))]) ∧ Sx w' a k c (frL A B zs n M) ∧ Below w.heap.size w w' := by
 have hnm := hp.cap
 have hnm2 := hp.max
 have T1 := fun (W : World) (hW : Below w.heap.size w W) => Lib.hid (idPoints_any A B a0 n c0 zs W (hp.below hW))
 have T2 := fun W : World => Lib.hid (l1In_any M 1 3 W)
 unfold maxLen at hnm2
 rcases fqB_cases A B zs n M with ⟨h1, e1⟩ | ⟨h1, ⟨h2, e1⟩ | ⟨h2, ⟨h3, e1⟩ | ⟨h3, e1⟩⟩⟩
 ·rw [frL_no e1]
  rw [h1] at T1
  clear h1 e1
  have tok1 := trivial
  have tok2 := trivial
  have tok3 := trivial
  go_enter Try.func13, Try.ntmps13
  go_wp2_with (first | (have _t := tok1; go_at_call 18; (with_reducible refine ((T1 _ bel).out).mono ?_); rintro e w1 ⟨rfl, hb1⟩; clear tok1 _t; have hz1 := hb1.size; (try simp only [sA, sB, sC, sD] at hz1); (try (obtain ⟨kq, qc⟩ := cfAt hb1 (w.heap.size); have qa := kq 0; have qb := kq 1; clear kq; simp [go_sem, *] at qa qb qc)); (try have qd : w.heap.size < w1.heap.size := by omega)) | (go_at_call 29; (with_reducible refine ((T2 _).out).mono ?_); rintro e w' ⟨rfl, rfl⟩))
  go_ret2
  refine ⟨none, 0, 0, rfl, Sx.none _, ?_⟩
  exact bel
 ·rw [frL_no e1]
  rw [h1] at T1
  have hgt : (3 : Int) < (n : Int) := by omega
  clear h1 e1
  have tok1 := trivial
  have tok2 := trivial
  have tok3 := trivial
  go_enter Try.func13, Try.ntmps13
  go_wp2_with (first | (have _t := tok1; go_at_call 18; (with_reducible refine ((T1 _ bel).out).mono ?_); rintro e w1 ⟨rfl, hb1⟩; clear tok1 _t; have hz1 := hb1.size; (try simp only [sA, sB, sC, sD] at hz1); (try (obtain ⟨kq, qc⟩ := cfAt hb1 (w.heap.size); have qa := kq 0; have qb := kq 1; clear kq; simp [go_sem, *] at qa qb qc)); (try have qd : w.heap.size < w1.heap.size := by omega)) | (go_at_call 29; (with_reducible refine ((T2 _).out).mono ?_); rintro e w' ⟨rfl, rfl⟩))
  go_ret2
  refine ⟨none, 0, 0, rfl, Sx.none _, ?_⟩
  exact bel
 ·rw [frL_no e1]
  rw [h1] at T1
  rw [h3] at T2
  have hgt : ¬ (3 : Int) < (n : Int) := by omega
  clear h1 h3 e1
  have tok1 := trivial
  have tok2 := trivial
  have tok3 := trivial
  go_enter Try.func13, Try.ntmps13
  go_wp2_with (first | (have _t := tok1; go_at_call 18; (with_reducible refine ((T1 _ bel).out).mono ?_); rintro e w1 ⟨rfl, hb1⟩; clear tok1 _t; have hz1 := hb1.size; (try simp only [sA, sB, sC, sD] at hz1); (try (obtain ⟨kq, qc⟩ := cfAt hb1 (w.heap.size); have qa := kq 0; have qb := kq 1; clear kq; simp [go_sem, *] at qa qb qc)); (try have qd : w.heap.size < w1.heap.size := by omega)) | (go_at_call 29; (with_reducible refine ((T2 _).out).mono ?_); rintro e w' ⟨rfl, rfl⟩))
  go_ret2
  refine ⟨none, 0, 0, rfl, Sx.none _, ?_⟩
  exact bel
 ·obtain ⟨_, hn, m, rfl, hm⟩ := fqB_out e1
  rw [show frL A B zs n (m : Int) = fdR (rlB A B zs n) m n [] by simp [frL, e1]]
  rw [h1] at T1
  rw [h3] at T2
  have hgt : ¬ (3 : Int) < (n : Int) := by omega
  have T3 := fun (W : World) (hW : Below w.heap.size w W) => Lib.hid (idFind_any A B a0 n c0 m zs hm h2 n [] none 0 0 W (hp.below hW) (Sx.none _) (by omega))
  clear h1 h3 e1
  generalize fdR (rlB A B zs n) m n [] = l at *
  have tok1 := trivial
  have tok2 := trivial
  have tok3 := trivial
  go_enter Try.func13, Try.ntmps13
  go_upto_region 3 with (first | (have _t := tok1; go_at_call 18; (with_reducible refine ((T1 _ bel).out).mono ?_); rintro e w1 ⟨rfl, hb1⟩; clear tok1 _t; have hz1 := hb1.size; (try simp only [sA, sB, sC, sD] at hz1); (try (obtain ⟨kq, qc⟩ := cfAt hb1 (w.heap.size); have qa := kq 0; have qb := kq 1; clear kq; simp [go_sem, *] at qa qb qc)); (try have qd : w.heap.size < w1.heap.size := by omega)) | (go_at_call 29; (with_reducible refine ((T2 _).out).mono ?_); rintro e w' ⟨rfl, rfl⟩))
  go_upto_region 4 with (first | (have _t := tok3; go_at_call 30; (with_reducible refine ((T3 _ bel).out).mono ?_); rintro e w3 ⟨a3, n3, c3, rfl, hs3, hb3⟩; clear tok3 _t; have hz3 := hb3.size; (try simp only [sA, sB, sC, sD] at hz3)))
  have hmx := Nat.le_trans hs3.cap hs3.max
  unfold maxLen at hmx
  have hdd : decide ((0 : Int) < (n3 : Int)) = decide (0 < n3) := by rw [decide_eq_decide]; omega
  go_wp2_with fail
  go_ret2
  refine ⟨a3, n3, c3, rfl, hs3, ?_⟩
  exact bel
end Go.Proofs.Ytbnglnbcfabmgaa
