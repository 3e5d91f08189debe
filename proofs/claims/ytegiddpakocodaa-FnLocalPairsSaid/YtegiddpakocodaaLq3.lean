/- FnLocalPairs: what both sides return, as numbers of which the law's own tests hold. -/
import Derived.Test.YtegiddpakocodaaLq1
import Derived.Test.YtegiddpakocodaaLq2
import Derived.Test.YtegiddpakocodaaSqr
import Derived.Test.YtegiddpakocodaaCp8
import Derived.Test.YtegiddpakocodaaLp4
namespace Go.Proofs.Ytegiddpakocodaa
open Go.RowKit
set_option linter.unusedVariables false
set_option maxHeartbeats 4000000
set_option maxRecDepth 20000
set_option linter.unusedSimpArgs false
def RetC (f : FuncId) (args : Array Value) (r : Value) : Prop := ∀ W : World, Calls Try.prog f args W fun e w' => e = .returned r ∧ Below W.heap.size W w'
theorem cnt_one {D A C p : Int} {x : Int × Int} (h : x ∈ pl D A C p 1) : 1 ≤ cntP D A C p 1 (p ^ 1).toNat := by
  rw [cntP_pl]
  exact List.length_pos_of_mem h
theorem lp_ok {D A C p : Int} (h : (lcV D A C p).2.2 = true) : ∃ j : Nat, qaB D A C = true ∧ mdPB p = true ∧ (lcV D A C p).2.1 = j ∧ 1 ≤ j ∧ j ≤ dp p ∧ lmB D A C (lcV D A C p).1.1 (lcV D A C p).1.2 p j = true ∧ liB D A C (lcV D A C p).1.1 (lcV D A C p).1.2 p j = true ∧ (lcV D A C p).1 ∈ pl D A C p j := by
  unfold lcV at h ⊢
  by_cases hg : (qaB D A C && mdPB p) = true
  · rw [if_pos hg] at h ⊢
    simp only [decide_eq_true_eq] at h
    simp only [Bool.and_eq_true] at hg
    obtain ⟨h2, h997, hin, hpr⟩ := mdPB_bd hg.2
    have hd1 := dp_one h2 (by omega)
    obtain ⟨j, j1, j2, j3, j4⟩ := lpF_pos (D := D) (A := A) (C := C) (p := p) (dp p - 1) 1 (Nat.le_refl _) h
    obtain ⟨f1, f2⟩ := fdL_some j4
    refine ⟨j, hg.1, hg.2, j3, j1, by omega, ?_, f1, f2⟩
    have hde : deB p j = true := by
      simp only [deB, Bool.and_eq_true]
      exact ⟨hg.2, inB_true (by omega) (by omega)⟩
    unfold lmB
    rw [hg.1, hde, Bool.true_and, Bool.true_and]
    dsimp only
    unfold paB
    rw [show ((j : Int)).toNat = j by omega]
    rcases pl_pair h2 j1 f2 with ⟨e1, e2, e3⟩ | ⟨e1, e2, e3, e4⟩
    · rw [Bool.or_eq_true]; left
      rw [Bool.and_eq_true, decide_eq_true_eq]
      exact ⟨e1, inB_true e2 (Int.le_sub_one_of_lt e3)⟩
    · rw [Bool.or_eq_true]; right
      rw [Bool.and_eq_true, Bool.and_eq_true, decide_eq_true_eq, decide_eq_true_eq]
      exact ⟨e1, inB_true e2 (Int.le_sub_one_of_lt e3), e4⟩
  · rw [if_neg hg] at h; cases h
theorem lp_set1 (D A C p : Int) : ∃ (M E K : Int) (ok told : Bool) (most : Int) (o9 : Bool),
    RetC 5 #[.agg #[.int .i64 D, .int .i64 A, .int .i64 C], .int .i64 p] (.tuple #[.int .i64 M, .int .i64 E, .int .i64 K, .bool ok]) ∧
    RetC 6 #[.agg #[.int .i64 D, .int .i64 A, .int .i64 C], .int .i64 p] (.tuple #[.int .i64 M, .int .i64 E, .int .i64 K, .bool ok]) ∧
    RetC 7 #[.agg #[.int .i64 D, .int .i64 A, .int .i64 C], .int .i64 p] (.tuple #[.bool ok, .bool told]) ∧
    RetC 8 #[.agg #[.int .i64 D, .int .i64 A, .int .i64 C], .int .i64 p] (.tuple #[.bool ok, .bool told]) ∧
    RetC 18 #[.int .i64 p] (.tuple #[.int .i64 most, .bool o9]) ∧
    RetC 19 #[.int .i64 p] (.tuple #[.int .i64 most, .bool o9]) ∧
    (ok = true → told = true) ∧
    (ok = true → RetC 10 #[.agg #[.int .i64 D, .int .i64 A, .int .i64 C], .int .i64 M, .int .i64 E, .int .i64 p, .int .i64 K] (.tuple #[.bool true, .bool true]) ∧ 1 ≤ K ∧ K ≤ most) ∧
    (ok = true → K = 1 → ∃ (many : Int) (was : Bool), RetC 16 #[.agg #[.int .i64 D, .int .i64 A, .int .i64 C], .int .i64 p, .int .i64 1] (.tuple #[.int .i64 many, .bool was]) ∧ (was = true → 1 ≤ many)) := by
  have hil : ilV D A C p = ((lcV D A C p).2.2, (ilV D A C p).2) := by
    unfold ilV lcV slV
    split <;> rfl
  refine ⟨(lcV D A C p).1.1, (lcV D A C p).1.2, (lcV D A C p).2.1, (lcV D A C p).2.2, (ilV D A C p).2, ifZ (mdPB p) (dp p : Nat), mdPB p, fun W => LocalPair_any D A C p W, fun W => sLocalPair_any D A C p W, fun W => ?_, fun W => ?_, fun W => DepthFor_any p W, fun W => sDepthFor_any p W, fun h => ?_, fun h => ?_, fun h hK => ?_⟩
  · have := IsLocallySoluble_any D A C p W
    rw [hil] at this
    exact this
  · have := sIsLocallySoluble_any D A C p W
    rw [hil] at this
    exact this
  · unfold lcV at h
    unfold ilV slV
    split at h
    · rename_i hg
      rw [if_pos hg]
      dsimp only at h ⊢
      rw [h]; rfl
    · cases h
  · obtain ⟨j, h1, h2, h3, h4, h5, h6, h7, h8⟩ := lp_ok h
    refine ⟨fun W => ?_, by omega, by rw [h2, ifZ_t]; omega⟩
    have := LiftsModulo_any D A C (lcV D A C p).1.1 (lcV D A C p).1.2 p (lcV D A C p).2.1 W
    rw [h3] at this ⊢
    rw [show lmV D A C (lcV D A C p).1.1 (lcV D A C p).1.2 p (j : Int) = true by unfold lmV; rw [h6, show ((j : Int)).toNat = j by omega, h7]; rfl, h6] at this
    exact this
  · obtain ⟨j, h1, h2, h3, h4, h5, h6, h7, h8⟩ := lp_ok h
    obtain rfl : j = 1 := by omega
    refine ⟨(coV D A C p 1).1, (coV D A C p 1).2, fun W => CountPossible_any D A C p 1 W, fun hw => ?_⟩
    rcases coV_cases D A C p 1 with ⟨_, e⟩ | ⟨_, ⟨_, e⟩ | ⟨_, ⟨_, e⟩ | ⟨_, e⟩⟩⟩
    · rw [e] at hw; cases hw
    · rw [e] at hw; cases hw
    · rw [e] at hw; cases hw
    · rw [e]
      dsimp only
      have := cnt_one h8
      rw [show ((1 : Int)).toNat = 1 from rfl]
      omega
theorem lp_set2 (D A C m e p k : Int) : ∃ (l o3 : Bool),
    RetC 10 #[.agg #[.int .i64 D, .int .i64 A, .int .i64 C], .int .i64 m, .int .i64 e, .int .i64 p, .int .i64 k] (.tuple #[.bool l, .bool o3]) ∧
    RetC 11 #[.agg #[.int .i64 D, .int .i64 A, .int .i64 C], .int .i64 m, .int .i64 e, .int .i64 p, .int .i64 k] (.tuple #[.bool l, .bool o3]) :=
  ⟨_, _, fun W => LiftsModulo_any D A C m e p k W, fun W => sLiftsModulo_any D A C m e p k W⟩
theorem lp_set3 (D A C x y : Int) : ∃ (V : Int) (o5 : Bool),
    RetC 13 #[.agg #[.int .i64 D, .int .i64 A, .int .i64 C], .int .i64 x, .int .i64 y] (.tuple #[.int .i64 V, .bool o5]) ∧
    RetC 14 #[.agg #[.int .i64 D, .int .i64 A, .int .i64 C], .int .i64 x, .int .i64 y] (.tuple #[.int .i64 V, .bool o5]) ∧
    (o5 = true → (x ≠ 0 ∨ y ≠ 0) → ∀ s : Int, s * s = V → (RetC 21 #[.agg #[.int .i64 D, .int .i64 A, .int .i64 C]] (.tuple #[.bool true, .bool true]) ∧
      ∀ p : Int, p = 2 ∨ p = 3 ∨ p = 5 → ∃ told : Bool, RetC 7 #[.agg #[.int .i64 D, .int .i64 A, .int .i64 C], .int .i64 p] (.tuple #[.bool told, .bool told]) ∧ RetC 8 #[.agg #[.int .i64 D, .int .i64 A, .int .i64 C], .int .i64 p] (.tuple #[.bool told, .bool told]))) := by
  refine ⟨_, _, fun W => QuarticValue_any D A C x y W, fun W => sQuarticValue_any D A C x y W, fun h h0 s hs => ?_⟩
  rw [h, ifZ_t] at hs
  have hq : qaB D A C = true := by simp only [qvB, Bool.and_eq_true] at h; exact h.1
  have hb := qaB_bd hq
  refine ⟨fun W => ?_, fun p hp => ?_⟩
  · have hr : rlB D A C = true := by
      have := real_point hb.2.2.2.1 hb.2.2.2.2 h0 (by rw [← hs]; exact sq_nn s)
      unfold rlB
      simpa [rlP] using this
    have := HasRealPoint_any D A C W
    rw [hq, hr] at this
    exact this
  · have G : GoodP p := by rcases hp with rfl | rfl | rfl; exact good2; exact good3; exact good5
    have hm : mdPB p = true := by rcases hp with rfl | rfl | rfl <;> decide +kernel
    have ht := lp_told (D := D) (A := A) (C := C) G h0 hs
    have hil : ilV D A C p = ((ilV D A C p).2, (ilV D A C p).2) := by
      unfold ilV slV
      rw [hq, hm, if_pos (by rfl)]
      rcases ht with ht | ht
      · rw [decide_eq_true ht]; rfl
      · rw [ht]; simp
    refine ⟨(ilV D A C p).2, fun W => ?_, fun W => ?_⟩
    · have := IsLocallySoluble_any D A C p W
      rw [hil] at this
      exact this
    · have := sIsLocallySoluble_any D A C p W
      rw [hil] at this
      exact this
theorem lp_set4 (D A C p k : Int) : ∃ (c : Int) (o7 : Bool),
    RetC 16 #[.agg #[.int .i64 D, .int .i64 A, .int .i64 C], .int .i64 p, .int .i64 k] (.tuple #[.int .i64 c, .bool o7]) ∧
    RetC 17 #[.agg #[.int .i64 D, .int .i64 A, .int .i64 C], .int .i64 p, .int .i64 k] (.tuple #[.int .i64 c, .bool o7]) ∧ 0 ≤ c := by
  refine ⟨_, _, fun W => CountPossible_any D A C p k W, fun W => sCountPossible_any D A C p k W, ?_⟩
  rcases coV_cases D A C p k with ⟨_, e⟩ | ⟨_, ⟨_, e⟩ | ⟨_, ⟨_, e⟩ | ⟨_, e⟩⟩⟩ <;> rw [e] <;> dsimp only <;> omega
end Go.Proofs.Ytegiddpakocodaa
