/- FnCubicRoots: what both sides return, as numbers of which the law's own tests hold. -/
import Derived.Test.YtldonmcbnhgbdaaCr5
import Derived.Test.YtldonmcbnhgbdaaCuG
import Derived.Test.YtldonmcbnhgbdaaCuL
namespace Go.Proofs.Ytldonmcbnhgbdaa
open Go.RowKit
set_option linter.unusedVariables false
set_option maxHeartbeats 4000000
set_option maxRecDepth 20000
set_option linter.unusedSimpArgs false

def RetC (f : FuncId) (args : Array Value) (r : Value) : Prop := ∀ W : World, Calls Try.prog f args W fun e w' => e = .returned r ∧ Below W.heap.size W w'
def RetF (f : FuncId) (args : Array Value) (n : Nat) (zs : List Int) (o : Bool) : Prop := ∀ W : World, Calls Try.prog f args W fun e w' => ∃ a1 c1, e = .returned (.tuple #[.slice a1 n c1, .bool o]) ∧ RowF w' W.heap.size n a1 zs ∧ Below W.heap.size W w'
def RetI (f : FuncId) (args : Array Value) (l : List Int) (o : Bool) : Prop := ∀ W : World, Calls Try.prog f args W fun e w' => ∃ a1 c1, e = .returned (.tuple #[.slice a1 l.length c1, .bool o]) ∧ Sx w' a1 l.length c1 l ∧ Below W.heap.size W w'
theorem newQ_row {w : World} {l : List Fr2} {o : Bool} {r : Ending} {w' : World} (h : NewQ w l o r w') : ∃ a1 c1, r = .returned (.tuple #[.slice a1 l.length c1, .bool o]) ∧ RowF w' w.heap.size l.length a1 (flat l) ∧ Below w.heap.size w w' := by
  obtain ⟨v, B, h1, h2, h3, h4⟩ := h
  obtain ⟨a1, c1, rfl, h5, -⟩ := (h2.low h3).rowF
  exact ⟨a1, c1, h1, h5, h4⟩
/-- what the law asks of one root -/
def RootOk (a b c d x y : Int) : Prop := RetC 22 #[.agg #[.int .i64 a, .int .i64 b, .int .i64 c, .int .i64 d], .agg #[.int .i64 x, .int .i64 y]] (.tuple #[.int .i64 0, .bool true]) ∧
  (∃ v1 v2 v3 : Int, RetC 18 #[.agg #[.int .i64 a, .int .i64 b, .int .i64 c, .int .i64 d], .agg #[.int .i64 x, .int .i64 y]] (.tuple #[.int .i64 v1, .int .i64 v2, .int .i64 v3, .bool true])) ∧ (-1000 ≤ x ∧ x ≤ 1000) ∧ (1 ≤ y ∧ y ≤ 1000)
theorem rootOk {a b c d : Int} (h : cuB a b c d = true) {x : Fr2} (hx : RtP a b c d x) : RootOk a b c d x.1 x.2 := by
  obtain ⟨h1, h2, h3, h4, h5⟩ := rt_call h hx
  refine ⟨fun W => ?_, ⟨foA a x.2, foC b x.1 x.2 (foA a x.2), foC c x.1 x.2 (foC b x.1 x.2 (foA a x.2)), fun W => ?_⟩, h5, h4⟩
  · have := CubicAtFraction_any a b c d x.1 x.2 W
    rw [h2, h3] at this
    exact this
  · have := FactorOut_any a b c d x.1 x.2 W
    rw [show foV a b c d x.1 x.2 = ((foA a x.2, foC b x.1 x.2 (foA a x.2)), (foC c x.1 x.2 (foC b x.1 x.2 (foA a x.2)), true)) from if_pos h1] at this
    exact this

theorem cr_set1 (a b c d : Int) : ∃ (n : Nat) (zs : List Int) (o ir : Bool),
    RetF 5 #[.agg #[.int .i64 a, .int .i64 b, .int .i64 c, .int .i64 d]] n zs o ∧
    RetF 6 #[.agg #[.int .i64 a, .int .i64 b, .int .i64 c, .int .i64 d]] n zs o ∧
    RetC 7 #[.agg #[.int .i64 a, .int .i64 b, .int .i64 c, .int .i64 d]] (.tuple #[.bool ir, .bool o]) ∧
    RetC 8 #[.agg #[.int .i64 a, .int .i64 b, .int .i64 c, .int .i64 d]] (.tuple #[.bool ir, .bool o]) ∧
    zs.length = 2 * n ∧ n ≤ 3000000 ∧
    (o = true → (ir = decide (n = 0) ∧ n ≤ 3) ∧ ∀ k, k < n → RootOk a b c d (zs[k * 2]?.getD 0) (zs[k * 2 + 1]?.getD 0) ∧ (0 < k → RootOk a b c d (zs[(k - 1) * 2]?.getD 0) (zs[(k - 1) * 2 + 1]?.getD 0) ∧ zs[(k - 1) * 2]?.getD 0 * zs[k * 2 + 1]?.getD 0 < zs[k * 2]?.getD 0 * zs[(k - 1) * 2 + 1]?.getD 0)) := by
  have hir : (irV a b c d).2 = cuB a b c d := by unfold irV; cases cuB a b c d <;> rfl
  refine ⟨(rrL a b c d).length, flat (rrL a b c d), cuB a b c d, (irV a b c d).1, fun W => (RationalRoots_any a b c d W).mono fun r w' h => newQ_row h, fun W => (sRationalRoots_any a b c d W).mono fun r w' h => newQ_row h, fun W => ?_, fun W => ?_, flat_len _, rrL_len a b c d, fun h => ?_⟩
  · have := IsIrreducibleCubic_any a b c d W
    rw [hir] at this
    exact this
  · have := sIsIrreducibleCubic_any a b c d W
    rw [hir] at this
    exact this
  · have hl : rrL a b c d = spL a b c d := if_pos h
    have ho := spL_ro (a := a) (b := b) (c := c) (d := d)
    have h0 := (cuB_bd h).1
    have h3 := roots_len h0 (spL a b c d) ho.inc ho.all
    rw [hl]
    refine ⟨⟨?_, h3⟩, fun k hk => ?_⟩
    · unfold irV; rw [if_pos h]
    · have at_ : ∀ j, j < (spL a b c d).length → RtP a b c d ((spL a b c d)[j]?.getD (0, 1)) := fun j hj => by
        rw [List.getElem?_eq_getElem hj]
        exact ho.all _ (List.getElem_mem hj)
      obtain ⟨f1, f2⟩ := flat_at (spL a b c d) k hk
      rw [f1, f2]
      refine ⟨rootOk h (at_ k hk), fun hk0 => ?_⟩
      obtain ⟨f3, f4⟩ := flat_at (spL a b c d) (k - 1) (by omega)
      rw [f3, f4]
      refine ⟨rootOk h (at_ (k - 1) (by omega)), ?_⟩
      have hs := List.pairwise_iff_getElem.1 ho.inc (k - 1) k (by omega) hk (by omega)
      rw [List.getElem?_eq_getElem hk, List.getElem?_eq_getElem (show k - 1 < (spL a b c d).length by omega)]
      exact hs
theorem cr_set2 (a b c d : Int) : ∃ (C : List Int) (N D : Int) (o : Bool),
    RetI 10 #[.agg #[.int .i64 a, .int .i64 b, .int .i64 c, .int .i64 d]] C o ∧
    RetI 11 #[.agg #[.int .i64 a, .int .i64 b, .int .i64 c, .int .i64 d]] C o ∧
    RetC 12 #[.agg #[.int .i64 a, .int .i64 b, .int .i64 c, .int .i64 d]] (.tuple #[.int .i64 N, .bool o]) ∧
    RetC 13 #[.agg #[.int .i64 a, .int .i64 b, .int .i64 c, .int .i64 d]] (.tuple #[.int .i64 N, .bool o]) ∧
    RetC 14 #[.agg #[.int .i64 a, .int .i64 b, .int .i64 c, .int .i64 d]] (.tuple #[.int .i64 D, .bool o]) ∧
    RetC 15 #[.agg #[.int .i64 a, .int .i64 b, .int .i64 c, .int .i64 d]] (.tuple #[.int .i64 D, .bool o]) ∧
    C.length ≤ 3000 ∧
    (o = true → (C.length : Int) ≤ N ∧ C.length ≠ 0 ∧ ((0 < D ∧ N = 3) ∨ (D ≤ 0 ∧ (N = 1 ∨ N = 2)))) := by
  refine ⟨rcL a b c d, _, _, cuB a b c d, fun W => RootCells_any a b c d W, fun W => sRootCells_any a b c d W, fun W => RealRootCount_any a b c d W, fun W => sRealRootCount_any a b c d W, fun W => CubicDiscriminant_any a b c d W, fun W => sCubicDiscriminant_any a b c d W, ?_, fun h => ?_⟩
  · unfold rcL
    split
    · exact Nat.le_trans (rcN_len _ _ _ _ _ _) (by omega)
    · simp
  · have h0 := (cuB_bd h).1
    rw [show rcL a b c d = rcN a b c d (-1001) 2003 from if_pos h, h]
    simp only [itZ_t]
    refine ⟨cells_len h0 _ (rcN_sorted _ _ _ _ _ _) (fun x hx => (rcN_mem.1 hx).2), fun e => rc_some h (List.length_eq_zero_iff.1 e), ?_⟩
    rcases rnV_cases a b c d with ⟨e1, e2⟩ | ⟨e1, e2⟩ | ⟨e1, e3, e2⟩ | ⟨e1, e3, e2⟩ <;> omega
theorem cr_set3 (a b c d : Int) : ∃ (M : Int) (o : Bool),
    RetC 12 #[.agg #[.int .i64 a, .int .i64 b, .int .i64 c, .int .i64 d]] (.tuple #[.int .i64 M, .bool o]) ∧
    RetC 13 #[.agg #[.int .i64 a, .int .i64 b, .int .i64 c, .int .i64 d]] (.tuple #[.int .i64 M, .bool o]) :=
  ⟨_, _, fun W => RealRootCount_any a b c d W, fun W => sRealRootCount_any a b c d W⟩
theorem cr_set4 (a b c d n e : Int) : ∃ (X Y Z : Int) (o : Bool),
    RetC 18 #[.agg #[.int .i64 a, .int .i64 b, .int .i64 c, .int .i64 d], .agg #[.int .i64 n, .int .i64 e]] (.tuple #[.int .i64 X, .int .i64 Y, .int .i64 Z, .bool o]) ∧
    RetC 19 #[.agg #[.int .i64 a, .int .i64 b, .int .i64 c, .int .i64 d], .agg #[.int .i64 n, .int .i64 e]] (.tuple #[.int .i64 X, .int .i64 Y, .int .i64 Z, .bool o]) ∧
    (o = true → (e * X = a ∧ e * Y - n * X = b ∧ e * Z - n * Y = c ∧ -n * Z = d) ∧ (1 ≤ e ∧ e ≤ 1000) ∧ (-1000 ≤ n ∧ n ≤ 1000) ∧ (-1000 ≤ X ∧ X ≤ 1000) ∧ (-1001000 ≤ Y ∧ Y ≤ 1001000) ∧ (-1001001000 ≤ Z ∧ Z ≤ 1001001000)) := by
  refine ⟨_, _, _, _, fun W => FactorOut_any a b c d n e W, fun W => sFactorOut_any a b c d n e W, fun h => ?_⟩
  have hb : foB a b c d n e = true := by
    unfold foV at h
    split at h
    · assumption
    · cases h
  rw [show foV a b c d n e = ((foA a e, foC b n e (foA a e)), (foC c n e (foC b n e (foA a e)), true)) from if_pos hb]
  exact ⟨fo_fact hb, fo_bd hb⟩
end Go.Proofs.Ytldonmcbnhgbdaa
