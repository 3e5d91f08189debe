/- Whole numbers in memory: making them out of integers, turning signs; both sides. -/
import Derived.Test.YtgjppinjapdbeaaBg1
import Derived.Test.YtgjppinjapdbeaaNum
namespace Go.Proofs.Ytgjppinjapdbeaa
open Go.RowKit
set_option linter.unusedVariables false
set_option maxHeartbeats 4000000
set_option maxRecDepth 20000
set_option linter.unusedSimpArgs false
theorem l1Own_any (a : Option Addr) (n c : Nat) (zs : List Int) (w : World) (hs : Sx w a n c zs) (hl : n ≤ 1000000) :
    Calls Try.prog 60 #[.slice a n c] w (NewS w zs) := by
  obtain ⟨i0, hi, hz0, hz1, hz2⟩ := info_parts infoInt
  have HO := Lib.hid (World.ownsRow_made w #[] 0 (e := 3) (base := w.heap.size) (size := 1) (Nat.le_refl _) (Nat.zero_le _) (by simp))
  cases a with
  | none =>
    have h0 := hs.nil rfl
    have h1 := hs.cap
    have h2 := hs.len
    have : zs = [] := List.length_eq_zero_iff.1 (by omega)
    subst this
    obtain rfl : n = 0 := by omega
    subst h0
    clear hs h1 h2
    go_enter Try.func60, Try.ntmps60
    go_wp2_with (first | (at_builtin; refine wpList_append_own_none _ rfl _ _ 25 rfl w.heap.size 3 i0 1 Try.underlying25 hi _ _ _ rfl HO.out rfl ?_))
    go_ret
    refine ⟨_, _, _, rfl, Sx.of_row (heap_alloc_new _ _) rfl (Nat.le_refl _) (Nat.zero_le _) (fun j hj => by omega), fun A e => by cases e; exact Nat.le_refl _, ?_⟩
    repeat' first | (with_reducible first | apply zRf | assumption | apply zDn | apply zDr | apply zAl | apply zSt | refine zVi (by assumption) ?_ ?_) | go_size
  | some A =>
    have HS := Lib.hid ((hs.below ((Below.refl _ _).alloc (Nat.le_refl _) (.cells #[] 3))).row.src)
    have HL := Lib.hid hs.len
    clear hs
    go_enter Try.func60, Try.ntmps60
    go_wp2_with (first | (at_builtin; refine wpList_append_own _ rfl _ _ 25 rfl w.heap.size 3 i0 (.int .i64 0) 1 8 Try.underlying25 hi hz0 hz1 hz2 rfl (by decide) _ _ _ rfl HO.out A n c (ints zs) rfl (by simp [ints, HL.out]) HS.out ints_cell (by unfold maxLen; omega) (by omega) (by simp) ?_; intro v1 w1 hv1 hg1 _))
    go_ret
    have hv2 := Sx.of_owns (n := n) (zs := zs) (by simpa using hv1)
    obtain ⟨a1, c1, rfl, h5, h6⟩ := hv2
    refine ⟨_, _, _, rfl, h5, h6, ?_⟩
    refine Below.grown ((Below.refl _ w).alloc (Nat.le_refl _) _) hg1 (by simp) (fun k e => ?_)
    have e2 : some w.heap.size = some k := e
    obtain rfl := Option.some.inj e2
    exact Nat.le_refl _
def MkRel (n : Nat) (zs : List Int) (v : Value) : Prop := ∃ k : Nat, k ≤ n ∧ v = .int .i64 k ∧ ∀ j, k ≤ j → j < n → zs.getD j 0 = 0
end Go.Proofs.Ytgjppinjapdbeaa
