/- A copy of a row of integers: slices.Clone. -/
import Derived.Test.YtnemnkbcbokafaaProg
import Derived.Test.YtnemnkbcbokafaaSl
import Derived.WalkSpells
import Derived.Lib.SliceRun
namespace Go.Proofs.Ytnemnkbcbokafaa
open Go.RowKit
set_option linter.unusedVariables false
set_option maxHeartbeats 4000000
set_option maxRecDepth 20000
set_option linter.unusedSimpArgs false
theorem infoInt : (Try.prog.info? 3).map (fun i => (i.zero, i.size, i.bytes)) = some (some (.int .i64 0), 1, 8) := by kernel_rfl
/-- a contract whose value is a slice of numbers -/
def NewS (w : World) (zs : List Int) (e : Ending) (w' : World) : Prop := ∃ a n c, e = .returned (.slice a n c) ∧ Sx w' a n c zs ∧ Fr w.heap.size a ∧ Below w.heap.size w w'
theorem clone_any (a : Option Addr) (n c : Nat) (zs : List Int) (w : World) (hs : Sx w a n c zs) (hl : n ≤ 40000000000) :
    Calls Try.prog 62 #[.slice a n c] w (NewS w zs) := by
  obtain ⟨i0, hi, hz0, hz1, hz2⟩ := info_parts infoInt
  have hnl := fun (W : World) (a : Option Addr) (n c : Nat) => Lib.run_eql_slice_nil (P := Try.prog) W 26 3 a n c 0 0 Try.underlying26
  cases a with
  | none =>
    have h0 := hs.nil rfl
    have h1 := hs.cap
    have h2 := hs.len
    have : zs = [] := List.length_eq_zero_iff.1 (by omega)
    subst this
    obtain rfl : n = 0 := by omega
    subst h0
    clear hs h1 h2
    go_enter Try.func62, Try.ntmps62
    go_wp2_with fail
    go_ret
    exact ⟨_, _, _, rfl, Sx.none _, (fun A e => by cases e), Below.refl _ _⟩
  | some A =>
    have HO := Lib.hid (World.ownsRow_made w #[] 0 (e := 3) (base := w.heap.size) (size := 1) (Nat.le_refl _) (Nat.zero_le _) (by simp))
    have HS := Lib.hid ((hs.below ((Below.refl _ _).alloc (Nat.le_refl _) (.cells #[] 3))).row.src)
    have HL := Lib.hid hs.len
    clear hs
    go_enter Try.func62, Try.ntmps62
    go_wp2_with (first | (at_builtin; refine wpList_append_own _ rfl _ _ 26 rfl w.heap.size 3 i0 (.int .i64 0) 1 8 Try.underlying26 hi hz0 hz1 hz2 rfl (by decide) _ _ _ rfl HO.out A n c (ints zs) rfl (by simp [ints, HL.out]) HS.out ints_cell (by unfold maxLen; omega) (by omega) (by simp) ?_; intro v1 w1 hv1 hg1 _))
    go_ret
    have hv2 := Sx.of_owns (n := n) (zs := zs) (by simpa using hv1)
    obtain ⟨a1, c1, rfl, h5, h6⟩ := hv2
    refine ⟨_, _, _, rfl, h5, h6, ?_⟩
    refine Below.grown ((Below.refl _ w).alloc (Nat.le_refl _) _) hg1 (by simp) (fun k e => ?_)
    have e2 : some w.heap.size = some k := e
    obtain rfl := Option.some.inj e2
    exact Nat.le_refl _
end Go.Proofs.Ytnemnkbcbokafaa
