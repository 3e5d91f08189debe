/- The bad primes of a quartic: the program. -/
import Derived.Test.YtnemnkbcbokafaaPr2
import Derived.Test.YtnemnkbcbokafaaBy
import Derived.Test.YtnemnkbcbokafaaLoA
import Derived.Laws.AppendOwnNone
namespace Go.Proofs.Ytnemnkbcbokafaa
open Go.RowKit
set_option linter.unusedVariables false
set_option maxHeartbeats 4000000
set_option maxRecDepth 20000
set_option linter.unusedSimpArgs false
theorem bdL_mem (D A C x : Int) : x ∈ bdL D A C ↔ x ∈ [2] ++ (prL D.natAbs ++ prL C.natAbs ++ prL (dsc D A C).natAbs) := by
  unfold bdL; simp only [putA_mem, List.mem_append]
/-- what has come when i of the three numbers are done -/
def bpL (D C d : Int) (i : Nat) : List Int := [2] ++ ((if 0 < i then prL D.natAbs else []) ++ (if 1 < i then prL C.natAbs else []) ++ (if 2 < i then prL d.natAbs else []))
def bpN (D C d : Int) (i : Nat) : Int := if i = 0 then D else if i = 1 then C else d
theorem bpL_step (D C d : Int) {i : Nat} (h : i < 3) : bpL D C d (i + 1) = bpL D C d i ++ prL (bpN D C d i).natAbs := by
  rcases (show i = 0 ∨ i = 1 ∨ i = 2 by omega) with rfl | rfl | rfl <;> simp [bpL, bpN]
theorem bpL_len (D C d : Int) (i : Nat) (h1 : D.natAbs ≤ 100000000000) (h2 : C.natAbs ≤ 100000000000) (h3 : d.natAbs ≤ 100000000000) : (bpL D C d i).length ≤ 300000000001 := by
  have g1 := prL_len (n := D.natAbs) (by omega)
  have g2 := prL_len (n := C.natAbs) (by omega)
  have g3 := prL_len (n := d.natAbs) (by omega)
  unfold bpL
  simp only [List.length_append, List.length_cons, List.length_nil]
  split <;> split <;> split <;> simp <;> omega
/-- a contract's value: a slice that holds the numbers zs -/
def NewX (w : World) (zs : List Int) (ok : Bool) (e : Ending) (w' : World) : Prop := ∃ a n c, e = .returned (.tuple #[.slice a n c, .bool ok]) ∧ Sx w' a n c zs ∧ Below w.heap.size w w'
theorem row_lit (W : World) (B g : Nat) (x : Int) (hg : W.heap.size = g) (hB : B ≤ g) : OwnI (W.alloc (.cells #[.int .i64 x] 3 (0, 0))) B 3 (.slice (some ⟨g, 0, none⟩) 1 1) [x] :=
  ⟨rfl, .inr ⟨g, 1, #[.int .i64 x], rfl, hB, by subst hg; exact heap_alloc_new _ _, by simp, by unfold maxLen; omega, by simp, by simp [ints]⟩⟩
theorem sx_some {W : World} {a : Option Addr} {n c : Nat} {zs : List Int} (h : Sx W a n c zs) (h0 : zs ≠ []) : ∃ A, a = some A := by
  cases a with
  | none =>
    have h1 := h.nil rfl
    have := h.cap
    have := h.len
    exact (h0 (List.length_eq_zero_iff.1 (by omega))).elim
  | some A => exact ⟨A, rfl⟩
end Go.Proofs.Ytnemnkbcbokafaa
