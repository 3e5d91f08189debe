/- How many bits a whole number has: the reference. -/
import Derived.Test.YtijpfnkhaldfeaaBg4
namespace Go.Proofs.Ytijpfnkhaldfeaa
open Go.RowKit
set_option linter.unusedVariables false
set_option maxHeartbeats 1000000
set_option maxRecDepth 20000
set_option linter.unusedSimpArgs false
theorem bgLimb_any (a : Option Addr) (n c : Nat) (zs : List Int) (i : Int) (w : World) (hs : Sx w a n c zs) (h0 : 0 ≤ i) (hl : n ≤ 1000000) :
    Calls Try.prog 67 #[.slice a n c, .int .i64 i] w fun e w' => e = .returned (.int .i64 (zs.getD i.toNat 0)) ∧ w = w' := by
  obtain ⟨j, rfl⟩ : ∃ j : Nat, i = j := ⟨i.toNat, by omega⟩
  have hln := hs.len
  by_cases h : j < n
  · obtain ⟨b, off, rfl, hb, hcs⟩ := hs.at (by omega)
    have hc := hcs j h
    have HZ := Lib.hid (List.getD_eq_getElem?_getD (l := zs) (i := j) (a := 0))
    clear hcs hln hs
    go_enter Try.func67, Try.ntmps67
    go_wp2
    go_ret
    exact ⟨ret_int (by rw [Int.toNat_natCast, HZ.out]), rfl⟩
  · have HZ := Lib.hid (show zs.getD j 0 = 0 from gD_ge (by omega))
    clear hln
    go_enter Try.func67, Try.ntmps67
    go_wp2
    go_ret
    exact ⟨ret_int (by rw [Int.toNat_natCast, HZ.out]), rfl⟩
def BtRel (w : World) (g : Nat) (z : Int) (bv : Value) (wr : World) : Prop := ∃ (bits : Nat) (y : Int) (a : Option Addr) (n c : Nat), bv = .int .i64 bits ∧ 0 ≤ y ∧ y ≤ z ∧ bits + bl y = bl z ∧
  wr.heap[g]? = some (.cells #[.bool false, .slice a n c] 35 (0, 0)) ∧ Wx wr false a n c y ∧ Below w.heap.size w wr
def B2Rel (z : Int) (bv nv : Value) : Prop := ∃ (bits : Nat) (y : Int), bv = .int .i64 bits ∧ nv = .int .i64 y ∧ 0 ≤ y ∧ y ≤ 9223372036854775807 ∧ bits + bl y = bl z
def heapNum (g : Nat) (w : World) : Nat := match w.cell? ⟨g, 1, none⟩ with | some (.slice _ n _) => n | _ => 0
end Go.Proofs.Ytijpfnkhaldfeaa
