/- Arguments that are flat structs of three or four integers, opened to their numbers. -/
import Derived.Test.YtdcbpgpjiacomaaDoorRows
import Derived.Test.YtdcbpgpjiacomaaDoorBase
import Derived.Test.YtdcbpgpjiacomaaDoorOpen
import Derived.WalkKit
import Derived.ProofKit
import Derived.OpenShut
import Derived.Lib.SmallJoins
namespace Go.Proofs.YtdcbpgpjiacomaaDoor
open Go.ChangeShapes Go.WideShapes Go.ChangeAt Go.RowKit
set_option linter.unusedVariables false
set_option linter.unusedSimpArgs false

section
variable {H : Type} {enc : TypeId × Value → H} {P : Program} {w : World} {base : Nat} {spare : Nat → Bool} {held : Bool}
theorem open_iii {t : TypeId} {f0 f1 f2 : Field} {fuel : Nat} {cs : List Value} {x : DataW H × List MemPlace} (hs : P.underlying t = some (.struct #[f0, f1, f2])) (h0 : P.underlying f0.type = some (.int .i64)) (h1 : P.underlying f1.type = some (.int .i64)) (h2 : P.underlying f2.type = some (.int .i64))
    (h : DataW.trod enc P w base spare held fuel t cs = some x) (o : f0.offset = 0 ∧ f1.offset = 1 ∧ f2.offset = 2) (c : P.cellsOf f0.type = 1 ∧ P.cellsOf f1.type = 1 ∧ P.cellsOf f2.type = 1) (hC : P.cellsOf t = 3) :
    ∃ a0 a1 a2 : Int, cs = [.int .i64 a0, .int .i64 a1, .int .i64 a2] ∧ (Lit.int .i64 a0).wf = true ∧ (Lit.int .i64 a1).wf = true ∧ (Lit.int .i64 a2).wf = true := by
  obtain ⟨xs, n, _, hx, hlen, hxl, hf⟩ := DataW.trod_struct hs h
  rw [hC] at hlen
  obtain ⟨o0, o1, o2⟩ := o
  obtain ⟨c0, c1, c2⟩ := c
  match cs, hlen with
  | [u0, u1, u2], _ =>
    have e0 := hf 0 f0 rfl
    rw [o0, c0] at e0
    have hx0 : xs[0]? = some (xs[0]'(by rw [hxl]; simp)) := List.getElem?_eq_getElem _
    rw [hx0] at e0
    obtain ⟨a0, ha0, _, wa0⟩ := DataW.trod_int h0 e0
    have e1 := hf 1 f1 rfl
    rw [o1, c1] at e1
    have hx1 : xs[1]? = some (xs[1]'(by rw [hxl]; simp)) := List.getElem?_eq_getElem _
    rw [hx1] at e1
    obtain ⟨a1, ha1, _, wa1⟩ := DataW.trod_int h1 e1
    have e2 := hf 2 f2 rfl
    rw [o2, c2] at e2
    have hx2 : xs[2]? = some (xs[2]'(by rw [hxl]; simp)) := List.getElem?_eq_getElem _
    rw [hx2] at e2
    obtain ⟨a2, ha2, _, wa2⟩ := DataW.trod_int h2 e2
    simp at ha0 ha1 ha2
    subst ha0 ha1 ha2
    exact ⟨a0, a1, a2, rfl, wa0, wa1, wa2⟩
theorem open_iiiif {t : TypeId} {f0 f1 f2 f3 : Field} {fuel : Nat} {cs : List Value} {x : DataW H × List MemPlace} (hs : P.underlying t = some (.struct #[f0, f1, f2, f3])) (h0 : P.underlying f0.type = some (.int .i64)) (h1 : P.underlying f1.type = some (.int .i64)) (h2 : P.underlying f2.type = some (.int .i64)) (h3 : P.underlying f3.type = some (.int .i64))
    (h : DataW.trod enc P w base spare held fuel t cs = some x) (o : f0.offset = 0 ∧ f1.offset = 1 ∧ f2.offset = 2 ∧ f3.offset = 3) (c : P.cellsOf f0.type = 1 ∧ P.cellsOf f1.type = 1 ∧ P.cellsOf f2.type = 1 ∧ P.cellsOf f3.type = 1) (hC : P.cellsOf t = 4) :
    ∃ a0 a1 a2 a3 : Int, cs = [.int .i64 a0, .int .i64 a1, .int .i64 a2, .int .i64 a3] ∧ (Lit.int .i64 a0).wf = true ∧ (Lit.int .i64 a1).wf = true ∧ (Lit.int .i64 a2).wf = true ∧ (Lit.int .i64 a3).wf = true := by
  obtain ⟨xs, n, _, hx, hlen, hxl, hf⟩ := DataW.trod_struct hs h
  rw [hC] at hlen
  obtain ⟨o0, o1, o2, o3⟩ := o
  obtain ⟨c0, c1, c2, c3⟩ := c
  match cs, hlen with
  | [u0, u1, u2, u3], _ =>
    have e0 := hf 0 f0 rfl
    rw [o0, c0] at e0
    have hx0 : xs[0]? = some (xs[0]'(by rw [hxl]; simp)) := List.getElem?_eq_getElem _
    rw [hx0] at e0
    obtain ⟨a0, ha0, _, wa0⟩ := DataW.trod_int h0 e0
    have e1 := hf 1 f1 rfl
    rw [o1, c1] at e1
    have hx1 : xs[1]? = some (xs[1]'(by rw [hxl]; simp)) := List.getElem?_eq_getElem _
    rw [hx1] at e1
    obtain ⟨a1, ha1, _, wa1⟩ := DataW.trod_int h1 e1
    have e2 := hf 2 f2 rfl
    rw [o2, c2] at e2
    have hx2 : xs[2]? = some (xs[2]'(by rw [hxl]; simp)) := List.getElem?_eq_getElem _
    rw [hx2] at e2
    obtain ⟨a2, ha2, _, wa2⟩ := DataW.trod_int h2 e2
    have e3 := hf 3 f3 rfl
    rw [o3, c3] at e3
    have hx3 : xs[3]? = some (xs[3]'(by rw [hxl]; simp)) := List.getElem?_eq_getElem _
    rw [hx3] at e3
    obtain ⟨a3, ha3, _, wa3⟩ := DataW.trod_int h3 e3
    simp at ha0 ha1 ha2 ha3
    subst ha0 ha1 ha2 ha3
    exact ⟨a0, a1, a2, a3, rfl, wa0, wa1, wa2, wa3⟩
end
end Go.Proofs.YtdcbpgpjiacomaaDoor
