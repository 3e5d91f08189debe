/- Arguments that are structs of integers, opened to their numbers. -/
import Derived.Test.YtijpfnkhaldfeaaRows
import Derived.Test.YtijpfnkhaldfeaaBase
import Derived.WalkKit
import Derived.ProofKit
import Derived.OpenShut
import Derived.Lib.SmallJoins
namespace Go.Proofs.Ytijpfnkhaldfeaa
open Go.ChangeShapes Go.WideShapes Go.ChangeAt Go.RowKit
set_option linter.unusedVariables false
set_option linter.unusedSimpArgs false

section
variable {H : Type} {enc : TypeId × Value → H} {P : Program} {w : World} {base : Nat} {spare : Nat → Bool} {held : Bool}
theorem open_ii {t : TypeId} {f0 f1 : Field} {fuel : Nat} {cs : List Value} {x : DataW H × List MemPlace} (hs : P.underlying t = some (.struct #[f0, f1])) (h0 : P.underlying f0.type = some (.int .i64)) (h1 : P.underlying f1.type = some (.int .i64))
    (h : DataW.trod enc P w base spare held fuel t cs = some x) (o : f0.offset = 0 ∧ f1.offset = 1) (c : P.cellsOf f0.type = 1 ∧ P.cellsOf f1.type = 1) (hC : P.cellsOf t = 2) :
    ∃ a b : Int, cs = [.int .i64 a, .int .i64 b] ∧ (Lit.int .i64 a).wf = true ∧ (Lit.int .i64 b).wf = true := by
  obtain ⟨xs, n, _, hx, hlen, hxl, hf⟩ := DataW.trod_struct hs h
  rw [hC] at hlen
  match cs, hlen with
  | [u, v], _ =>
    have e0 := hf 0 f0 rfl
    have e1 := hf 1 f1 rfl
    rw [o.1, c.1] at e0
    rw [o.2, c.2] at e1
    have hx0 : xs[0]? = some (xs[0]'(by rw [hxl]; simp)) := List.getElem?_eq_getElem _
    have hx1 : xs[1]? = some (xs[1]'(by rw [hxl]; simp)) := List.getElem?_eq_getElem _
    rw [hx0] at e0
    rw [hx1] at e1
    obtain ⟨a, ha, _, wa⟩ := DataW.trod_int h0 e0
    obtain ⟨b, hb, _, wb⟩ := DataW.trod_int h1 e1
    simp at ha hb
    subst ha hb
    exact ⟨a, b, rfl, wa, wb⟩
theorem open_iiii {t : TypeId} {f0 f1 g0 g1 : Field} {fuel : Nat} {cs : List Value} {x : DataW H × List MemPlace} (hs : P.underlying t = some (.struct #[f0, f1])) (ht : f1.type = f0.type) (hs0 : P.underlying f0.type = some (.struct #[g0, g1]))
    (h0 : P.underlying g0.type = some (.int .i64)) (h1 : P.underlying g1.type = some (.int .i64))
    (h : DataW.trod enc P w base spare held fuel t cs = some x) (o : f0.offset = 0 ∧ f1.offset = 2 ∧ g0.offset = 0 ∧ g1.offset = 1) (c : P.cellsOf g0.type = 1 ∧ P.cellsOf g1.type = 1 ∧ P.cellsOf f0.type = 2) (hC : P.cellsOf t = 4) :
    ∃ a b a2 b2 : Int, cs = [.int .i64 a, .int .i64 b, .int .i64 a2, .int .i64 b2] ∧ ((Lit.int .i64 a).wf = true ∧ (Lit.int .i64 b).wf = true) ∧ ((Lit.int .i64 a2).wf = true ∧ (Lit.int .i64 b2).wf = true) := by
  obtain ⟨xs, n, _, hx, hlen, hxl, hf⟩ := DataW.trod_struct hs h
  rw [hC] at hlen
  match cs, hlen with
  | [u, v, u2, v2], _ =>
    have e0 := hf 0 f0 rfl
    have e1 := hf 1 f1 rfl
    rw [o.1, c.2.2] at e0
    rw [o.2.1, ht, c.2.2] at e1
    have hx0 : xs[0]? = some (xs[0]'(by rw [hxl]; simp)) := List.getElem?_eq_getElem _
    have hx1 : xs[1]? = some (xs[1]'(by rw [hxl]; simp)) := List.getElem?_eq_getElem _
    rw [hx0] at e0
    rw [hx1] at e1
    obtain ⟨a, b, hab, wa, wb⟩ := open_ii hs0 h0 h1 e0 ⟨o.2.2.1, o.2.2.2⟩ ⟨c.1, c.2.1⟩ c.2.2
    obtain ⟨a2, b2, hab2, wa2, wb2⟩ := open_ii hs0 h0 h1 e1 ⟨o.2.2.1, o.2.2.2⟩ ⟨c.1, c.2.1⟩ c.2.2
    simp at hab hab2
    obtain ⟨rfl, rfl⟩ := hab
    obtain ⟨rfl, rfl⟩ := hab2
    exact ⟨_, _, _, _, rfl, ⟨wa, wb⟩, ⟨wa2, wb2⟩⟩
theorem agg_of {t : TypeId} {fs : Array Field} {r : Reach} {b0 : Nat} {v : Value} (hs : P.underlying t = some (.struct fs)) (hv : Value.okWide P w r b0 t v) : ∃ cs, v = .agg cs ∧ v.cells.toList = cs.toList := by
  obtain ⟨cs, rfl, _⟩ := okWide_struct hs hv
  exact ⟨cs, rfl, rfl⟩
end
end Go.Proofs.Ytijpfnkhaldfeaa
