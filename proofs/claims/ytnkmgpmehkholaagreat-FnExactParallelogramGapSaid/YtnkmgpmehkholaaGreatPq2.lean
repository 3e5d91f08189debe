/- Lemmas and contracts of functions. No condition. -/
import Derived.BigQuiet
import Derived.Deep.DeepCutAuto
import Derived.Deep.QuietTactic
import Derived.Deep.RegionHeld3
import Derived.Handy
import Derived.Lib.Hide
import Derived.Lib.SmallJoins
import Derived.OpenShut
import Derived.ProofKit
import Derived.Test.YtnkmgpmehkholaaGreatRows
import Derived.WalkKit
namespace Go.Proofs.YtnkmgpmehkholaaGreat
section
open Go.RowKit
set_option linter.unusedVariables false
set_option maxHeartbeats 4000000
set_option linter.unusedSimpArgs false

theorem ret_int {k : IntKind} {a b : Int} (h : a = b) : Ending.returned (.int k a) = .returned (.int k b) := by rw [h]
theorem ret_bool {a b : Bool} (h : a = b) : Ending.returned (.bool a) = .returned (.bool b) := by rw [h]
theorem cellAt {W w1 : World} (hb : Below W.heap.size W w1) (b : Nat) (h : b < W.heap.size) : ∀ o, w1.cell? ⟨b, o, none⟩ = W.cell? ⟨b, o, none⟩ := fun o => hb.cell (p := ⟨b, o, none⟩) h
theorem frozAt {W w1 : World} (hb : Below W.heap.size W w1) (b : Nat) (h : b < W.heap.size) : ∀ o, w1.frozen? ⟨b, o, none⟩ = W.frozen? ⟨b, o, none⟩ := fun o => hb.frozen (p := ⟨b, o, none⟩) h
theorem below_drewN {B : Nat} {a w : World} (h : Below B a w) (n : Nat) : Below B a (w.drewN n) := ⟨h.os, h.tape, h.output, h.size, h.block⟩
theorem below_via {B : Nat} {a w1 w2 : World} (hb : Below w1.heap.size w1 w2) (h : Below B a w1) (hB : B ≤ w1.heap.size) : Below B a w2 := h.trans (hb.mono hB)
theorem World.size_drewN' (w : World) (n : Nat) : (w.drewN n).heap.size = w.heap.size := rfl
theorem zRf {B : Nat} {w : World} : Below B w w := Below.refl B w
theorem zDn {B n : Nat} {a w : World} (h : Below B a w) : Below B a (w.drewN n) := below_drewN h n
theorem zDr {B : Nat} {a w : World} (h : Below B a w) : Below B a w.drew := Below.drew h
theorem zAl {B : Nat} {a w : World} {o : Obj} (h : Below B a w) (hB : B ≤ w.heap.size) : Below B a (w.alloc o) := Below.alloc h hB o
theorem zSt {B : Nat} {a w : World} {p : Addr} {u : Value} (h : Below B a w) (hp : B ≤ p.block) : Below B a (w.setCell p u) := Below.setCell h hp u
theorem zVi {B : Nat} {a w1 w2 : World} (hb : Below w1.heap.size w1 w2) (h : Below B a w1) (hB : B ≤ w1.heap.size) : Below B a w2 := below_via hb h hB
theorem zL {n k m : Nat} : n ≤ n + k + m := Nat.le_add_right_of_le (Nat.le_add_right _ _)
theorem sA (w : World) (o : Obj) : (w.alloc o).heap.size = w.heap.size + 1 := World.size_alloc w o
theorem sB (w : World) (a : Addr) (v : Value) : (w.setCell a v).heap.size = w.heap.size := World.size_setCell w a v
theorem sC (w : World) : w.drew.heap.size = w.heap.size := rfl
theorem sD (w : World) (n : Nat) : (w.drewN n).heap.size = w.heap.size := rfl
theorem mL {α : Type} {a : α} {l : List α} (r : List α) (h : a ∈ l) : a ∈ l ++ r := List.mem_append_left r h
theorem mR {α : Type} {a : α} (l : List α) : a ∈ l ++ [a] := List.mem_append_right l (List.mem_singleton.2 rfl)
theorem ck {p : Prop} (h : p := by (repeat' first | (with_reducible first | assumption | (apply Ne.symm; assumption) | apply Nat.le_refl | apply Nat.le_add_right | apply zL | apply zRf | apply Wx.box | apply Wx.box4 | apply zWa | apply Wx.drew | apply zWn | apply bx_drew | apply bx_drewN | apply bx_set3 | apply bx_set2 | apply bx_set4 | apply bx_set1) | ((with_reducible apply bx_new); (focus (go_size; done))) | (with_reducible first | apply zOl | apply zFa | apply zDn | apply zDr | apply zAl | apply zSt | refine zVi (by assumption) ?_ ?_) | go_size | omega)) : p := h
theorem bel {p : Prop} (h : p := by (repeat' first | (with_reducible first | apply zRf | assumption | apply zDn | apply zDr | apply zAl | apply zSt | refine zVi (by assumption) ?_ ?_) | go_size)) : p := h
theorem clf {p : Prop} (h : p := by (repeat' first | (with_reducible first | assumption | exact Cal.start (Hid.out (by assumption)) | exact CalE.of (Cal.start (Hid.out (by assumption))) | refine CalE.set ?_ _ | refine CalE.of (CalE.set ?_ _) | refine Cal.alloc ?_ _ | refine CalE.alloc ?_ _ | refine Cal.drew ?_ | refine CalE.drew ?_ | refine Cal.drewN ?_ _ | refine CalE.drewN ?_ _ | refine CalE.go (by assumption) ?_ | refine CalE.via (by assumption) ?_ | refine cal_step (by assumption) ?_ | refine CalE.step (by assumption) ?_ | refine Cal.own ?_ ?_ ?_ _ | refine CalE.own ?_ ?_ ?_ _) | (simp only []; omega) | omega | go_size)) : p := h
theorem cfAt {W w1 : World} (hb : Below W.heap.size W w1) (b : Nat) (h : b < W.heap.size := by go_size) : (∀ o, w1.cell? ⟨b, o, none⟩ = W.cell? ⟨b, o, none⟩) ∧ (∀ o, w1.frozen? ⟨b, o, none⟩ = W.frozen? ⟨b, o, none⟩) := (fun _ => ⟨cellAt hb b h, frozAt hb b h⟩) World.size_drewN'
end
section
open Go.ChangeShapes Go.WideShapes Go.ChangeAt Go.RowKit
set_option linter.unusedVariables false
set_option linter.unusedSimpArgs false

section
variable {H : Type} {enc : TypeId × Value → H} {P : Program} {w : World} {base : Nat} {spare : Nat → Bool} {held : Bool}
theorem open_ii {t : TypeId} {f0 f1 : Field} {fuel : Nat} {cs : List Value} {x : DataW H × List MemPlace} (hs : P.underlying t = some (.struct #[f0, f1])) (h0 : P.underlying f0.type = some (.int .i64)) (h1 : P.underlying f1.type = some (.int .i64))
    (h : DataW.trod enc P w base spare held fuel t cs = some x) (o : f0.offset = 0 ∧ f1.offset = 1) (c : P.cellsOf f0.type = 1 ∧ P.cellsOf f1.type = 1) (hC : P.cellsOf t = 2) :
    ∃ a b : Int, cs = [.int .i64 a, .int .i64 b] ∧ (Lit.int .i64 a).wf = true ∧ (Lit.int .i64 b).wf = true := by
  obtain ⟨xs, n, _, hx, hlen, hxl, hf⟩ := DataW.trod_struct hs h
  rw [hC] at hlen
  match cs, hlen with
  | [u, v], _ =>
    have e0 := hf 0 f0 rfl
    have e1 := hf 1 f1 rfl
    rw [o.1, c.1] at e0
    rw [o.2, c.2] at e1
    have hx0 : xs[0]? = some (xs[0]'(by rw [hxl]; simp)) := List.getElem?_eq_getElem _
    have hx1 : xs[1]? = some (xs[1]'(by rw [hxl]; simp)) := List.getElem?_eq_getElem _
    rw [hx0] at e0
    rw [hx1] at e1
    obtain ⟨a, ha, _, wa⟩ := DataW.trod_int h0 e0
    obtain ⟨b, hb, _, wb⟩ := DataW.trod_int h1 e1
    simp at ha hb
    subst ha hb
    exact ⟨a, b, rfl, wa, wb⟩
theorem agg_of {t : TypeId} {fs : Array Field} {r : Reach} {b0 : Nat} {v : Value} (hs : P.underlying t = some (.struct fs)) (hv : Value.okWide P w r b0 t v) : ∃ cs, v = .agg cs ∧ v.cells.toList = cs.toList := by
  obtain ⟨cs, rfl, _⟩ := okWide_struct hs hv
  exact ⟨cs, rfl, rfl⟩
end
end
section
open Go.ChangeShapes Go.WideShapes Go.ChangeAt Go.RowKit
set_option linter.unusedVariables false
set_option linter.unusedSimpArgs false

section
variable {H : Type} {enc : TypeId × Value → H} {P : Program} {w : World} {base : Nat} {spare : Nat → Bool} {held : Bool}
theorem open_iii {t : TypeId} {f0 f1 f2 : Field} {fuel : Nat} {cs : List Value} {x : DataW H × List MemPlace} (hs : P.underlying t = some (.struct #[f0, f1, f2])) (h0 : P.underlying f0.type = some (.int .i64)) (h1 : P.underlying f1.type = some (.int .i64)) (h2 : P.underlying f2.type = some (.int .i64))
    (h : DataW.trod enc P w base spare held fuel t cs = some x) (o : f0.offset = 0 ∧ f1.offset = 1 ∧ f2.offset = 2) (c : P.cellsOf f0.type = 1 ∧ P.cellsOf f1.type = 1 ∧ P.cellsOf f2.type = 1) (hC : P.cellsOf t = 3) :
    ∃ a0 a1 a2 : Int, cs = [.int .i64 a0, .int .i64 a1, .int .i64 a2] ∧ (Lit.int .i64 a0).wf = true ∧ (Lit.int .i64 a1).wf = true ∧ (Lit.int .i64 a2).wf = true := by
  obtain ⟨xs, n, _, hx, hlen, hxl, hf⟩ := DataW.trod_struct hs h
  rw [hC] at hlen
  obtain ⟨o0, o1, o2⟩ := o
  obtain ⟨c0, c1, c2⟩ := c
  match cs, hlen with
  | [u0, u1, u2], _ =>
    have e0 := hf 0 f0 rfl
    rw [o0, c0] at e0
    have hx0 : xs[0]? = some (xs[0]'(by rw [hxl]; simp)) := List.getElem?_eq_getElem _
    rw [hx0] at e0
    obtain ⟨a0, ha0, _, wa0⟩ := DataW.trod_int h0 e0
    have e1 := hf 1 f1 rfl
    rw [o1, c1] at e1
    have hx1 : xs[1]? = some (xs[1]'(by rw [hxl]; simp)) := List.getElem?_eq_getElem _
    rw [hx1] at e1
    obtain ⟨a1, ha1, _, wa1⟩ := DataW.trod_int h1 e1
    have e2 := hf 2 f2 rfl
    rw [o2, c2] at e2
    have hx2 : xs[2]? = some (xs[2]'(by rw [hxl]; simp)) := List.getElem?_eq_getElem _
    rw [hx2] at e2
    obtain ⟨a2, ha2, _, wa2⟩ := DataW.trod_int h2 e2
    simp at ha0 ha1 ha2
    subst ha0 ha1 ha2
    exact ⟨a0, a1, a2, rfl, wa0, wa1, wa2⟩
end
end
end Go.Proofs.YtnkmgpmehkholaaGreat
