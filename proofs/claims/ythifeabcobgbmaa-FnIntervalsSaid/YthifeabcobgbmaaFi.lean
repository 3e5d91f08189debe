/- FnIntervals: what both sides return, as numbers of which the law's own tests hold. -/
import Derived.Test.YthifeabcobgbmaaIw
import Derived.Test.YthifeabcobgbmaaCy
import Derived.Test.YthifeabcobgbmaaIv3
import Derived.Test.YthifeabcobgbmaaIvS2
import Derived.Test.YthifeabcobgbmaaDivL
import Derived.Test.YthifeabcobgbmaaBy
namespace Go.Proofs.Ythifeabcobgbmaa
open Go.RowKit
set_option linter.unusedVariables false
set_option maxHeartbeats 0
set_option maxRecDepth 20000
set_option linter.unusedSimpArgs false

/-- a call on two intervals returns an interval and a flag -/
def Ret2 (f : FuncId) (x1 x2 x3 x4 y1 y2 y3 y4 r1 r2 r3 r4 : Int) (o : Bool) : Prop := ∀ W : World, Calls Try.prog f #[.agg #[.int .i64 x1, .int .i64 x2, .int .i64 x3, .int .i64 x4], .agg #[.int .i64 y1, .int .i64 y2, .int .i64 y3, .int .i64 y4]] W fun e w' => e = .returned (.tuple #[.agg #[.int .i64 r1, .int .i64 r2, .int .i64 r3, .int .i64 r4], .bool o]) ∧ Below W.heap.size W w'
theorem ret2_of {f : FuncId} {x1 x2 x3 x4 y1 y2 y3 y4 : Int} {g : Bool} {lo hi : Int} (h : ∀ W : World, Calls Try.prog f #[.agg #[.int .i64 x1, .int .i64 x2, .int .i64 x3, .int .i64 x4], .agg #[.int .i64 y1, .int .i64 y2, .int .i64 y3, .int .i64 y4]] W fun e w' => e = .returned (opV g lo hi) ∧ Below W.heap.size W w') :
    Ret2 f x1 x2 x3 x4 y1 y2 y3 y4 (ivN1 g lo hi) (ivD1 g lo hi) (ivN2 g lo hi) (ivD2 g lo hi) (g && validB lo hi) := fun W => (h W).mono fun e w' he => by rw [opV_lit] at he; exact he

theorem iv_setup (n1 d1 n2 d2 n3 d3 n4 d4 : Int) : ∃ (A1 A2 A3 A4 : Int) (oa : Bool) (S1 S2 S3 S4 : Int) (os : Bool) (M1 M2 M3 M4 : Int) (om : Bool) (D1 D2 D3 D4 : Int) (od : Bool) (H1 H2 H3 H4 : Int) (oh : Bool) (C1 C2 C3 C4 : Int) (oc : Bool) (X1 X2 X3 X4 : Int) (ox : Bool),
    Ret2 5 n1 d1 n2 d2 n3 d3 n4 d4 A1 A2 A3 A4 oa ∧
    Ret2 6 n1 d1 n2 d2 n3 d3 n4 d4 A1 A2 A3 A4 oa ∧
    Ret2 7 n1 d1 n2 d2 n3 d3 n4 d4 S1 S2 S3 S4 os ∧
    Ret2 8 n1 d1 n2 d2 n3 d3 n4 d4 S1 S2 S3 S4 os ∧
    Ret2 9 n1 d1 n2 d2 n3 d3 n4 d4 M1 M2 M3 M4 om ∧
    Ret2 10 n1 d1 n2 d2 n3 d3 n4 d4 M1 M2 M3 M4 om ∧
    Ret2 11 n1 d1 n2 d2 n3 d3 n4 d4 D1 D2 D3 D4 od ∧
    Ret2 12 n1 d1 n2 d2 n3 d3 n4 d4 D1 D2 D3 D4 od ∧
    Ret2 13 n1 d1 n2 d2 n3 d3 n4 d4 H1 H2 H3 H4 oh ∧
    Ret2 14 n1 d1 n2 d2 n3 d3 n4 d4 H1 H2 H3 H4 oh ∧
    Ret2 15 n1 d1 n2 d2 n3 d3 n4 d4 C1 C2 C3 C4 oc ∧
    Ret2 16 n1 d1 n2 d2 n3 d3 n4 d4 C1 C2 C3 C4 oc ∧
    Ret2 5 S1 S2 S3 S4 n3 d3 n4 d4 X1 X2 X3 X4 ox ∧
    Ret2 9 n3 d3 n4 d4 n1 d1 n2 d2 M1 M2 M3 M4 om ∧
    (∀ x y u v, End n1 d1 n2 d2 x y → End n3 d3 n4 d4 u v → (oa && (twoF suF x y u v).2.2 && !(qiB A1 A2 A3 A4 (twoF suF x y u v).1 (twoF suF x y u v).2.1)) = false) ∧
    (∀ x y u v, End n1 d1 n2 d2 x y → End n3 d3 n4 d4 u v → (om && (twoF prF x y u v).2.2 && !(qiB M1 M2 M3 M4 (twoF prF x y u v).1 (twoF prF x y u v).2.1)) = false) ∧
    (∀ x y u v, End n1 d1 n2 d2 x y → End n3 d3 n4 d4 u v → (od && (twoF quF x y u v).2.2 && !(qiB D1 D2 D3 D4 (twoF quF x y u v).1 (twoF quF x y u v).2.1)) = false) ∧
    (oh = true → ∀ x y, End n1 d1 n2 d2 x y ∨ End n3 d3 n4 d4 x y → qiB H1 H2 H3 H4 x y = true) ∧
    (oc = true → qiB n1 d1 n2 d2 C1 C2 = true ∧ qiB n3 d3 n4 d4 C1 C2 = true ∧ qiB n1 d1 n2 d2 C3 C4 = true ∧ qiB n3 d3 n4 d4 C3 C4 = true) ∧
    (os = true → ox = true → qlB n1 d1 X1 X2 = false ∧ qlB X3 X4 n2 d2 = false) ∧
    (oa = true → goodB A1 A2 A3 A4 = true) := by
  refine ⟨_, _, _, _, _, _, _, _, _, _, _, _, _, _, _, _, _, _, _, _, _, _, _, _, _, _, _, _, _, _, _, _, _, _, _,
    ret2_of (AddIntervals_any n1 d1 n2 d2 n3 d3 n4 d4), ret2_of (sAddIntervals_any n1 d1 n2 d2 n3 d3 n4 d4), ret2_of (SubtractIntervals_any n1 d1 n2 d2 n3 d3 n4 d4), ret2_of (sSubtractIntervals_any n1 d1 n2 d2 n3 d3 n4 d4), ret2_of (MultiplyIntervals_any n1 d1 n2 d2 n3 d3 n4 d4), ret2_of (sMultiplyIntervals_any n1 d1 n2 d2 n3 d3 n4 d4), ret2_of (DivideIntervals_any n1 d1 n2 d2 n3 d3 n4 d4), ret2_of (sDivideIntervals_any n1 d1 n2 d2 n3 d3 n4 d4), ret2_of (HullOf_any n1 d1 n2 d2 n3 d3 n4 d4), ret2_of (sHullOf_any n1 d1 n2 d2 n3 d3 n4 d4), ret2_of (CommonPart_any n1 d1 n2 d2 n3 d3 n4 d4), ret2_of (sCommonPart_any n1 d1 n2 d2 n3 d3 n4 d4), ret2_of (AddIntervals_any _ _ _ _ n3 d3 n4 d4), ?_, fun x y u v hx hy => ?_, fun x y u v hx hy => ?_, fun x y u v hx hy => ?_, fun h x y hx => ?_, fun h => com_fact h, fun h1 h2 => back_fact rfl rfl rfl rfl h1 h2, fun h => is_fact h⟩
  · have h := ret2_of (MultiplyIntervals_any n3 d3 n4 d4 n1 d1 n2 d2)
    rw [Bool.and_comm (goodB n3 d3 n4 d4), (mulLo_comm _ _ _ _).1, (mulLo_comm _ _ _ _).2] at h
    exact h
  · rcases h1 : (twoF suF x y u v).2.2 with _ | _
    · simp
    · rcases h2 : (goodB n1 d1 n2 d2 && goodB n3 d3 n4 d4 && validB (plN n1 d1 + plN n3 d3) (plN n2 d2 + plN n4 d4)) with _ | _
      · simp
      · rw [sum_fact hx hy h2 h1]; rfl
  · rcases h1 : (twoF prF x y u v).2.2 with _ | _
    · simp
    · rcases h2 : (goodB n1 d1 n2 d2 && goodB n3 d3 n4 d4 && validB (mulLo (plN n1 d1) (plN n2 d2) (plN n3 d3) (plN n4 d4)) (mulHi (plN n1 d1) (plN n2 d2) (plN n3 d3) (plN n4 d4))) with _ | _
      · simp
      · rw [prod_fact rfl rfl hx hy h2 h1]; rfl
  · rcases h1 : (twoF quF x y u v).2.2 with _ | _
    · simp
    · rcases h2 : (divB n1 d1 n2 d2 n3 d3 n4 d4 && validB (divLo (plN n1 d1) (plN n2 d2) (plN n3 d3) (plN n4 d4)) (divHi (plN n1 d1) (plN n2 d2) (plN n3 d3) (plN n4 d4))) with _ | _
      · simp
      · rw [quo_fact hx hy h2 h1]; rfl
  · refine in_fact (fun hg => ?_) h
    obtain ⟨g1, g2⟩ : goodB n1 d1 n2 d2 = true ∧ goodB n3 d3 n4 d4 = true := by simpa using hg
    rcases hx with hx | hx
    · have e := hx.place g1
      exact ⟨e.1, e.2.1, by omega, by omega⟩
    · have e := hx.place g2
      exact ⟨e.1, e.2.1, by omega, by omega⟩

theorem eqFr_at (d : Nat) (a b : Int) (w : World) : (Op.equalIn (d + 1 + 1) 24 (.agg #[.int .i64 a, .int .i64 b]) (.agg #[.int .i64 a, .int .i64 b])).run Try.prog w = .ok true w := by
  have u3 := Try.underlying3
  have hS : Try.prog.underlying 24 = some (.struct (Try.prog.fieldsOf 24)) := by kernel_rfl
  have hp : Try.prog.stoodInHeld 24 = false := by kernel_rfl
  rw [run_equalIn_agg w (d + 1) 24 _ _ hS hp]
  simp only [Program.fieldsOf, Try.underlying24]
  go_simp
theorem eqIv_at (d : Nat) (a b c e : Int) (w : World) : (Op.equalIn (d + 1 + 1 + 1) 26 (.agg #[.int .i64 a, .int .i64 b, .int .i64 c, .int .i64 e]) (.agg #[.int .i64 a, .int .i64 b, .int .i64 c, .int .i64 e])).run Try.prog w = .ok true w := by
  have hS : Try.prog.underlying 26 = some (.struct (Try.prog.fieldsOf 26)) := by kernel_rfl
  have hp : Try.prog.stoodInHeld 26 = false := by kernel_rfl
  have h1 := fun w => eqFr_at d a b w
  have h2 := fun w => eqFr_at d c e w
  rw [run_equalIn_agg w (d + 1 + 1) 26 _ _ hS hp]
  simp only [Program.fieldsOf, Try.underlying26]
  go_simp
theorem neqIv_same (a b c d : Int) (w : World) : (binOp .neq 26 (.agg #[.int .i64 a, .int .i64 b, .int .i64 c, .int .i64 d]) (.agg #[.int .i64 a, .int .i64 b, .int .i64 c, .int .i64 d])).run Try.prog w = .ok (.bool false) w := by
  rw [run_neq_struct, show (10000 : Nat) = 9997 + 1 + 1 + 1 from rfl, eqIv_at]
  rfl
end Go.Proofs.Ythifeabcobgbmaa
