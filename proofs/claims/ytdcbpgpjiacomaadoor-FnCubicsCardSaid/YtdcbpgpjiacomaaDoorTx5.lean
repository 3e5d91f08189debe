/- Texts of points and of certificates: plain words. -/
import Derived.Test.YtdcbpgpjiacomaaDoorTx4
import Derived.Test.YtdcbpgpjiacomaaDoorCert2
namespace Go.Proofs.YtdcbpgpjiacomaaDoor
open Go.RowKit
set_option linter.unusedVariables false
set_option maxRecDepth 8000
set_option linter.unusedSimpArgs false

def ptK (zs : List Int) (j : Nat) : List UInt8 := ptT (zs[j * 3]?.getD 0) (zs[j * 3 + 1]?.getD 0) (zs[j * 3 + 2]?.getD 0)
def ptL (zs : List Int) (k : Nat) : List (List UInt8) := (List.range k).map (ptK zs)
def nmT (A B : Int) : List UInt8 := Lib.itoa A ++ [32] ++ Lib.itoa B
def idS (A B : Int) (zs : List Int) (k : Nat) : List UInt8 := nmT A B ++ ((ptL zs k).map ([32] ++ ·)).flatten
def ceT (A B : Int) (zs : List Int) (ln : Nat) (n d : Int) : List UInt8 := idS A B zs ln ++ [32] ++ frT n d
theorem ptL_next (zs : List Int) (k : Nat) : ptL zs (k + 1) = ptL zs k ++ [ptK zs k] := by simp [ptL, List.range_succ]
theorem ptL_len (zs : List Int) (k : Nat) : (ptL zs k).length = k := by simp [ptL]
theorem idS_next (A B : Int) (zs : List Int) (k : Nat) : idS A B zs (k + 1) = idS A B zs k ++ ([32] ++ ptK zs k) := by
  unfold idS; rw [ptL_next]; simp
theorem join_ce (A B : Int) (zs : List Int) (ln : Nat) (n d : Int) : Lib.join (nmT A B :: (ptL zs ln ++ [frT n d])) [32] = ceT A B zs ln n d := by
  rw [Lib.join_cons]
  simp [Lib.joinTail, ceT, idS]
/-- what is known of a valid point's numbers -/
theorem pt_text {A B x y e : Int} (hc : cvB A B = true) (h : ptB A B x y e = true) : (e = 0 ∨ 1 ≤ e ∧ e ≤ 20) ∧ -10000 ≤ x ∧ x ≤ 10000 ∧ -9000000 ≤ y ∧ y ≤ 9000000 := by
  simp only [cvB, Bool.and_eq_true, inB_iff] at hc
  unfold ptB at h
  split at h
  · simp at h; omega
  · simp only [Bool.and_eq_true, inB_iff, decide_eq_true_eq] at h
    obtain ⟨hx, he, _, hy⟩ := h
    have h3 := evV_bd (A := A) (B := B) (x := x) (e := e) hc.1 hc.2.1 hx (by omega)
    have h4 := root_bd hy h3.2
    omega
theorem ptT_len {x y e : Int} (he : e = 0 ∨ 1 ≤ e ∧ e ≤ 20) (hx : -10000 ≤ x ∧ x ≤ 10000) (hy : -9000000 ≤ y ∧ y ≤ 9000000) : (ptT x y e).length ≤ 100 := by
  have m1 := mul_bd (a := e) (b := e) (A := 20) (B := 20) (by omega) (by omega)
  have m2 := mul_bd (a := e * e) (b := e) (A := 400) (B := 20) (by omega) (by omega)
  have a := frT_len x (e * e) (by omega) (by omega)
  have b := frT_len y (e * e * e) (by omega) (by omega)
  unfold ptT
  split <;> simp <;> omega
end Go.Proofs.YtdcbpgpjiacomaaDoor
