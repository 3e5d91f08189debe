/- Lemmas and contracts of functions. No condition. -/
import Derived.Test.YtnemnkbcbokafaaGreatPk10
import Derived.Test.YtnemnkbcbokafaaGreatPk20
namespace Go.Proofs.YtnemnkbcbokafaaGreat
open Go.RowKit
set_option linter.unusedVariables false
set_option maxHeartbeats 1000000
set_option maxRecDepth 20000
set_option linter.unusedSimpArgs false
attribute [local go_sem] openAt openUpon
def cmpI (x y : Int) : Int := if x < y then -1 else if y < x then 1 else 0
theorem cmp_lt {x y : Int} (h : x < y) : cmpI x y = -1 := by simp [cmpI, h]
theorem cmp_gt {x y : Int} (h : y < x) : cmpI x y = 1 := by simp [cmpI, h]; omega
theorem cmp_eq {x y : Int} (h : x = y) : cmpI x y = 0 := by subst h; simp [cmpI]
/-- a contract whose value is a slice of digits of the number V -/
def NewD (w : World) (V : Int) (m : Nat) (e : Ending) (w' : World) : Prop := ∃ a n c zs, e = .returned (.slice a n c) ∧ Sx w' a n c zs ∧ Dig zs ∧ val zs = V ∧ n ≤ m ∧ Fr w.heap.size a ∧ Below w.heap.size w w'
def openD (B : Nat) (V : Int) (m : Nat) : St where
 ok v W := ∃ a n c zs, v = .slice a n c ∧ Sx W a n c zs ∧ Dig zs ∧ val zs = V ∧ n ≤ m ∧ Fr B a
 keep v W W2 h hb := by
  obtain ⟨a, n, c, zs, h1, h2, h3⟩ := h
  exact ⟨a, n, c, zs, h1, h2.below hb, h3⟩
def openW (B : Nat) (z : Int) : St where
 ok v W := ∃ b a n c, v = .agg #[.bool b, .slice a n c] ∧ Wx W b a n c z ∧ Fr B a
 keep v W W2 h hb := by
  obtain ⟨b, a, n, c, h1, h2, h3⟩ := h
  exact ⟨b, a, n, c, h1, h2.below hb, h3⟩
theorem open_D {P : Program} {f : FuncId} {args : Array Value} {W : World} {V : Int} {m B : Nat} (h : Calls P f args W (NewD W V m)) (hB : B ≤ W.heap.size) : Calls P f args W fun e w' => ∃ v, e = .returned v ∧ (openD B V m).ok v w' ∧ Below W.heap.size W w' :=
 h.mono fun e w' ⟨a, n, c, zs, h1, h2, h3, h4, h5, h6, h7⟩ => ⟨_, h1, ⟨a, n, c, zs, rfl, h2, h3, h4, h5, h6.mono hB⟩, h7⟩
theorem open_W {P : Program} {f : FuncId} {args : Array Value} {W : World} {z : Int} {B : Nat} (h : Calls P f args W (NewW W z)) (hB : B ≤ W.heap.size) : Calls P f args W fun e w' => ∃ v, e = .returned v ∧ (openW B z).ok v w' ∧ Below W.heap.size W w' :=
 h.mono fun e w' ⟨b, a, n, c, h1, h2, h3, h4⟩ => ⟨_, h1, ⟨b, a, n, c, rfl, h2, h3.mono hB⟩, h4⟩
theorem Wx.ln {W : World} {b : Bool} {a : Option Addr} {n c : Nat} {z : Int} (h : Wx W b a n c z) : n = ln z := h.row.len.symm
end Go.Proofs.YtnemnkbcbokafaaGreat
