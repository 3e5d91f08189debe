/- Arguments that are slices of bytes, opened. -/
import Derived.Test.YtnemnkbcbokafaaOpen
import Derived.Test.YtnemnkbcbokafaaCuA
import Derived.Deep.Slices
namespace Go.Proofs.Ytnemnkbcbokafaa
open Go.ChangeShapes Go.WideShapes Go.ChangeAt Go.RowKit Go.Deep
set_option linter.unusedVariables false
set_option linter.unusedSimpArgs false
section
variable {H : Type} {enc : TypeId × Value → H} {P : Program} {w : World} {base : Nat} {spare : Nat → Bool} {held : Bool}
theorem open_bytes {t e : TypeId} {fuel : Nat} {cs : List Value} {x : DataW H × List MemPlace} (ht : P.underlying t = some (.slice e)) (he : P.underlying e = some (.int .u8)) (hC : P.cellsOf e = 1)
    (h : DataW.trod enc P w base spare held fuel t cs = some x) : ∃ a n c, cs = [.slice a n c] ∧ ByW w a n := by
  rcases open_slice ht h with ⟨rfl, _⟩ | ⟨a, len, cap, m, n, D, Pl, hcs, hb, hl, hm, hmm, hx, hi⟩
  · exact ⟨none, 0, 0, rfl, fun h => absurd h (by omega), Nat.zero_le _⟩
  · subst hcs
    have hc : ∀ j, j < len → ∃ z : Int, w.cell? (a.add j) = some (.int .u8 z) ∧ 0 ≤ z ∧ z ≤ 255 := by
      intro j hj
      obtain ⟨cs', hc, ht'⟩ := hi j (by rw [hmm]; split <;> omega)
      rw [hC, Nat.mul_one] at hc
      obtain ⟨z, rfl, _, hw⟩ := DataW.trod_int he ht'
      obtain ⟨_, _, hat⟩ := World.cells?_some hc
      have := hat 0 (by omega)
      have e0 : (a.add j).add 0 = a.add j := by simp [Addr.add]
      rw [e0] at this
      simp [Lit.wf, IntKind.min, IntKind.max, IntKind.signed, IntKind.bits] at hw
      exact ⟨z, by simpa using this, by omega, by omega⟩
    refine ⟨some a, len, cap, rfl, fun hp => ?_, Nat.le_trans hl hm⟩
    obtain ⟨b, off, spot⟩ := a
    obtain ⟨z0, hz0, _⟩ := hc 0 hp
    have hspot : spot = none := by simpa [Addr.add] using World.cell?_spot hz0
    subst hspot
    have hadd : ∀ j, (Addr.mk b off none).add j = ⟨b, off + j, none⟩ := fun j => by
      by_cases hj : j = 0
      · subst hj; rfl
      · simp [Addr.add, hj]
    refine ⟨b, off, rfl, ?_, fun j hj => ?_⟩
    · rcases Nat.lt_or_ge b w.heap.size with h' | h'
      · exact h'
      · rw [hadd] at hz0
        simp [World.cell?, Array.getElem?_eq_none (by simpa using h')] at hz0
    · obtain ⟨z, hz, h1, h2⟩ := hc j hj
      rw [hadd] at hz
      exact ⟨z, hz, h1, h2⟩
end
end Go.Proofs.Ytnemnkbcbokafaa
