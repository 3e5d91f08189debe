/- Lemmas and contracts of functions. No condition. -/
import Derived.Test.YtbnglnbcfabmgaaPk11
import Derived.Test.YtbnglnbcfabmgaaPk17
namespace Go.Proofs.Ytbnglnbcfabmgaa
open Go.ChangeShapes Go.WideShapes Go.ChangeAt Go.RowKit Go.Deep
set_option linter.unusedVariables false
set_option linter.unusedSimpArgs false
section
variable {H : Type} {enc : TypeId × Value → H} {P : Program} {w : World} {base : Nat} {spare : Nat → Bool} {held : Bool}
theorem open_ints {t e : TypeId} {fuel : Nat} {cs : List Value} {x : DataW H × List MemPlace} (ht : P.underlying t = some (.slice e)) (he : P.underlying e = some (.int .i64)) (hC : P.cellsOf e = 1)
    (h : DataW.trod enc P w base spare held fuel t cs = some x) : ∃ a n c zs, cs = [.slice a n c] ∧ Sx w a n c zs := by
  rcases open_slice ht h with ⟨rfl, _⟩ | ⟨a, len, cap, m, n, D, Pl, hcs, hb, hl, hm, hmm, hx, hi⟩
  · exact ⟨none, 0, 0, [], rfl, Sx.none w⟩
  · subst hcs
    have hc : ∀ j, j < len → ∃ z, w.cell? (a.add j) = some (.int .i64 z) := by
      intro j hj
      obtain ⟨cs', hc, ht'⟩ := hi j (by rw [hmm]; split <;> omega)
      rw [hC, Nat.mul_one] at hc
      obtain ⟨z, rfl, _⟩ := DataW.trod_int he ht'
      obtain ⟨_, _, hat⟩ := World.cells?_some hc
      have := hat 0 (by omega)
      have e0 : (a.add j).add 0 = a.add j := by simp [Addr.add]
      rw [e0] at this
      exact ⟨z, by simpa using this⟩
    refine ⟨some a, len, cap, (List.range len).map (numAt w a), rfl, ⟨by simp, hl, hm, (fun h => by cases h), fun hp => ?_⟩⟩
    have hp' : 0 < len := by simpa using hp
    obtain ⟨b, off, spot⟩ := a
    obtain ⟨z0, hz0⟩ := hc 0 hp'
    have hspot : spot = none := by simpa [Addr.add] using World.cell?_spot hz0
    subst hspot
    have hadd : ∀ j, (Addr.mk b off none).add j = ⟨b, off + j, none⟩ := fun j => by
      by_cases hj : j = 0
      · subst hj; rfl
      · simp [Addr.add, hj]
    refine ⟨b, off, rfl, ?_, fun j hj => ?_⟩
    · rcases Nat.lt_or_ge b w.heap.size with h' | h'
      · exact h'
      · rw [hadd] at hz0
        simp [World.cell?, Array.getElem?_eq_none (by simpa using h')] at hz0
    · have hj' : j < len := by simpa using hj
      obtain ⟨z, hz⟩ := hc j hj'
      have : numAt w ⟨b, off, none⟩ j = z := by unfold numAt; rw [hz]
      rw [List.getD_eq_getElem?_getD, List.getElem?_map, List.getElem?_range hj', Option.map_some, Option.getD_some, this, ← hz, hadd]
end
end Go.Proofs.Ytbnglnbcfabmgaa
