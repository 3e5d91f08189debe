/- A region that draws its order and lays and fills two new blocks. -/
import Derived.Test.YtnkdgcjegjccbaaDrawn
namespace Go.Proofs.Ytnkdgcjegjccbaa
open Go.RowKit
set_option linter.unusedVariables false
set_option linter.unusedSimpArgs false
theorem wp_drawn_fill2 {P : Program} {id n : Nat} {Q : Exit → Act → World → Prop} {w : World} {a : Act} {l : List Oper} (d s d' s' : Tmp) (T T' : TypeId) (cs cs' : Array Value) (hm : P.follows .mixedOrders = true)
    (hB : drawnB .any l.toArray (n + 4) = true) (hD : dstB l.toArray (n + 4) a.tmps.size = true)
    (hal : ∃ o, l[n]? = some o ∧ o.dst = some d ∧ o.guard = none ∧ ∀ (ρ : Operand → Value) (W : World), (execOp ρ o).run P W = .ok (.value (.pointer (some ⟨W.heap.size, 0, none⟩))) (W.alloc (.cells cs T)))
    (hal' : ∃ o, l[n + 1]? = some o ∧ o.dst = some d' ∧ o.guard = none ∧ ∀ (ρ : Operand → Value) (W : World), (execOp ρ o).run P W = .ok (.value (.pointer (some ⟨W.heap.size, 0, none⟩))) (W.alloc (.cells cs' T')))
    (hst : ∃ o, l[n + 2]? = some o ∧ o.dst = none ∧ o.guard = none ∧ o.op = .store T (.tmp d) (.tmp s))
    (hst' : ∃ o, l[n + 3]? = some o ∧ o.dst = none ∧ o.guard = none ∧ o.op = .store T' (.tmp d') (.tmp s'))
    (hwt : Region.waitsFor .any l.toArray (n + 2) n = true) (hwt' : Region.waitsFor .any l.toArray (n + 3) (n + 1) = true)
    (hsr : ((l.take n).any fun o => o.dst == some s) = true) (hsr' : ((l.take n).any fun o => o.dst == some s') = true) (hi : (P.info? T).map (·.size) = some cs.size) (hi' : (P.info? T').map (·.size) = some cs'.size)
    (h : ∃ F : Act, (∀ W, Below w.heap.size w W → wpQuiet P l.toArray (fun W2 => ∃ x : Over W, W2 = x.w) (fun b => b = F) (l.take n) a) ∧
      ∃ vs vs' : Array Value, (F.tmps[s]? = some (.agg vs) ∧ vs.size = cs.size ∧ vs.all (·.oneCell') = true) ∧ (F.tmps[s']? = some (.agg vs') ∧ vs'.size = cs'.size ∧ vs'.all (·.oneCell') = true) ∧
      (∀ g g' W, Below w.heap.size w W → w.heap.size ≤ g → w.heap.size ≤ g' → g ≠ g' → W.heap[g]? = some (.cells vs T) → W.heap[g']? = some (.cells vs' T') →
        wpList P l.toArray Q (l.drop (n + 4)) ((F.put (some d) (.pointer (some ⟨g, 0, none⟩))).put (some d') (.pointer (some ⟨g', 0, none⟩))) W)) :
    (Code.region id l.toArray true).wp P Q a w := by
  obtain ⟨F, h1, vs, vs', ⟨hF, hvs, hone⟩, ⟨hF', hvs', hone'⟩, h2⟩ := h
  have hc : ∀ W : World, (fun W2 => ∃ x : Over W, W2 = x.w) = (fun W2 => Below W.heap.size W W2) := fun W => funext fun W2 => propext ⟨fun ⟨x, hx⟩ => hx ▸ x.lies, fun h => ⟨⟨W2, h⟩, rfl⟩⟩
  refine wp_region_any hm ?_
  have hms : n + 4 < l.toArray.size := by
    simp only [drawnB, Bool.and_eq_true, decide_eq_true_eq] at hB
    exact hB.1.1.1.1.2
  have src : ∀ {t : Tmp}, ((l.take n).any fun o => o.dst == some t) = true → ∃ j oj, j < n ∧ l.toArray[j]? = some oj ∧ oj.dst = some t := fun {t} ht => by
    obtain ⟨oj, hoj, hjd⟩ := List.any_eq_true.1 ht
    obtain ⟨j, hj, hje⟩ := List.getElem_of_mem hoj
    have hjn : j < n := by simp at hj; omega
    have hoj' : l[j]? = some oj := by
      rw [← hje, List.getElem_take]
      exact List.getElem?_eq_getElem _
    exact ⟨j, oj, hjn, by simpa using hoj', by simpa using hjd⟩
  obtain ⟨os, hos, hsd, hsg, hso⟩ := hst
  obtain ⟨os', hos', hsd', hsg', hso'⟩ := hst'
  have := drawn_many (P := P) (ops := l.toArray) (md := .any) (Q := Q) (n := n) (p := 2) (m := n + 4) (N := fun q => if q = 0 then ⟨d, T, cs, s, .agg vs, vs⟩ else ⟨d', T', cs', s', .agg vs', vs'⟩) (w := w) (a0 := a) (F := F) rfl hB hD
    (fun q hq => by
      obtain rfl | rfl : q = 0 ∨ q = 1 := by omega
      · simpa using hal
      · simpa using hal')
    (fun q hq => by
      obtain rfl | rfl : q = 0 ∨ q = 1 := by omega
      · refine ⟨os, by simpa using hos, hsd, hsg, by simp [Oper.looksAt, hso, Op.operands], by simp [Oper.looksAt, hso, Op.operands], by simpa using hwt, by simpa using hF, by simpa using src hsr, ?_⟩
        intro a W g K Q hd hs hb hk
        exact store_fills hso (by rw [hi, hvs]) hvs hone a W g K Q hd hs hb hk
      · refine ⟨os', by simpa using hos', hsd', hsg', by simp [Oper.looksAt, hso', Op.operands], by simp [Oper.looksAt, hso', Op.operands], by simpa using hwt', by simpa using hF', by simpa using src hsr', ?_⟩
        intro a W g K Q hd hs hb hk
        exact store_fills hso' (by rw [hi', hvs']) hvs' hone' a W g K Q hd hs hb hk)
    (fun W hW => by have := h1 W hW; rw [hc] at this; simpa using this)
    (fun g W hW hg hne => by
      have h0 := hg 0 (by omega)
      have h3 := hg 1 (by omega)
      simpa [putsM] using h2 (g 0) (g 1) W hW h0.1 h3.1 (hne 0 1 (by omega) (by omega) (by omega)) h0.2 h3.2) (n + 4) (Array.replicate l.toArray.size false) a w.drew (fun _ => 0) (cnt_all _ _)
    { inv := ⟨by simp, fun j oj _ hl => (by rw [getD_replicate_false] at hl; cases hl), fun t _ ht => getD_in (by simpa using ht) (getD_replicate_false _ _)⟩
      defs := rfl, size := rfl
      on := fun i o t _ hl => by rw [getD_replicate_false] at hl; cases hl
      off := fun _ _ => rfl
      below := (Below.refl _ _).drew
      laid := fun q _ hl => by rw [getD_replicate_false] at hl; cases hl
      apart := fun q r _ _ _ hl => by rw [getD_replicate_false] at hl; cases hl }
  rwa [show n + 4 + (l.toArray.size - (n + 4)) = l.toArray.size by omega] at this
end Go.Proofs.Ytnkdgcjegjccbaa
