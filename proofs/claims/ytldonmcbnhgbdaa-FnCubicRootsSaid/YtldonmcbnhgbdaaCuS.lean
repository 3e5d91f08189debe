/- Rows of fractions in memory, and slices.SortFunc at them. -/
import Derived.Test.YtldonmcbnhgbdaaCuI
import Derived.Test.YtldonmcbnhgbdaaCu2
import Derived.Test.YtldonmcbnhgbdaaSl
import Derived.Test.YtldonmcbnhgbdaaLayF
namespace Go.Proofs.Ytldonmcbnhgbdaa
open Go.RowKit
set_option linter.unusedVariables false
set_option maxHeartbeats 4000000
set_option maxRecDepth 20000
set_option linter.unusedSimpArgs false
/-- the cells of block g from 0 on hold the fractions l, none of them frozen -/
def RowQ (W : World) (g : Nat) (l : List Fr2) : Prop := g < W.heap.size ∧ ∀ j, j < l.length → W.cell? ⟨g, j * 2, none⟩ = some (.int .i64 (l[j]?.getD (0, 1)).1) ∧ W.cell? ⟨g, j * 2 + 1, none⟩ = some (.int .i64 (l[j]?.getD (0, 1)).2) ∧ W.frozen? ⟨g, j * 2, none⟩ = false ∧ W.frozen? ⟨g, j * 2 + 1, none⟩ = false
def FxP (x : Fr2) : Prop := 1 ≤ x.2 ∧ x.2 ≤ 1000000 ∧ -1000000 ≤ x.1 ∧ x.1 ≤ 1000000
abbrev Fx := {x : Fr2 // FxP x}
instance : Inhabited Fx := ⟨⟨(0, 1), by unfold FxP; decide⟩⟩
def encF (x : Fx) : List Value := [.int .i64 x.1.1, .int .i64 x.1.2]
def cfF (x y : Fx) : Int := Lib.compareInt (x.1.1 * y.1.2) (y.1.1 * x.1.2)
theorem ltOfF (x y : Fx) : ltOf cfF x y = decide (ltF x.1 y.1) := by
  unfold ltOf cfF Lib.compareInt ltF
  by_cases h1 : x.1.1 * y.1.2 < y.1.1 * x.1.2
  · simp [h1]
  · by_cases h2 : y.1.1 * x.1.2 < x.1.1 * y.1.2 <;> simp [h1, h2]
theorem leF_trans {x y z : Fr2} (hx : 1 ≤ x.2) (hy : 1 ≤ y.2) (hz : 1 ≤ z.2) (h1 : ¬ ltF x y) (h2 : ¬ ltF y z) : ¬ ltF x z := by
  unfold ltF at *
  intro h3
  have e1 := Int.mul_le_mul_of_nonneg_right (Int.not_lt.1 h1) (show 0 ≤ z.2 by omega)
  have e2 := Int.mul_le_mul_of_nonneg_right (Int.not_lt.1 h2) (show 0 ≤ x.2 by omega)
  have e3 := Int.mul_lt_mul_of_pos_right h3 (show 0 < y.2 by omega)
  have q1 : x.1 * y.2 * z.2 = x.1 * z.2 * y.2 := by rw [Int.mul_assoc, Int.mul_comm y.2, ← Int.mul_assoc]
  have q2 : y.1 * x.2 * z.2 = y.1 * z.2 * x.2 := by rw [Int.mul_assoc, Int.mul_comm x.2, ← Int.mul_assoc]
  have q3 : z.1 * y.2 * x.2 = z.1 * x.2 * y.2 := by rw [Int.mul_assoc, Int.mul_comm y.2, ← Int.mul_assoc]
  omega
theorem swoF : Go.Sort.SWO (ltOf cfF) where
  irrefl x := by rw [ltOfF]; simp [ltF]
  trans x y z h1 h2 := by
    rw [ltOfF] at *
    simp only [decide_eq_true_eq] at *
    exact ltF_trans x.2.1 y.2.1 z.2.1 h1 h2
  ntrans x y z h1 h2 := by
    rw [ltOfF] at *
    simp only [decide_eq_false_iff_not] at *
    exact leF_trans x.2.1 y.2.1 z.2.1 h1 h2
theorem cmpF_any (x y : Fx) (W : World) : Calls Try.prog 49 #[.agg #[.int .i64 x.1.1, .int .i64 x.1.2], .agg #[.int .i64 y.1.1, .int .i64 y.1.2]] W fun e w' => e = .returned (.int .i64 (cfF x y)) ∧ ∃ q os', w' = Go.Sort.grow (W.drewN q) os' := by
  obtain ⟨⟨n1, d1⟩, h1⟩ := x
  obtain ⟨⟨n2, d2⟩, h2⟩ := y
  unfold cfF
  unfold FxP at h1 h2
  simp only at h1 h2 ⊢
  have m1 := mul_bd (a := n1) (b := d2) (A := 1000000) (B := 1000000) (by omega) (by omega)
  have m2 := mul_bd (a := n2) (b := d1) (A := 1000000) (B := 1000000) (by omega) (by omega)
  go_enter Try.func49, Try.ntmps49
  go_wp2_with (first | (go_at_call 45; refine (cmpInt_any _ _ _).mono ?_; rintro e w' ⟨rfl, rfl⟩))
  go_ret
  exact ⟨rfl, 0, _, by rw [Go.Sort.alloc_eq_grow, Go.Sort.alloc_eq_grow, Go.Sort.grow_grow]; rfl⟩
theorem far_rowF {W : World} {g o n : Nat} {d : Array Value} {os : Array Obj} {B : Nat} (hg : g < W.heap.size) (hB : B ≤ g) : Below B W (Go.Sort.grow (Go.Sort.putRow id (Go.Sort.ahead W n) g o d) os) := by
  have hs : (Go.Sort.putRow id (Go.Sort.ahead W n) g o d).heap.size = W.heap.size := by simp [Go.Sort.putRow, Go.Sort.mapBlock, Go.Sort.ahead]
  refine ⟨rfl, rfl, rfl, ?_, fun k hk => ?_⟩
  · show W.heap.size ≤ ((Go.Sort.putRow id (Go.Sort.ahead W n) g o d).heap ++ os).size
    rw [Array.size_append, hs]; omega
  · rw [Go.Sort.heap_grow_old _ _ (by rw [hs]; omega)]
    simp only [Go.Sort.putRow, Go.Sort.mapBlock, Go.Sort.ahead, Array.getElem?_modify]
    rw [if_neg (by omega)]
theorem encF_at (x : Fx) : (encF x)[0]! = .int .i64 x.1.1 ∧ (encF x)[1]! = .int .i64 x.1.2 := ⟨rfl, rfl⟩
theorem flatF_at (d : Array Fx) {j : Nat} (h : j < d.size) : (Go.Sort.flatK encF 2 d)[j * 2]! = .int .i64 d[j]!.1.1 ∧ (Go.Sort.flatK encF 2 d)[j * 2 + 1]! = .int .i64 d[j]!.1.2 := by
  refine ⟨?_, ?_⟩
  · rw [Go.Sort.get_flatK _ _ _ _ (by omega), show j * 2 / 2 = j by omega, show j * 2 % 2 = 0 by omega]; rfl
  · rw [Go.Sort.get_flatK _ _ _ _ (by omega), show (j * 2 + 1) / 2 = j by omega, show (j * 2 + 1) % 2 = 1 by omega]; rfl
theorem at_val (d : Array Fx) {j : Nat} (h : j < d.size) : ((d.toList.map Subtype.val)[j]?.getD (0, 1)) = d[j]!.1 := by
  rw [getElem!_pos _ j h, List.getElem?_map, List.getElem?_eq_getElem (by simpa using h)]
  simp
theorem holdsF {W : World} {g : Nat} {d : Array Fx} (h : RowQ W g (d.toList.map Subtype.val)) : Go.Sort.HoldsK encF 2 W g 0 d := by
  intro j hj
  rw [Go.Sort.size_flatK] at hj
  have hj2 : j / 2 < d.size := by omega
  obtain ⟨c1, c2, f1, f2⟩ := h.2 (j / 2) (by simpa using hj2)
  obtain ⟨e1, e2⟩ := flatF_at d hj2
  rw [at_val d hj2] at c1 c2
  rw [Nat.zero_add]
  rcases Nat.mod_two_eq_zero_or_one j with q | q
  · have e : j / 2 * 2 = j := by omega
    rw [e] at c1 e1 f1
    exact ⟨by rw [c1, e1]; rfl, f1⟩
  · have e : j / 2 * 2 + 1 = j := by omega
    rw [e] at c2 e2 f2
    exact ⟨by rw [c2, e2]; rfl, f2⟩
theorem rowF {W : World} {g : Nat} {d : Array Fx} (hg : g < W.heap.size) (h : Go.Sort.HoldsK encF 2 W g 0 d) : RowQ W g (d.toList.map Subtype.val) := by
  refine ⟨hg, fun j hj => ?_⟩
  have hj2 : j < d.size := by simpa using hj
  obtain ⟨e1, e2⟩ := flatF_at d hj2
  have h1 := h (j * 2) (by rw [Go.Sort.size_flatK]; omega)
  have h2 := h (j * 2 + 1) (by rw [Go.Sort.size_flatK]; omega)
  rw [Nat.zero_add] at h1 h2
  rw [at_val d hj2]
  rw [e1] at h1
  rw [e2] at h2
  exact ⟨h1.1, h2.1, h1.2, h2.2⟩
theorem sortF_any (g c : Nat) (l : List Fr2) (hb : ∀ x ∈ l, FxP x) (B : Nat) (W : World) (h : RowQ W g l) (hB : B ≤ g) (hl : l.length ≤ 4000000) : Calls Try.prog 48 #[.slice (some ⟨g, 0, none⟩) l.length c, .func (.func 49) #[] #[]] W fun e w' =>
    e = .returned (.tuple #[]) ∧ ∃ l', l'.Perm l ∧ (l'.Pairwise fun x y => ¬ ltF y x) ∧ RowQ w' g l' ∧ Below B W w' := by
  obtain ⟨d, hd⟩ : ∃ d : Array Fx, d.toList.map Subtype.val = l := ⟨(l.attachWith FxP hb).toArray, by
    rw [List.toList_toArray]
    exact (List.attachWith_map_val (f := id) (fun x hx => hb x hx)).trans (List.map_id l)⟩
  subst hd
  have hg := h.1
  have hH := holdsF h
  have eg : ∀ args w, (callFunc 49 args).run Try.prog w = .ok (.enter 49 args) w := enters_of Try.func49 (by kernel_rfl) rfl
  have hcmp : CmpLays Try.prog 49 #[] encF 2 cfF g 0 d.size W := fun _ _ _ _ x y => cmpF_any x y _
  have hcon := AnyQ.slices_SortFunc Try.sortFI 2 (fun w => by rfl) (fun w => by rfl) encF (fun _ => rfl) (fun x v hv => by simp [encF] at hv; rcases hv with rfl | rfl <;> rfl) cfF swoF 49 #[] g 0 c d W eg hcmp hH hg (by simp at hl; omega)
  change Calls Try.prog 48 _ _ _ at hcon
  rw [List.length_map, Array.length_toList]
  refine hcon.mono ?_
  rintro e w' ⟨rfl, d', n, os, hp, hs, rfl⟩
  have hsz : d'.size = d.size := hp.1
  have hps : d'.toList.Perm d.toList := by
    have := hp.2.2
    rw [← hsz, Array.extract_size] at this
    rw [hsz, Array.extract_size] at this
    exact this
  refine ⟨rfl, d'.toList.map Subtype.val, hps.map _, ?_, ?_, far_rowF hg hB⟩
  · rw [List.pairwise_map, List.pairwise_iff_getElem]
    intro i j hi hj hij
    have := hs i j (Nat.zero_le _) hij (by rw [← hsz]; simpa using hj)
    rw [ltOfF] at this
    simp only [decide_eq_false_iff_not] at this
    rw [getElem!_pos _ i (by simpa using hi), getElem!_pos _ j (by simpa using hj)] at this
    simpa using this
  · have hsw : g < (sortWorldK encF 2 W g 0 n d' os).heap.size := by
      have := (far_rowF (o := 0) (n := n) (d := Go.Sort.flatK encF 2 d') (os := os) hg hB).size
      exact Nat.lt_of_lt_of_le hg this
    refine rowF hsw ?_
    refine Go.Sort.holds_grow _ _ _ _ _ _ ?_ ?_
    · simpa [Go.Sort.putRowK, Go.Sort.putRow, Go.Sort.mapBlock, Go.Sort.ahead] using hg
    · exact Go.Sort.holds_putRow _ (Go.Sort.ahead W n) g 0 (Go.Sort.flatK encF 2 d) _ hH (by rw [Go.Sort.size_flatK, Go.Sort.size_flatK, hsz])
theorem sortF_none (W : World) : Calls Try.prog 48 #[.slice none 0 0, .func (.func 49) #[] #[]] W fun e w' => e = .returned (.tuple #[]) ∧ w' = W := by
  have hcon := AnyF.slices_SortFunc_none Try.sortFI none 0 (.func (.func 49) #[] #[]) W
  change Calls Try.prog 48 _ _ _ at hcon
  exact hcon
end Go.Proofs.Ytldonmcbnhgbdaa
