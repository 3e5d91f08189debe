/- Whether a fraction stands in a row of fractions: slices.Index and slices.Contains. -/
import Derived.Test.YtldonmcbnhgbdaaCuR
import Derived.BigQuiet
namespace Go.Proofs.Ytldonmcbnhgbdaa
open Go.RowKit
set_option linter.unusedVariables false
set_option maxHeartbeats 4000000
set_option maxRecDepth 20000
set_option linter.unusedSimpArgs false
def HxRel (w : World) (l : List Fr2) (x : Fr2) (iv : Value) (wr : World) : Prop := ∃ k : Nat, iv = .int .i64 k ∧ k ≤ l.length ∧ (∀ i, i < k → l[i]?.getD (0, 1) ≠ x) ∧ wr.heap[w.heap.size]? = some (.cells #[.int .i64 x.1, .int .i64 x.2] 37 (0, 0)) ∧ Below w.heap.size w wr
theorem hx_at {l : List Fr2} {k : Nat} (hk : k < l.length) : l[k]?.getD (0, 1) ∈ l := by rw [List.getElem?_eq_getElem hk]; simp
theorem hx_none {l : List Fr2} {x : Fr2} (h : ∀ i, i < l.length → l[i]?.getD (0, 1) ≠ x) : decide (x ∈ l) = false := by
  simp only [decide_eq_false_iff_not]
  intro hx
  obtain ⟨i, hi, e⟩ := List.getElem_of_mem hx
  have := h i hi
  rw [List.getElem?_eq_getElem hi] at this
  exact this e
theorem hx_snoc {l : List Fr2} {x : Fr2} {k : Nat} (h : ∀ i, i < k → l[i]?.getD (0, 1) ≠ x) (h2 : l[k]?.getD (0, 1) ≠ x) : ∀ i, i < k + 1 → l[i]?.getD (0, 1) ≠ x := fun i hi => by
  by_cases e : i = k
  · subst e; exact h2
  · exact h i (by omega)
theorem indexF_any (g c : Nat) (l : List Fr2) (n e : Int) (w : World) (h : RowQ w g l) (hl : l.length ≤ c) (hc : c ≤ maxLen) : Calls Try.prog 58 #[.slice (some ⟨g, 0, none⟩) l.length c, .agg #[.int .i64 n, .int .i64 e]] w fun r w' => ∃ k : Int, r = .returned (.int .i64 k) ∧ decide (0 ≤ k) = decide ((n, e) ∈ l) ∧ -1 ≤ k ∧ Below w.heap.size w w' := by
  unfold maxLen at hc
  go_enter Try.func58, Try.ntmps58
  go_upto_region 1 with fail
  refine chk (fun W => Below w.heap.size w W ∧ W.heap[w.heap.size]? = some (.cells #[.int .i64 n, .int .i64 e] 37 (0, 0))) (by refine ⟨?_, ?_⟩ <;> (repeat' first | (with_reducible first | assumption | (apply Ne.symm; assumption) | apply Nat.le_refl | apply Nat.le_add_right | apply zL | apply zRf | apply Wx.box | apply Wx.box4 | apply zWa | apply Wx.drew | apply zWn | apply bx_drew | apply bx_drewN | apply bx_set3 | apply bx_set2 | apply bx_set4 | apply bx_set1) | ((with_reducible apply bx_new); (focus (go_size; done))) | (with_reducible first | apply zOl | apply zFa | apply zDn | apply zDr | apply zAl | apply zSt | refine zVi (by assumption) ?_ ?_) | go_size | omega)) ?_
  rintro w1 ⟨hB1, H_X_1⟩
  obtain ⟨k_X_1_0, k_X_1_1, f_X_1, l_X_1⟩ := bk2 H_X_1
  replace H_X_1 := Lib.hid H_X_1
  go_wp2_with fail
  go_loopw [8] (fun iv wr => HxRel w l (n, e) iv wr) (fun iv _ => (l.length - intOf iv).toNat)
  case atStart => exact ⟨0, rfl, by omega, (by intro i hi; omega), H_X_1.out, hB1⟩
  case round =>
    obtain ⟨k, rfl, hk, hne, hX, hb⟩ := hrel
    have x0 : wr.cell? ⟨w.heap.size, 0, none⟩ = some (.int .i64 n) := blk_cell hX 0
    have x1 : wr.cell? ⟨w.heap.size, 1, none⟩ = some (.int .i64 e) := blk_cell hX 1
    have xl := blk_lt' hX
    have HX := Lib.hid hX
    clear hX
    by_cases hlt : k < l.length
    · have hltc : (k : Int) < (l.length : Int) := by omega
      have hgl := h.1
      obtain ⟨q0, q1, -, -⟩ := h.2 k hlt
      have c0 := (hb.cell (p := ⟨g, k * 2, none⟩) hgl).trans q0
      have c1 := (hb.cell (p := ⟨g, k * 2 + 1, none⟩) hgl).trans q1
      have hm := hx_at hlt
      obtain ⟨⟨n2, e2⟩, hy⟩ : ∃ y, l[k]?.getD (0, 1) = y := ⟨_, rfl⟩
      rw [hy] at c0 c1 hm
      simp only at c0 c1
      clear q0 q1
      by_cases hxy : n = n2 ∧ e = e2
      · obtain ⟨rfl, rfl⟩ := hxy
        have HM := Lib.hid hm
        clear hy hne hm
        go_wp2_with fail
        go_quiet (fail)
        go_wp2_with fail
        go_ret
        exact ⟨k, rfl, by simp [HM.out], by omega, ⟨hb.os, hb.tape, hb.output, hb.size, hb.block⟩⟩
      · have HN := Lib.hid (hx_snoc (x := (n, e)) hne (by rw [hy]; intro q; simp only [Prod.mk.injEq] at q; exact hxy ⟨q.1.symm, q.2.symm⟩))
        clear hy hne hm
        by_cases hn : n = n2
        · subst hn
          have he : ¬ e = e2 := fun q => hxy ⟨rfl, q⟩
          have hee : (e == e2) = false := by simpa using he
          clear hxy
          go_wp2_with fail
          go_quiet (fail)
          go_wp2_with fail
          go_roundw
          case rel => exact ⟨k + 1, by go_num, by omega, HN.out, HX.out, ⟨hb.os, hb.tape, hb.output, hb.size, hb.block⟩⟩
          case measure => simp [intOf]; omega
        · have hnn : (n == n2) = false := by simpa using hn
          clear hxy
          go_wp2_with fail
          go_quiet (fail)
          go_wp2_with fail
          go_roundw
          case rel => exact ⟨k + 1, by go_num, by omega, HN.out, HX.out, ⟨hb.os, hb.tape, hb.output, hb.size, hb.block⟩⟩
          case measure => simp [intOf]; omega
    · obtain rfl : k = l.length := by omega
      have HD := Lib.hid (hx_none hne)
      clear hne
      go_wp2_with fail
      go_ret
      exact ⟨-1, rfl, by have := HD.out; simp only [decide_eq_false_iff_not] at this; simp [this], by omega, hb⟩
theorem indexF_none (n e : Int) (w : World) : Calls Try.prog 58 #[.slice none 0 0, .agg #[.int .i64 n, .int .i64 e]] w fun r w' => r = .returned (.int .i64 (-1)) ∧ Below w.heap.size w w' := by
  go_enter Try.func58, Try.ntmps58
  go_wp2_with fail
  go_loopw [8] (fun iv wr => iv = .int .i64 0 ∧ Below w.heap.size w wr) (fun iv _ => 0)
  case atStart => exact ⟨rfl, by repeat' first | (with_reducible first | apply zRf | assumption | apply zDn | apply zDr | apply zAl | apply zSt | refine zVi (by assumption) ?_ ?_) | go_size⟩
  case round =>
    obtain ⟨rfl, hb⟩ := hrel
    go_wp2_with fail
    go_ret
    exact ⟨rfl, hb⟩
theorem containsF_any (v : Value) (B : Nat) (l : List Fr2) (n e : Int) (w : World) (h : SlR w B v l) : Calls Try.prog 41 #[v, .agg #[.int .i64 n, .int .i64 e]] w fun r w' => r = .returned (.bool (decide ((n, e) ∈ l))) ∧ Below w.heap.size w w' := by
  rcases h with ⟨rfl, rfl⟩ | ⟨g, c, rfl, hl, hc, -, hr⟩
  · have T1 := fun (W : World) (hW : Below w.heap.size w W) => Lib.hid (show Calls Try.prog 58 #[.slice none 0 0, .agg #[.int .i64 n, .int .i64 e]] W fun r w' => ∃ k : Int, r = .returned (.int .i64 k) ∧ decide (0 ≤ k) = decide ((n, e) ∈ ([] : List Fr2)) ∧ -1 ≤ k ∧ Below W.heap.size W w' from (indexF_none n e W).mono fun r w' h => ⟨-1, h.1, by simp, by omega, h.2⟩)
    have tok1 : True := trivial
    go_enter Try.func41, Try.ntmps41
    go_wp2_with (first | (have _t := tok1; go_at_call 58; (with_reducible refine ((T1 _ (by repeat' first | (with_reducible first | apply zRf | assumption | apply zDn | apply zDr | apply zAl | apply zSt | refine zVi (by assumption) ?_ ?_) | go_size)).out).mono ?_); rintro e w1 ⟨k, rfl, hk, hk1, hb1⟩; clear tok1 _t; have hz1 := hb1.size; (try simp only [World.size_alloc, World.size_setCell, World.size_drew, World.size_drewN'] at hz1)))
    go_ret
    refine ⟨ret_bool rfl, ?_⟩
    repeat' first | (with_reducible first | apply zRf | assumption | apply zDn | apply zDr | apply zAl | apply zSt | refine zVi (by assumption) ?_ ?_) | go_size
  · have hkeep : ∀ W, Below w.heap.size w W → RowQ W g l := fun W hW => ⟨Nat.lt_of_lt_of_le hr.1 hW.size, fun j hj => by
      obtain ⟨h1, h2, h3, h4⟩ := hr.2 j hj
      have hbk := hW.block g hr.1
      exact ⟨(World.cell?_of_block (a := ⟨g, j * 2, none⟩) hbk).trans h1, (World.cell?_of_block (a := ⟨g, j * 2 + 1, none⟩) hbk).trans h2, (World.frozen?_of_block (a := ⟨g, j * 2, none⟩) hbk).trans h3, (World.frozen?_of_block (a := ⟨g, j * 2 + 1, none⟩) hbk).trans h4⟩⟩
    have T1 := fun (W : World) (hW : Below w.heap.size w W) => Lib.hid (indexF_any g c l n e W (hkeep W hW) hl hc)
    clear hkeep
    have tok1 : True := trivial
    go_enter Try.func41, Try.ntmps41
    go_wp2_with (first | (have _t := tok1; go_at_call 58; (with_reducible refine ((T1 _ (by repeat' first | (with_reducible first | apply zRf | assumption | apply zDn | apply zDr | apply zAl | apply zSt | refine zVi (by assumption) ?_ ?_) | go_size)).out).mono ?_); rintro e w1 ⟨k, rfl, hk, hk1, hb1⟩; clear tok1 _t; have hz1 := hb1.size; (try simp only [World.size_alloc, World.size_setCell, World.size_drew, World.size_drewN'] at hz1)))
    go_ret
    refine ⟨ret_bool rfl, ?_⟩
    repeat' first | (with_reducible first | apply zRf | assumption | apply zDn | apply zDr | apply zAl | apply zSt | refine zVi (by assumption) ?_ ?_) | go_size
end Go.Proofs.Ytldonmcbnhgbdaa
