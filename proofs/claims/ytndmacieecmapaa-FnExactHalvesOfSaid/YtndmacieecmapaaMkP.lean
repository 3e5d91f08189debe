/- Rows of points: comparing, marking and finding the marks again (the copies in the laws). -/
import Derived.Test.YtndmacieecmapaaMkX
namespace Go.Proofs.Ytndmacieecmapaa
open Go.RowKit
set_option linter.unusedVariables false
set_option maxHeartbeats 4000000
set_option maxRecDepth 20000
set_option linter.unusedSimpArgs false
theorem eqPointS_same {B B2 n : Nat} {v v2 : Value} {zs : List Int} {w : World} (h : SlX w B 3 v n zs) (h2 : SlX w B2 3 v2 n zs) (hn : n ≤ 1000000000) : Calls Try.prog 8 #[v, v2] w fun e w' => e = .returned (.bool true) ∧ Below w.heap.size w w' := by
  have e1 : ((n : Int) != (n : Int)) = false := by simp
  obtain ⟨hl, h⟩ := h
  obtain ⟨-, h2⟩ := h2
  rcases h with ⟨rfl, rfl⟩ | ⟨g, c, rfl, hnc, hcm, -, hr⟩
  · rcases h2 with ⟨rfl, -⟩ | ⟨g2, c2, rfl, -, -, -, -⟩
    all_goals
      go_enter Try.func8, Try.ntmps8
      go_wp2_with fail
      go_loopw [5] (fun iv wr => iv = .int .i64 0 ∧ wr = w) (fun iv _ => 0)
      case atStart => exact ⟨rfl, rfl⟩
      case round =>
        obtain ⟨rfl, rfl⟩ := hrel
        go_wp2_with fail
        go_ret
        exact ⟨rfl, Below.refl _ _⟩
  · unfold maxLen at hcm
    rcases h2 with ⟨rfl, rfl⟩ | ⟨g2, c2, rfl, hnc2, hcm2, -, hr2⟩
    · go_enter Try.func8, Try.ntmps8
      go_wp2_with fail
      go_loopw [5] (fun iv wr => iv = .int .i64 0 ∧ wr = w) (fun iv _ => 0)
      case atStart => exact ⟨rfl, rfl⟩
      case round =>
        obtain ⟨rfl, rfl⟩ := hrel
        go_wp2_with fail
        go_ret
        exact ⟨rfl, Below.refl _ _⟩
    · unfold maxLen at hcm2
      have HR := Lib.hid hr
      have HR2 := Lib.hid hr2
      clear hr hr2
      have tok1 : True := trivial
      have tok2 : True := trivial
      have tok3 : True := trivial
      have tok4 : True := trivial
      have tok5 : True := trivial
      go_enter Try.func8, Try.ntmps8
      go_wp2_with fail
      go_loopw [5] (fun iv wr => ∃ k : Nat, iv = .int .i64 k ∧ k ≤ n ∧ Below w.heap.size w wr) (fun iv _ => (n - intOf iv).toNat)
      case atStart => exact ⟨0, rfl, by omega, Below.refl _ _⟩
      case round =>
        obtain ⟨k, rfl, hk, hb⟩ := hrel
        by_cases h0 : k < n
        · have hk2 : (k : Int) < (n : Int) := by omega
          have r1 := HR.out.via hb
          have r2 := HR2.out.via hb
          obtain ⟨x, hx⟩ : ∃ x, zs[k * 3]?.getD 0 = x := ⟨_, rfl⟩
          obtain ⟨y, hy⟩ : ∃ y, zs[k * 3 + 1]?.getD 0 = y := ⟨_, rfl⟩
          obtain ⟨z, hz⟩ : ∃ z, zs[k * 3 + 2]?.getD 0 = z := ⟨_, rfl⟩
          have c0 := (r1.2 (k * 3) (by omega)).1
          have c1 := (r1.2 (k * 3 + 1) (by omega)).1
          have c2 := (r1.2 (k * 3 + 2) (by omega)).1
          have d0 := (r2.2 (k * 3) (by omega)).1
          have d1 := (r2.2 (k * 3 + 1) (by omega)).1
          have d2 := (r2.2 (k * 3 + 2) (by omega)).1
          rw [hx] at c0 d0
          rw [hy] at c1 d1
          rw [hz] at c2 d2
          have g1 := r1.1
          have g2' := r2.1
          have TE := fun W : World => Lib.hid (eqPt_same x y z W)
          have HC := Lib.hid (fun (W : World) (hW : Below wr.heap.size wr W) => (⟨(hW.cell (p := ⟨g, k * 3, none⟩) g1).trans c0, (hW.cell (p := ⟨g, k * 3 + 1, none⟩) g1).trans c1, (hW.cell (p := ⟨g, k * 3 + 2, none⟩) g1).trans c2, (hW.cell (p := ⟨g2, k * 3, none⟩) g2').trans d0, (hW.cell (p := ⟨g2, k * 3 + 1, none⟩) g2').trans d1, (hW.cell (p := ⟨g2, k * 3 + 2, none⟩) g2').trans d2⟩ : W.cell? ⟨g, k * 3, none⟩ = some (.int .i64 x) ∧ W.cell? ⟨g, k * 3 + 1, none⟩ = some (.int .i64 y) ∧ W.cell? ⟨g, k * 3 + 2, none⟩ = some (.int .i64 z) ∧ W.cell? ⟨g2, k * 3, none⟩ = some (.int .i64 x) ∧ W.cell? ⟨g2, k * 3 + 1, none⟩ = some (.int .i64 y) ∧ W.cell? ⟨g2, k * 3 + 2, none⟩ = some (.int .i64 z)))
          clear r1 r2 hx hy hz
          go_wp2_with fail
          go_region_held3 (fun W => W.cell? ⟨g, k * 3, none⟩ = some (.int .i64 x) ∧ W.cell? ⟨g, k * 3 + 1, none⟩ = some (.int .i64 y) ∧ W.cell? ⟨g, k * 3 + 2, none⟩ = some (.int .i64 z) ∧ W.cell? ⟨g2, k * 3, none⟩ = some (.int .i64 x) ∧ W.cell? ⟨g2, k * 3 + 1, none⟩ = some (.int .i64 y) ∧ W.cell? ⟨g2, k * 3 + 2, none⟩ = some (.int .i64 z)) (exact HC.out _ (by repeat' first | (with_reducible first | apply zRf | assumption | apply zDn | apply zDr | apply zAl | apply zSt | refine zVi (by assumption) ?_ ?_) | go_size)) (first | (have _t := tok4; go_at_call 22; refine ((TE _).out).mono ?_; rintro e w4 ⟨rfl, hb4⟩; clear tok4 _t; have hz4 := hb4.size; (try simp only [World.size_alloc, World.size_setCell, World.size_drew, World.size_drewN'] at hz4)))
          go_wp2_with fail
          go_roundw
          case rel => exact ⟨k + 1, by go_num, by omega, below_via hb4 (below_via (by repeat' first | (with_reducible first | apply zRf | assumption | apply zDn | apply zDr | apply zAl | apply zSt | refine zVi (by assumption) ?_ ?_) | go_size) hb (by have := hb.size; omega)) (by have := hb.size; go_size)⟩
          case measure => simp [intOf]; omega
        · obtain rfl : k = n := by omega
          go_wp2_with fail
          go_ret
          exact ⟨rfl, hb⟩
def MpRel (w : World) (B : Nat) (v : Value) (k : Int) (n : Nat) (iv kv : Value) (wr : World) : Prop := ∃ (j : Nat) (qs : List Int), iv = .int .i64 j ∧ kv = .int .i64 (k + 3 * j) ∧ j ≤ n ∧ qs.take (j * 3) = marks k (j * 3) ∧ SlX wr B 3 v n qs ∧ w.grownBy wr v.ownBlock
theorem markPointS_any {v : Value} {B n : Nat} {zs : List Int} {k : Int} {w : World} (h : SlX w B 3 v n zs) (h0 : 0 ≤ k) (h1 : k ≤ 1000000) (hn : n ≤ 1000000000) : Calls Try.prog 9 #[v, .int .i64 k] w fun e w' => e = .returned (.int .i64 (k + 3 * n)) ∧ SlX w' B 3 v n (marks k (n * 3)) ∧ w.grownBy w' v.ownBlock := by
  obtain ⟨a, c, rfl⟩ := h.shape
  go_enter Try.func9, Try.ntmps9
  go_wp2_with fail
  go_loopw [5, 1] (fun iv kv wr => MpRel w B (.slice a n c) k n iv kv wr) (fun iv _ _ => (n - intOf iv).toNat)
  case atStart => exact ⟨0, zs, rfl, by simp, by omega, by simp [marks], h, ⟨rfl, rfl, rfl, Nat.le_refl _, fun _ _ _ => rfl⟩⟩
  case round =>
    obtain ⟨j, qs, rfl, rfl, hj, ht, ⟨hl, ho⟩, hg⟩ := hrel
    have HT := Lib.hid ht
    clear ht
    by_cases hlt : j < n
    · rcases ho with ⟨_, h3⟩ | ⟨g, cap, h3, hnc, hcm, hB, hr⟩
      · exfalso; omega
      · simp only [Value.slice.injEq] at h3
        obtain ⟨rfl, h4, rfl⟩ := h3
        clear h4
        have HCM := Lib.hid hcm
        unfold maxLen at hcm
        have HR := Lib.hid hr
        have hk2 : (j : Int) < (n : Int) := by omega
        obtain ⟨c0, f0⟩ := hr.2 (j * 3) (by omega)
        obtain ⟨c1, f1⟩ := hr.2 (j * 3 + 1) (by omega)
        obtain ⟨c2, f2⟩ := hr.2 (j * 3 + 2) (by omega)
        clear hr
        go_wp2_with fail
        go_roundw
        case rel =>
          have r2 := ((HR.out.set (i := j * 3) (by omega) (k + ((j * 3 : Nat) : Int))).set (i := j * 3 + 1) (by simp; omega) (k + (((j * 3 : Nat) : Int) + 1))).set (i := j * 3 + 2) (by simp; omega) (k + (((j * 3 : Nat) : Int) + 2))
          refine ⟨j + 1, ((qs.set (j * 3) (k + ((j * 3 : Nat) : Int))).set (j * 3 + 1) (k + (((j * 3 : Nat) : Int) + 1))).set (j * 3 + 2) (k + (((j * 3 : Nat) : Int) + 2)), by go_num, by congr 1; omega, by omega, ?_, ⟨by simp [hl], .inr ⟨g, _, rfl, hnc, HCM.out, hB, ?_⟩⟩, ?_⟩
          · have := marks_set3 (k := k) (n := qs.length) (j := j * 3) rfl (by omega) HT.out
            rw [show (j + 1) * 3 = j * 3 + 2 + 1 by omega]; exact this
          · have e1 : k + ((j * 3 : Nat) : Int) = k + 3 * (j : Int) := by omega
            have e2 : k + (((j * 3 : Nat) : Int) + 1) = k + 3 * (j : Int) + 1 := by omega
            have e3 : k + (((j * 3 : Nat) : Int) + 2) = k + 3 * (j : Int) + 1 + 1 := by omega
            rw [e1, e2, e3] at r2 ⊢
            exact r2
          · exact grown_set (grown_set (grown_set hg rfl) rfl) rfl
        case measure => simp [intOf]; omega
    · obtain rfl : j = n := by omega
      have e : qs = marks k (j * 3) := by rw [← HT.out, List.take_of_length_le (by omega)]
      subst e
      go_wp2_with fail
      go_ret
      exact ⟨rfl, ⟨hl, ho⟩, hg⟩
theorem heldPointS_any {v : Value} {B n : Nat} {k : Int} {w : World} (h : SlX w B 3 v n (marks k (n * 3))) (h0 : 0 ≤ k) (h1 : k ≤ 1000000) (hn : n ≤ 1000000000) : Calls Try.prog 10 #[v, .int .i64 k] w fun e w' => e = .returned (.int .i64 (k + 3 * n)) ∧ Below w.heap.size w w' := by
  obtain ⟨a, c, rfl⟩ := h.shape
  go_enter Try.func10, Try.ntmps10
  go_wp2_with fail
  go_loopw [5, 1] (fun iv kv wr => ∃ j : Nat, iv = .int .i64 j ∧ kv = .int .i64 (k + 3 * j) ∧ j ≤ n ∧ wr = w) (fun iv _ _ => (n - intOf iv).toNat)
  case atStart => exact ⟨0, rfl, by simp, by omega, rfl⟩
  case round =>
    obtain ⟨j, rfl, rfl, hj, rfl⟩ := hrel
    by_cases hlt : j < n
    · rcases h.2 with ⟨_, h3⟩ | ⟨g, cap, h3, hnc, hcm, hB, hr⟩
      · exfalso; omega
      · simp only [Value.slice.injEq] at h3
        obtain ⟨rfl, h4, rfl⟩ := h3
        clear h4
        unfold maxLen at hcm
        have hk2 : (j : Int) < (n : Int) := by omega
        have hml := marks_len k (n * 3)
        have c0 := (hr.2 (j * 3) (by omega)).1
        have c1 := (hr.2 (j * 3 + 1) (by omega)).1
        have c2 := (hr.2 (j * 3 + 2) (by omega)).1
        rw [marks_at k (n * 3) (j * 3) (by omega), show k + ((j * 3 : Nat) : Int) = k + 3 * (j : Int) by omega] at c0
        rw [marks_at k (n * 3) (j * 3 + 1) (by omega), show k + ((j * 3 + 1 : Nat) : Int) = k + 3 * (j : Int) + 1 by omega] at c1
        rw [marks_at k (n * 3) (j * 3 + 2) (by omega), show k + ((j * 3 + 2 : Nat) : Int) = k + 3 * (j : Int) + 1 + 1 by omega] at c2
        have hx : ∀ x : Int, (x != x) = false := fun x => by simp
        clear hr hml
        go_wp2_with fail
        go_roundw
        case rel => exact ⟨j + 1, by go_num, by congr 1; omega, by omega, (by first | rfl | trivial)⟩
        case measure => simp [intOf]; omega
    · obtain rfl : j = n := by omega
      go_wp2_with fail
      go_ret
      exact ⟨rfl, Below.refl _ _⟩
end Go.Proofs.Ytndmacieecmapaa
