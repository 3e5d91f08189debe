/- Sums and products of lists of whole numbers: the program. -/
import Derived.Test.YtijpfnkhaldfeaaWi2
import Derived.Test.YtijpfnkhaldfeaaWi3
import Derived.Test.YtijpfnkhaldfeaaLw
namespace Go.Proofs.Ytijpfnkhaldfeaa
open Go.RowKit
set_option linter.unusedVariables false
set_option maxHeartbeats 1000000
set_option maxRecDepth 20000
set_option linter.unusedSimpArgs false
attribute [local go_sem] openAt openUpon
def SmRel (w : World) (gA : Nat) (f : Nat → Int) (m : Nat) (iv : Value) (wr : World) : Prop := ∃ (k : Nat) (b : Bool) (a : Option Addr) (n c : Nat), iv = .int .i64 k ∧ k ≤ m ∧ wr.heap[w.heap.size]? = some (.cells #[.bool false, .slice none 0 0] 35 (0, 0)) ∧ wr.heap[gA]? = some (.cells #[.bool b, .slice a n c] 35 (0, 0)) ∧ Wx wr b a n c (f k) ∧ Fr w.heap.size a ∧ Below w.heap.size w wr
theorem Wx.zero (W : World) : Wx W false none 0 0 0 := ⟨by decide, by rw [show limbs (ab 0) = [] by decide]; exact Sx.none W⟩
theorem sumWholes_any {g m : Nat} {zs : List Int} {v : Int} {w : World} (h : LxAt w g zs) (hm : zs.length = m) (hmb : m ≤ 100) (hv : sumZ zs m = v) (l1 : ∀ k, ln (sumZ zs k) ≤ 9000) (l2 : ∀ i, ln (zs.getD i 0) ≤ 9000) :
    Calls Try.prog 61 #[.slice (some ⟨g, 0, none⟩) m m] w (NewW w v) := by
  have HM := Lib.hid hm
  have HV := Lib.hid hv
  clear hm hv
  have hgw := h.1
  have tok1 : True := trivial
  go_enter Try.func61, Try.ntmps61
  go_wp2_with fail
  go_loopw [9] (fun iv wr => SmRel w (w.heap.size + 1) (sumZ zs) m iv wr) (fun iv _ => m - (intOf iv).toNat)
  case atStart => exact ⟨0, false, none, 0, 0, rfl, by omega, by (repeat' first | (with_reducible first | assumption | (apply Ne.symm; assumption) | apply Nat.le_refl | apply Nat.le_add_right | apply zL | apply zRf | apply Wx.box | apply Wx.box4 | apply zWa | apply Wx.drew | apply zWn | apply bx_drew | apply bx_drewN | apply bx_set3 | apply bx_set2 | apply bx_set4 | apply bx_set1) | ((with_reducible apply bx_new); (focus (go_size; done))) | (with_reducible first | apply zOl | apply zFa | apply zDn | apply zDr | apply zAl | apply zSt | refine zVi (by assumption) ?_ ?_) | go_size | omega), by (repeat' first | (with_reducible first | assumption | (apply Ne.symm; assumption) | apply Nat.le_refl | apply Nat.le_add_right | apply zL | apply zRf | apply Wx.box | apply Wx.box4 | apply zWa | apply Wx.drew | apply zWn | apply bx_drew | apply bx_drewN | apply bx_set3 | apply bx_set2 | apply bx_set4 | apply bx_set1) | ((with_reducible apply bx_new); (focus (go_size; done))) | (with_reducible first | apply zOl | apply zFa | apply zDn | apply zDr | apply zAl | apply zSt | refine zVi (by assumption) ?_ ?_) | go_size | omega), Wx.zero _, (fun A e => by cases e), by repeat' first | (with_reducible first | apply zRf | assumption | apply zDn | apply zDr | apply zAl | apply zSt | refine zVi (by assumption) ?_ ?_) | go_size⟩
  case round =>
    obtain ⟨k, b, a, n, c, rfl, hk, hR, hA, hx, hfr, hbw⟩ := hrel
    have kR0 : wr.cell? ⟨w.heap.size, 0, none⟩ = some (.bool false) := blk_cell hR 0
    have kR1 : wr.cell? ⟨w.heap.size, 1, none⟩ = some (.slice none 0 0) := blk_cell hR 1
    have fR := fun o => blk_frozen hR o
    have kA0 : wr.cell? ⟨w.heap.size + 1, 0, none⟩ = some (.bool b) := blk_cell hA 0
    have kA1 : wr.cell? ⟨w.heap.size + 1, 1, none⟩ = some (.slice a n c) := blk_cell hA 1
    have fA := fun o => blk_frozen hA o
    have lA := blk_lt' hA
    have HR := Lib.hid hR
    have HA := Lib.hid hA
    clear hR hA
    by_cases h0 : k < m
    · obtain ⟨b3, a3, n3, c3, d1, d2, hz⟩ := h.2 k (by rw [HM.out]; exact h0)
      have e1 := (hbw.cell (p := ⟨g, k * 2, none⟩) hgw).trans d1
      have e2 := (hbw.cell (p := ⟨g, k * 2 + 1, none⟩) hgw).trans d2
      have HZ := Lib.hid (show sumZ zs k + zs.getD k 0 = sumZ zs (k + 1) from (sumZ_succ (by rw [HM.out]; exact h0)).symm)
      have hzw := hz.below hbw
      have TA : ∀ W, Below wr.heap.size wr W → Calls Try.prog 66 #[.agg #[.bool b, .slice a n c], .agg #[.bool b3, .slice a3 n3 c3]] W (NewW W (sumZ zs (k + 1))) := fun W hW => addWholes_eq (hx.below hW) (hzw.below hW) HZ.out (by have := l1 k; omega) (by have := l2 k; omega)
      have hlt : (k : Int) < (m : Int) := by omega
      clear d1 d2
      go_wp2_with (first | (have _t := tok1; go_at_call 66; (with_reducible refine ((TA _ (by repeat' first | (with_reducible first | apply zRf | assumption | apply zDn | apply zDr | apply zAl | apply zSt | refine zVi (by assumption) ?_ ?_) | go_size))).mono ?_); rintro e w1 ⟨b7, a7, n7, c7, rfl, h7, f7, hb1⟩; clear tok1 _t; have hz1 := hb1.size; (try simp only [World.size_alloc, World.size_setCell, World.size_drew, World.size_drewN'] at hz1); (try (have kq := cellAt hb1 (w.heap.size) (by go_size); have k1_w_0_0 := kq 0; have k1_w_0_1 := kq 1; clear kq; have f1_w_0 := frozAt hb1 (w.heap.size) (by go_size); simp [go_sem, *] at k1_w_0_0 k1_w_0_1 f1_w_0)); (try have l1_w_0 : w.heap.size < w1.heap.size := by omega); have q0 := (cellAt hb1 (w.heap.size + 1) (by simp; omega) 0); have q1 := (cellAt hb1 (w.heap.size + 1) (by simp; omega) 1); have q2 := frozAt hb1 (w.heap.size + 1) (by simp; omega); simp [go_sem, *] at q0 q1 q2))
      have HR1 := (hb1.block (w.heap.size) (by simp; omega)).trans (bx_old HR.out _)
      have HA1 := (hb1.block (w.heap.size + 1) (by simp; omega)).trans (bx_old HA.out _)
      have h01 : w.heap.size ≠ w.heap.size + 1 := by omega
      go_roundw
      case rel => exact ⟨k + 1, b7, a7, n7, c7, by go_num, by omega, by (repeat' first | (with_reducible first | assumption | (apply Ne.symm; assumption) | apply Nat.le_refl | apply Nat.le_add_right | apply zL | apply zRf | apply Wx.box | apply Wx.box4 | apply zWa | apply Wx.drew | apply zWn | apply bx_drew | apply bx_drewN | apply bx_set3 | apply bx_set2 | apply bx_set4 | apply bx_set1) | ((with_reducible apply bx_new); (focus (go_size; done))) | (with_reducible first | apply zOl | apply zFa | apply zDn | apply zDr | apply zAl | apply zSt | refine zVi (by assumption) ?_ ?_) | go_size | omega), by (repeat' first | (with_reducible first | assumption | (apply Ne.symm; assumption) | apply Nat.le_refl | apply Nat.le_add_right | apply zL | apply zRf | apply Wx.box | apply Wx.box4 | apply zWa | apply Wx.drew | apply zWn | apply bx_drew | apply bx_drewN | apply bx_set3 | apply bx_set2 | apply bx_set4 | apply bx_set1) | ((with_reducible apply bx_new); (focus (go_size; done))) | (with_reducible first | apply zOl | apply zFa | apply zDn | apply zDr | apply zAl | apply zSt | refine zVi (by assumption) ?_ ?_) | go_size | omega), by (repeat' first | (with_reducible first | assumption | (apply Ne.symm; assumption) | apply Nat.le_refl | apply Nat.le_add_right | apply zL | apply zRf | apply Wx.box | apply Wx.box4 | apply zWa | apply Wx.drew | apply zWn | apply bx_drew | apply bx_drewN | apply bx_set3 | apply bx_set2 | apply bx_set4 | apply bx_set1) | ((with_reducible apply bx_new); (focus (go_size; done))) | (with_reducible first | apply zOl | apply zFa | apply zDn | apply zDr | apply zAl | apply zSt | refine zVi (by assumption) ?_ ?_) | go_size | omega), f7.mono (by simp; omega), by repeat' first | (with_reducible first | apply zRf | assumption | apply zDn | apply zDr | apply zAl | apply zSt | refine zVi (by assumption) ?_ ?_) | go_size⟩
      case measure => simp [intOf]; omega
    · obtain rfl : k = m := by omega
      go_wp2_with fail
      refine bodyPost_ret (v := .agg #[.bool b, .slice a n c]) (by simp [results, Try.results61, go_sem, kR0, kR1, kA0, kA1]) rfl ⟨_, _, _, _, rfl, ?_, ?_, ?_⟩
      · have HR1 := HR.out
        rw [← HV.out]
        (repeat' first | (with_reducible first | assumption | (apply Ne.symm; assumption) | apply Nat.le_refl | apply Nat.le_add_right | apply zL | apply zRf | apply Wx.box | apply Wx.box4 | apply zWa | apply Wx.drew | apply zWn | apply bx_drew | apply bx_drewN | apply bx_set3 | apply bx_set2 | apply bx_set4 | apply bx_set1) | ((with_reducible apply bx_new); (focus (go_size; done))) | (with_reducible first | apply zOl | apply zFa | apply zDn | apply zDr | apply zAl | apply zSt | refine zVi (by assumption) ?_ ?_) | go_size | omega)
      · exact hfr
      · repeat' first | (with_reducible first | apply zRf | assumption | apply zDn | apply zDr | apply zAl | apply zSt | refine zVi (by assumption) ?_ ?_) | go_size
theorem productWholes_any {g m : Nat} {zs : List Int} {v : Int} {w : World} (h : LxAt w g zs) (hm : zs.length = m) (hmb : m ≤ 100) (hv : prodZ zs m = v) (l1 : ∀ k, ln (prodZ zs k) ≤ 9000) (l2 : ∀ i, ln (zs.getD i 0) ≤ 9000) :
    Calls Try.prog 62 #[.slice (some ⟨g, 0, none⟩) m m] w (NewW w v) := by
  have HM := Lib.hid hm
  have HV := Lib.hid hv
  clear hm hv
  have hgw := h.1
  have tok1 : True := trivial
  have tok2 : True := trivial
  go_enter Try.func62, Try.ntmps62
  go_wp2_with (first | (have _t := tok2; go_at_call 63; refine (wholeOf_any 1 _ (by omega) (by omega)).mono ?_; rintro e w2 ⟨b0, a0, n0, c0, rfl, h0, f0, hb2⟩; clear tok2 _t; have hz2 := hb2.size; (try simp only [World.size_alloc, World.size_setCell, World.size_drew, World.size_drewN'] at hz2); (try (have kq := cellAt hb2 (w.heap.size) (by go_size); have k2_w_0_0 := kq 0; have k2_w_0_1 := kq 1; clear kq; have f2_w_0 := frozAt hb2 (w.heap.size) (by go_size); simp [go_sem, *] at k2_w_0_0 k2_w_0_1 f2_w_0)); (try have l2_w_0 : w.heap.size < w2.heap.size := by omega); (try clear k1_w_0_0 k1_w_0_1 f1_w_0); (try clear l1_w_0)))
  have hz2 := hb2.size
  simp only [World.size_alloc] at hz2
  have HR2 := (hb2.block (w.heap.size) (by simp)).trans (heap_alloc_new w _)
  have HBW : Below w.heap.size w w2 := by
    repeat' first | (with_reducible first | apply zRf | assumption | apply zDn | apply zDr | apply zAl | apply zSt | refine zVi (by assumption) ?_ ?_) | go_size
  generalize hgA : w2.heap.size = gA at *
  have hgA' := Lib.hid hgA
  go_loopw [9] (fun iv wr => SmRel w gA (prodZ zs) m iv wr) (fun iv _ => m - (intOf iv).toNat)
  case atStart => exact ⟨0, b0, a0, n0, c0, rfl, by omega, by (repeat' first | (with_reducible first | assumption | (apply Ne.symm; assumption) | apply Nat.le_refl | apply Nat.le_add_right | apply zL | apply zRf | apply Wx.box | apply Wx.box4 | apply zWa | apply Wx.drew | apply zWn | apply bx_drew | apply bx_drewN | apply bx_set3 | apply bx_set2 | apply bx_set4 | apply bx_set1) | ((with_reducible apply bx_new); (focus (go_size; done))) | (with_reducible first | apply zOl | apply zFa | apply zDn | apply zDr | apply zAl | apply zSt | refine zVi (by assumption) ?_ ?_) | go_size | omega), bx_new hgA'.out, (show Wx _ b0 a0 n0 c0 (prodZ zs 0) from h0.alloc _), f0.mono (by simp), HBW.alloc (by rw [hgA'.out]; omega) _⟩
  case round =>
    clear hb2 h0 HR2
    obtain ⟨k, b, a, n, c, rfl, hk, hR, hA, hx, hfr, hbw⟩ := hrel
    have kR0 : wr.cell? ⟨w.heap.size, 0, none⟩ = some (.bool false) := blk_cell hR 0
    have kR1 : wr.cell? ⟨w.heap.size, 1, none⟩ = some (.slice none 0 0) := blk_cell hR 1
    have fR := fun o => blk_frozen hR o
    have kA0 : wr.cell? ⟨gA, 0, none⟩ = some (.bool b) := blk_cell hA 0
    have kA1 : wr.cell? ⟨gA, 1, none⟩ = some (.slice a n c) := blk_cell hA 1
    have fA := fun o => blk_frozen hA o
    have lA := blk_lt' hA
    have HR := Lib.hid hR
    have HA := Lib.hid hA
    clear hR hA
    by_cases h0 : k < m
    · obtain ⟨b3, a3, n3, c3, d1, d2, hz⟩ := h.2 k (by rw [HM.out]; exact h0)
      have e1 := (hbw.cell (p := ⟨g, k * 2, none⟩) hgw).trans d1
      have e2 := (hbw.cell (p := ⟨g, k * 2 + 1, none⟩) hgw).trans d2
      have HZ := Lib.hid (show prodZ zs k * zs.getD k 0 = prodZ zs (k + 1) from (prodZ_succ (by rw [HM.out]; exact h0)).symm)
      have hzw := hz.below hbw
      have TA : ∀ W, Below wr.heap.size wr W → Calls Try.prog 68 #[.agg #[.bool b, .slice a n c], .agg #[.bool b3, .slice a3 n3 c3]] W (NewW W (prodZ zs (k + 1))) := fun W hW => mulWholes_eq (hx.below hW) (hzw.below hW) HZ.out (by have := l1 k; omega) (by have := l2 k; omega)
      have hlt : (k : Int) < (m : Int) := by omega
      clear d1 d2
      go_wp2_with (first | (have _t := tok1; go_at_call 68; (with_reducible refine ((TA _ (by repeat' first | (with_reducible first | apply zRf | assumption | apply zDn | apply zDr | apply zAl | apply zSt | refine zVi (by assumption) ?_ ?_) | go_size))).mono ?_); rintro e w1 ⟨b7, a7, n7, c7, rfl, h7, f7, hb1⟩; clear tok1 _t; have hz1 := hb1.size; (try simp only [World.size_alloc, World.size_setCell, World.size_drew, World.size_drewN'] at hz1); (try (have kq := cellAt hb1 (w.heap.size) (by go_size); have k1_w_0_0 := kq 0; have k1_w_0_1 := kq 1; clear kq; have f1_w_0 := frozAt hb1 (w.heap.size) (by go_size); simp [go_sem, *] at k1_w_0_0 k1_w_0_1 f1_w_0)); (try have l1_w_0 : w.heap.size < w1.heap.size := by omega); have q0 := (cellAt hb1 gA (by simp; omega) 0); have q1 := (cellAt hb1 gA (by simp; omega) 1); have q2 := frozAt hb1 gA (by simp; omega); simp [go_sem, *] at q0 q1 q2))
      have HR1 := (hb1.block (w.heap.size) (by simp; omega)).trans (bx_old HR.out _)
      have HA1 := (hb1.block gA (by simp; omega)).trans (bx_old HA.out _)
      have h01 : w.heap.size ≠ gA := by omega
      go_roundw
      case rel => exact ⟨k + 1, b7, a7, n7, c7, by go_num, by omega, by (repeat' first | (with_reducible first | assumption | (apply Ne.symm; assumption) | apply Nat.le_refl | apply Nat.le_add_right | apply zL | apply zRf | apply Wx.box | apply Wx.box4 | apply zWa | apply Wx.drew | apply zWn | apply bx_drew | apply bx_drewN | apply bx_set3 | apply bx_set2 | apply bx_set4 | apply bx_set1) | ((with_reducible apply bx_new); (focus (go_size; done))) | (with_reducible first | apply zOl | apply zFa | apply zDn | apply zDr | apply zAl | apply zSt | refine zVi (by assumption) ?_ ?_) | go_size | omega), by (repeat' first | (with_reducible first | assumption | (apply Ne.symm; assumption) | apply Nat.le_refl | apply Nat.le_add_right | apply zL | apply zRf | apply Wx.box | apply Wx.box4 | apply zWa | apply Wx.drew | apply zWn | apply bx_drew | apply bx_drewN | apply bx_set3 | apply bx_set2 | apply bx_set4 | apply bx_set1) | ((with_reducible apply bx_new); (focus (go_size; done))) | (with_reducible first | apply zOl | apply zFa | apply zDn | apply zDr | apply zAl | apply zSt | refine zVi (by assumption) ?_ ?_) | go_size | omega), by (repeat' first | (with_reducible first | assumption | (apply Ne.symm; assumption) | apply Nat.le_refl | apply Nat.le_add_right | apply zL | apply zRf | apply Wx.box | apply Wx.box4 | apply zWa | apply Wx.drew | apply zWn | apply bx_drew | apply bx_drewN | apply bx_set3 | apply bx_set2 | apply bx_set4 | apply bx_set1) | ((with_reducible apply bx_new); (focus (go_size; done))) | (with_reducible first | apply zOl | apply zFa | apply zDn | apply zDr | apply zAl | apply zSt | refine zVi (by assumption) ?_ ?_) | go_size | omega), f7.mono (by simp; omega), by repeat' first | (with_reducible first | apply zRf | assumption | apply zDn | apply zDr | apply zAl | apply zSt | refine zVi (by assumption) ?_ ?_) | go_size⟩
      case measure => simp [intOf]; omega
    · obtain rfl : k = m := by omega
      go_wp2_with fail
      refine bodyPost_ret (v := .agg #[.bool b, .slice a n c]) (by simp [results, Try.results62, go_sem, kR0, kR1, kA0, kA1]) rfl ⟨_, _, _, _, rfl, ?_, ?_, ?_⟩
      · have HR1 := HR.out
        rw [← HV.out]
        (repeat' first | (with_reducible first | assumption | (apply Ne.symm; assumption) | apply Nat.le_refl | apply Nat.le_add_right | apply zL | apply zRf | apply Wx.box | apply Wx.box4 | apply zWa | apply Wx.drew | apply zWn | apply bx_drew | apply bx_drewN | apply bx_set3 | apply bx_set2 | apply bx_set4 | apply bx_set1) | ((with_reducible apply bx_new); (focus (go_size; done))) | (with_reducible first | apply zOl | apply zFa | apply zDn | apply zDr | apply zAl | apply zSt | refine zVi (by assumption) ?_ ?_) | go_size | omega)
      · exact hfr
      · repeat' first | (with_reducible first | apply zRf | assumption | apply zDn | apply zDr | apply zAl | apply zSt | refine zVi (by assumption) ?_ ?_) | go_size
theorem productWholes_eq {g m : Nat} {zs : List Int} {v : Int} {w : World} (h : LxAt w g zs) (hm : zs.length = m) (hmb : m ≤ 5) (hv : prodZ zs m = v) (hl : ∀ z ∈ zs, ln z ≤ 1500) :
    Calls Try.prog 62 #[.slice (some ⟨g, 0, none⟩) m m] w (NewW w v) :=
  productWholes_any h hm (by omega) hv (fun k => by have := prodZ_ln hl k; omega) (fun i => Nat.le_trans (getD_ln hl i) (by omega))
theorem sumWholes_eq {g m : Nat} {zs : List Int} {v : Int} {w : World} (h : LxAt w g zs) (hm : zs.length = m) (hmb : m ≤ 5) (hv : sumZ zs m = v) (hl : ∀ z ∈ zs, ln z ≤ 1500) :
    Calls Try.prog 61 #[.slice (some ⟨g, 0, none⟩) m m] w (NewW w v) :=
  sumWholes_any h hm (by omega) hv (fun k => by have := sumZ_ln hl k; omega) (fun i => Nat.le_trans (getD_ln hl i) (by omega))
theorem wholeOf_eq {d v : Int} {W : World} (e : d = v) (h1 : -9223372036854775807 ≤ d) (h2 : d ≤ 9223372036854775807) : Calls Try.prog 63 #[.int .i64 d] W (NewW W v) := by subst e; exact wholeOf_any d W h1 h2
end Go.Proofs.Ytijpfnkhaldfeaa
