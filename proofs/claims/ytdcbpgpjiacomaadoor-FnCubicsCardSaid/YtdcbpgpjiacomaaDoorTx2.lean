/- Texts of fractions and intervals, both sides. -/
import Derived.Test.YtdcbpgpjiacomaaDoorTx1
import Derived.Test.YtdcbpgpjiacomaaDoorDrawn
namespace Go.Proofs.YtdcbpgpjiacomaaDoor
open Go.RowKit
set_option linter.unusedVariables false
set_option maxRecDepth 8000
set_option maxHeartbeats 4000000
set_option linter.unusedSimpArgs false

def frT (n d : Int) : List UInt8 := if d = 1 then Lib.itoa n else Lib.itoa n ++ [47] ++ Lib.itoa d
def ivT (n1 d1 n2 d2 : Int) : List UInt8 := [91] ++ frT n1 d1 ++ [44] ++ frT n2 d2 ++ [93]
theorem frT_len (n d : Int) (h0 : -9223372036854775807 ≤ n ∧ n ≤ 9223372036854775807) (h1 : -9223372036854775807 ≤ d ∧ d ≤ 9223372036854775807) : (frT n d).length ≤ 43 := by
  have a := Lib.itoa_length_le n (by omega) (by omega)
  have b := Lib.itoa_length_le d (by omega) (by omega)
  unfold frT
  split <;> simp <;> omega
theorem cat3 (D E : List UInt8) : Ending.returned (.string ((⟨D.toArray⟩ : ByteArray) ++ ⟨#[47]⟩ ++ ⟨E.toArray⟩)) = Ending.returned (.string ⟨(D ++ [47] ++ E).toArray⟩) := by
  rw [show (#[47] : Array UInt8) = [47].toArray from rfl, bcat, bcat]
theorem cat5 (D E : List UInt8) : Ending.returned (.string ((⟨#[91]⟩ : ByteArray) ++ ⟨D.toArray⟩ ++ ⟨#[44]⟩ ++ ⟨E.toArray⟩ ++ ⟨#[93]⟩)) = Ending.returned (.string ⟨([91] ++ D ++ [44] ++ E ++ [93]).toArray⟩) := by
  rw [show (#[91] : Array UInt8) = [91].toArray from rfl, show (#[44] : Array UInt8) = [44].toArray from rfl, show (#[93] : Array UInt8) = [93].toArray from rfl, bcat, bcat, bcat, bcat]
theorem frText_any (n d : Int) (h0 : -9223372036854775807 ≤ n ∧ n ≤ 9223372036854775807) (h1 : 1 ≤ d ∧ d ≤ 9223372036854775807) (w : World) : Calls Tryd.prog 64 #[.agg #[.int .i64 n, .int .i64 d]] w fun e w' => e = .returned (.string ⟨(frT n d).toArray⟩) ∧ Below w.heap.size w w' := by
  have TI := fun W : World => Lib.hid (l1Int_any n (by omega) (by omega) W)
  have hl := Lib.itoa_length_le n (by omega) (by omega)
  by_cases h : d = 1
  · rw [show frT n d = Lib.itoa n from if_pos h]
    subst h
    generalize Lib.itoa n = D at *
    have tok1 : True := trivial
    go_enter Tryd.func64, Tryd.ntmps64
    go_wp2_with (first | (have _t := tok1; go_at_call 53; (with_reducible refine ((TI _).out).mono ?_); rintro e w1 ⟨rfl, hb1⟩; clear tok1 _t; have hz1 := hb1.size; (try simp only [World.size_alloc, World.size_setCell, World.size_drew, World.size_drewN'] at hz1); (try (have kq := cellAt hb1 (w.heap.size) (by go_size); have k1_w_0_0 := kq 0; have k1_w_0_1 := kq 1; clear kq; have f1_w_0 := frozAt hb1 (w.heap.size) (by go_size); simp [go_sem, *] at k1_w_0_0 k1_w_0_1 f1_w_0)); (try have l1_w_0 : w.heap.size < w1.heap.size := by omega); (try (have kq := cellAt hb1 (w.heap.size) (by go_size); have k1_w_0_0 := kq 0; have k1_w_0_1 := kq 1; clear kq; have f1_w_0 := frozAt hb1 (w.heap.size) (by go_size); simp [go_sem, *] at k1_w_0_0 k1_w_0_1 f1_w_0)); (try have l1_w_0 : w.heap.size < w1.heap.size := by omega)))
    go_ret
    refine ⟨rfl, ?_⟩
    repeat' first | (with_reducible first | apply zRf | assumption | apply zDn | apply zDr | apply zAl | apply zSt | refine zVi (by assumption) ?_ ?_) | go_size
  · rw [show frT n d = Lib.itoa n ++ [47] ++ Lib.itoa d from if_neg h]
    obtain ⟨m, hm⟩ : ∃ m : Nat, d = (m : Int) := ⟨d.toNat, by omega⟩
    have hl2 := Lib.itoa_length_le d (by omega) (by omega)
    have TN0 := l1Num_any m (by omega)
    rw [← hm, ← itoa_nn, ← hm] at TN0
    have TN := fun W : World => Lib.hid (TN0 W)
    clear TN0 hm
    generalize Lib.itoa n = D at *
    generalize Lib.itoa d = E at *
    have hd : (d == 1) = false := by simpa using h
    have tok1 : True := trivial
    go_enter Tryd.func64, Tryd.ntmps64
    go_wp2_with fail
    refine wp_drawn' (n := 8) (by kernel_rfl) (by kernel_rfl) (by kernel_rfl) ?_
    apply Exists.intro
    refine ⟨?_, ?_⟩
    · intro W hW
      try (have kx_w_0_0 := fun x => xcell hW (w.heap.size) (by go_size) x 0; simp [go_sem, *] at kx_w_0_0)
      try (have kx_w_0_1 := fun x => xcell hW (w.heap.size) (by go_size) x 1; simp [go_sem, *] at kx_w_0_1)
      simp only [List.take_succ_cons, List.take_zero]
      repeat (go_big_quiet_step ((first | (go_at_call 53; (with_reducible exact draw_of _ ((TI _).out))) | (go_at_call 75; (with_reducible exact draw_of _ ((TN _).out))))))
      exact wpQuiet_nil rfl
    intro w1 hb1
    simp only [List.drop_succ_cons, List.drop_zero, Act.put, List.setIfInBounds_toArray, List.set_cons_succ, List.set_cons_zero]
    have hz1 := hb1.size
    (try simp only [World.size_alloc, World.size_setCell, World.size_drew, World.size_drewN'] at hz1)
    (try (have kq := cellAt hb1 (w.heap.size) (by go_size); have k1_w_0_0 := kq 0; have k1_w_0_1 := kq 1; clear kq; have f1_w_0 := frozAt hb1 (w.heap.size) (by go_size); simp [go_sem, *] at k1_w_0_0 k1_w_0_1 f1_w_0))
    (try have l1_w_0 : w.heap.size < w1.heap.size := by omega)
    go_wp2_with fail
    go_ret
    refine ⟨cat3 D E, ?_⟩
    repeat' first | (with_reducible first | apply zRf | assumption | apply zDn | apply zDr | apply zAl | apply zSt | refine zVi (by assumption) ?_ ?_) | go_size
theorem fractionText_any (n d : Int) (h0 : -9223372036854775807 ≤ n ∧ n ≤ 9223372036854775807) (h1 : 1 ≤ d ∧ d ≤ 9223372036854775807) (w0 w : World) (ht : Lib.TabIs Tryd.prog w0 "internal/strconv.uint64pow10" .u64 Lib.pow10Tab) (hb : Below w0.heap.size w0 w) :
    Calls Tryd.prog 69 #[.agg #[.int .i64 n, .int .i64 d]] w fun e w' => e = .returned (.string ⟨(frT n d).toArray⟩) ∧ Below w.heap.size w w' := by
  have hs0 := hb.size
  have TI := fun (W : World) (hW : Below w.heap.size w W) => Lib.hid (Itoa_any n (by omega) (by omega) w0 W ht (below_via hW hb hs0))
  have hl := Lib.itoa_length_le n (by omega) (by omega)
  by_cases h : d = 1
  · rw [show frT n d = Lib.itoa n from if_pos h]
    subst h
    generalize Lib.itoa n = D at *
    clear ht hb
    have tok1 : True := trivial
    go_enter Tryd.func69, Tryd.ntmps69
    go_wp2_with (first | (have _t := tok1; go_at_call 74; (with_reducible refine ((TI _ (by repeat' first | (with_reducible first | apply zRf | assumption | apply zDn | apply zDr | apply zAl | apply zSt | refine zVi (by assumption) ?_ ?_) | go_size)).out).mono ?_); rintro e w1 ⟨rfl, hb1⟩; clear tok1 _t; have hz1 := hb1.size; (try simp only [World.size_alloc, World.size_setCell, World.size_drew, World.size_drewN'] at hz1); (try (have kq := cellAt hb1 (w.heap.size) (by go_size); have k1_w_0_0 := kq 0; have k1_w_0_1 := kq 1; clear kq; have f1_w_0 := frozAt hb1 (w.heap.size) (by go_size); simp [go_sem, *] at k1_w_0_0 k1_w_0_1 f1_w_0)); (try have l1_w_0 : w.heap.size < w1.heap.size := by omega); (try (have kq := cellAt hb1 (w.heap.size) (by go_size); have k1_w_0_0 := kq 0; have k1_w_0_1 := kq 1; clear kq; have f1_w_0 := frozAt hb1 (w.heap.size) (by go_size); simp [go_sem, *] at k1_w_0_0 k1_w_0_1 f1_w_0)); (try have l1_w_0 : w.heap.size < w1.heap.size := by omega)))
    go_ret
    refine ⟨rfl, ?_⟩
    repeat' first | (with_reducible first | apply zRf | assumption | apply zDn | apply zDr | apply zAl | apply zSt | refine zVi (by assumption) ?_ ?_) | go_size
  · rw [show frT n d = Lib.itoa n ++ [47] ++ Lib.itoa d from if_neg h]
    have hl2 := Lib.itoa_length_le d (by omega) (by omega)
    have TN := fun (W : World) (hW : Below w.heap.size w W) => Lib.hid (Itoa_any d (by omega) (by omega) w0 W ht (below_via hW hb hs0))
    generalize Lib.itoa n = D at *
    generalize Lib.itoa d = E at *
    have hd : (d == 1) = false := by simpa using h
    clear ht hb
    have tok1 : True := trivial
    go_enter Tryd.func69, Tryd.ntmps69
    go_wp2_with fail
    refine wp_drawn' (n := 8) (by kernel_rfl) (by kernel_rfl) (by kernel_rfl) ?_
    apply Exists.intro
    refine ⟨?_, ?_⟩
    · intro W hW
      try (have kx_w_0_0 := fun x => xcell hW (w.heap.size) (by go_size) x 0; simp [go_sem, *] at kx_w_0_0)
      try (have kx_w_0_1 := fun x => xcell hW (w.heap.size) (by go_size) x 1; simp [go_sem, *] at kx_w_0_1)
      simp only [List.take_succ_cons, List.take_zero]
      repeat (go_big_quiet_step ((first | (go_at_call 74; (with_reducible exact draw_of _ ((TI _ (below_via (Over.lies _) (below_via hW (by repeat' first | (with_reducible first | apply zRf | assumption | apply zDn | apply zDr | apply zAl | apply zSt | refine zVi (by assumption) ?_ ?_) | go_size) (by go_size)) (by (have := hW.size; (try simp only [World.size_alloc, World.size_setCell, World.size_drew, World.size_drewN'] at this); omega)))).out))) | (go_at_call 74; (with_reducible exact draw_of _ ((TN _ (below_via (Over.lies _) (below_via hW (by repeat' first | (with_reducible first | apply zRf | assumption | apply zDn | apply zDr | apply zAl | apply zSt | refine zVi (by assumption) ?_ ?_) | go_size) (by go_size)) (by (have := hW.size; (try simp only [World.size_alloc, World.size_setCell, World.size_drew, World.size_drewN'] at this); omega)))).out))))))
      exact wpQuiet_nil rfl
    intro w1 hb1
    simp only [List.drop_succ_cons, List.drop_zero, Act.put, List.setIfInBounds_toArray, List.set_cons_succ, List.set_cons_zero]
    have hz1 := hb1.size
    (try simp only [World.size_alloc, World.size_setCell, World.size_drew, World.size_drewN'] at hz1)
    (try (have kq := cellAt hb1 (w.heap.size) (by go_size); have k1_w_0_0 := kq 0; have k1_w_0_1 := kq 1; clear kq; have f1_w_0 := frozAt hb1 (w.heap.size) (by go_size); simp [go_sem, *] at k1_w_0_0 k1_w_0_1 f1_w_0))
    (try have l1_w_0 : w.heap.size < w1.heap.size := by omega)
    go_wp2_with fail
    go_ret
    refine ⟨cat3 D E, ?_⟩
    repeat' first | (with_reducible first | apply zRf | assumption | apply zDn | apply zDr | apply zAl | apply zSt | refine zVi (by assumption) ?_ ?_) | go_size
end Go.Proofs.YtdcbpgpjiacomaaDoor
