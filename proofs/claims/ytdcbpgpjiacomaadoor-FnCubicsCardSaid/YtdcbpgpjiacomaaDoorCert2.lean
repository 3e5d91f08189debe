/- Certificates: both sides. -/
import Derived.Test.YtdcbpgpjiacomaaDoorCert
namespace Go.Proofs.YtdcbpgpjiacomaaDoor
open Go.RowKit
set_option linter.unusedVariables false
set_option maxHeartbeats 1000000
set_option maxRecDepth 20000
set_option linter.unusedSimpArgs false
attribute [local go_sem] openAt openUpon
theorem pointList_any (A B : Int) (a : Option Addr) (n c : Nat) (zs : List Int) (w : World) (h : Px w a n c zs) : Calls Tryd.prog 66 #[.agg #[.int .i64 A, .int .i64 B], .slice a n c] w fun e w' => e = .returned (.bool (plB A B zs n)) ∧ Below w.heap.size w w' := by
  have hnm := h.cap
  have hnm2 := h.max
  unfold maxLen at hnm2
  have T1 := fun W : World => Lib.hid (isCurve_any A B W)
  have T2 := fun W : World => Lib.hid (inside_any n 1 4 W)
  have T3 : ∀ W : World, Below w.heap.size w W → W.cell? ⟨w.heap.size, 0, none⟩ = some (.int .i64 A) → W.cell? ⟨w.heap.size, 1, none⟩ = some (.int .i64 B) → Calls Tryd.prog 81 #[.slice a n c, .func (.func 82) #[] #[.pointer (some ⟨w.heap.size, 0, none⟩)]] W fun e w' => e = .returned (.bool (!((List.range n).all fun j => cvB A B && ptAt A B zs j))) ∧ Below W.heap.size W w' := fun W hW kA kB => containsPts_any A B a n c w.heap.size zs W (h.below hW) kA kB (by
    rcases Nat.lt_or_ge w.heap.size W.heap.size with h' | h'
    · exact h'
    · simp [World.cell?, Array.getElem?_eq_none (by simpa using h')] at kA)
  cases h1 : cvB A B
  · have HP := Lib.hid (show plB A B zs n = false by simp [plB, h1])
    rw [h1] at T1
    clear h1
    have tok1 : True := trivial
    have tok2 : True := trivial
    go_enter Tryd.func66, Tryd.ntmps66
    go_wp2_with (first | (have _t := tok1; go_at_call 80; (with_reducible refine ((T1 _).out).mono ?_); rintro e w1 ⟨rfl, hb1⟩; clear tok1 _t; have hz1 := hb1.size; (try simp only [World.size_alloc, World.size_setCell, World.size_drew, World.size_drewN'] at hz1); (try (have kq := cellAt hb1 (w.heap.size) (by go_size); have k1_w_0_0 := kq 0; have k1_w_0_1 := kq 1; clear kq; have f1_w_0 := frozAt hb1 (w.heap.size) (by go_size); simp [go_sem, *] at k1_w_0_0 k1_w_0_1 f1_w_0)); (try have l1_w_0 : w.heap.size < w1.heap.size := by omega)) | (go_at_call 41; (with_reducible refine ((T2 _).out).mono ?_); rintro e w' ⟨rfl, rfl⟩) | (have _t := tok2; go_at_call 81; (with_reducible refine ((T3 _ (by repeat' first | (with_reducible first | apply zRf | assumption | apply zDn | apply zDr | apply zAl | apply zSt | refine zVi (by assumption) ?_ ?_) | go_size) (by assumption) (by assumption))).mono ?_); rintro e w2 ⟨rfl, hb2⟩; clear tok2 _t; have hz2 := hb2.size; (try simp only [World.size_alloc, World.size_setCell, World.size_drew, World.size_drewN'] at hz2); (try (have kq := cellAt hb2 (w.heap.size) (by go_size); have k2_w_0_0 := kq 0; have k2_w_0_1 := kq 1; clear kq; have f2_w_0 := frozAt hb2 (w.heap.size) (by go_size); simp [go_sem, *] at k2_w_0_0 k2_w_0_1 f2_w_0)); (try have l2_w_0 : w.heap.size < w2.heap.size := by omega); (try clear k1_w_0_0 k1_w_0_1 f1_w_0); (try clear l1_w_0)))
    go_ret
    refine ⟨ret_bool HP.out.symm, ?_⟩
    repeat' first | (with_reducible first | apply zRf | assumption | apply zDn | apply zDr | apply zAl | apply zSt | refine zVi (by assumption) ?_ ?_) | go_size
  · cases h2 : inB n 1 4
    · have HP := Lib.hid (show plB A B zs n = false by simp [plB, h2])
      rw [h1] at T1
      rw [h2] at T2
      clear h1 h2
      have tok1 : True := trivial
      have tok2 : True := trivial
      go_enter Tryd.func66, Tryd.ntmps66
      go_wp2_with (first | (have _t := tok1; go_at_call 80; (with_reducible refine ((T1 _).out).mono ?_); rintro e w1 ⟨rfl, hb1⟩; clear tok1 _t; have hz1 := hb1.size; (try simp only [World.size_alloc, World.size_setCell, World.size_drew, World.size_drewN'] at hz1); (try (have kq := cellAt hb1 (w.heap.size) (by go_size); have k1_w_0_0 := kq 0; have k1_w_0_1 := kq 1; clear kq; have f1_w_0 := frozAt hb1 (w.heap.size) (by go_size); simp [go_sem, *] at k1_w_0_0 k1_w_0_1 f1_w_0)); (try have l1_w_0 : w.heap.size < w1.heap.size := by omega)) | (go_at_call 41; (with_reducible refine ((T2 _).out).mono ?_); rintro e w' ⟨rfl, rfl⟩) | (have _t := tok2; go_at_call 81; (with_reducible refine ((T3 _ (by repeat' first | (with_reducible first | apply zRf | assumption | apply zDn | apply zDr | apply zAl | apply zSt | refine zVi (by assumption) ?_ ?_) | go_size) (by assumption) (by assumption))).mono ?_); rintro e w2 ⟨rfl, hb2⟩; clear tok2 _t; have hz2 := hb2.size; (try simp only [World.size_alloc, World.size_setCell, World.size_drew, World.size_drewN'] at hz2); (try (have kq := cellAt hb2 (w.heap.size) (by go_size); have k2_w_0_0 := kq 0; have k2_w_0_1 := kq 1; clear kq; have f2_w_0 := frozAt hb2 (w.heap.size) (by go_size); simp [go_sem, *] at k2_w_0_0 k2_w_0_1 f2_w_0)); (try have l2_w_0 : w.heap.size < w2.heap.size := by omega); (try clear k1_w_0_0 k1_w_0_1 f1_w_0); (try clear l1_w_0)))
      go_ret
      refine ⟨ret_bool HP.out.symm, ?_⟩
      repeat' first | (with_reducible first | apply zRf | assumption | apply zDn | apply zDr | apply zAl | apply zSt | refine zVi (by assumption) ?_ ?_) | go_size
    · have HP := Lib.hid (show plB A B zs n = !(!((List.range n).all fun j => cvB A B && ptAt A B zs j)) by simp [plB, h1, h2, ptsB])
      generalize (List.range n).all (fun j => cvB A B && ptAt A B zs j) = v at *
      rw [h1] at T1
      rw [h2] at T2
      clear h1 h2
      have tok1 : True := trivial
      have tok2 : True := trivial
      go_enter Tryd.func66, Tryd.ntmps66
      go_wp2_with (first | (have _t := tok1; go_at_call 80; (with_reducible refine ((T1 _).out).mono ?_); rintro e w1 ⟨rfl, hb1⟩; clear tok1 _t; have hz1 := hb1.size; (try simp only [World.size_alloc, World.size_setCell, World.size_drew, World.size_drewN'] at hz1); (try (have kq := cellAt hb1 (w.heap.size) (by go_size); have k1_w_0_0 := kq 0; have k1_w_0_1 := kq 1; clear kq; have f1_w_0 := frozAt hb1 (w.heap.size) (by go_size); simp [go_sem, *] at k1_w_0_0 k1_w_0_1 f1_w_0)); (try have l1_w_0 : w.heap.size < w1.heap.size := by omega)) | (go_at_call 41; (with_reducible refine ((T2 _).out).mono ?_); rintro e w' ⟨rfl, rfl⟩) | (have _t := tok2; go_at_call 81; (with_reducible refine ((T3 _ (by repeat' first | (with_reducible first | apply zRf | assumption | apply zDn | apply zDr | apply zAl | apply zSt | refine zVi (by assumption) ?_ ?_) | go_size) (by assumption) (by assumption))).mono ?_); rintro e w2 ⟨rfl, hb2⟩; clear tok2 _t; have hz2 := hb2.size; (try simp only [World.size_alloc, World.size_setCell, World.size_drew, World.size_drewN'] at hz2); (try (have kq := cellAt hb2 (w.heap.size) (by go_size); have k2_w_0_0 := kq 0; have k2_w_0_1 := kq 1; clear kq; have f2_w_0 := frozAt hb2 (w.heap.size) (by go_size); simp [go_sem, *] at k2_w_0_0 k2_w_0_1 f2_w_0)); (try have l2_w_0 : w.heap.size < w2.heap.size := by omega); (try clear k1_w_0_0 k1_w_0_1 f1_w_0); (try clear l1_w_0)))
      go_ret
      refine ⟨ret_bool (by rw [HP.out]; simp), ?_⟩
      repeat' first | (with_reducible first | apply zRf | assumption | apply zDn | apply zDr | apply zAl | apply zSt | refine zVi (by assumption) ?_ ?_) | go_size
def ceB (A B : Int) (zs : List Int) (ln : Nat) (n d : Int) : Bool := plB A B zs ln && (frB n d && decide (0 < n))
theorem isCertificate_any (A B n d : Int) (a : Option Addr) (ln c gb : Nat) (zs : List Int) (w : World) (h : Px w a ln c zs) (k0 : w.cell? ⟨gb, 0, none⟩ = some (.int .i64 A)) (k1 : w.cell? ⟨gb, 1, none⟩ = some (.int .i64 B)) (k2 : w.cell? ⟨gb, 2, none⟩ = some (.slice a ln c)) (k3 : w.cell? ⟨gb, 3, none⟩ = some (.int .i64 n)) (k4 : w.cell? ⟨gb, 4, none⟩ = some (.int .i64 d)) (hgb : gb < w.heap.size) :
    Calls Tryd.prog 33 #[.pointer (some ⟨gb, 0, none⟩)] w fun e w' => e = .returned (.bool (ceB A B zs ln n d)) ∧ Below w.heap.size w w' := by
  have T1 : ∀ W : World, Below w.heap.size w W → Calls Tryd.prog 66 #[.agg #[.int .i64 A, .int .i64 B], .slice a ln c] W fun e w' => e = .returned (.bool (plB A B zs ln)) ∧ Below W.heap.size W w' := fun W hW => pointList_any A B a ln c zs W (h.below hW)
  have T2 := fun W : World => Lib.hid (isFraction_any n d W)
  cases h1 : plB A B zs ln
  · have HP := Lib.hid (show ceB A B zs ln n d = false by simp [ceB, h1])
    rw [h1] at T1
    clear h1
    go_enter Tryd.func33, Tryd.ntmps33
    go_wp2_with fail
    refine wp_drawn' (n := 24) (by kernel_rfl) (by kernel_rfl) (by kernel_rfl) ?_
    apply Exists.intro
    refine ⟨?_, ?_⟩
    · intro W hW
      try (have kx_gb_0 := fun x => xcell hW (gb) (by go_size) x 0; simp [go_sem, *] at kx_gb_0)
      try (have kx_gb_1 := fun x => xcell hW (gb) (by go_size) x 1; simp [go_sem, *] at kx_gb_1)
      try (have kx_gb_2 := fun x => xcell hW (gb) (by go_size) x 2; simp [go_sem, *] at kx_gb_2)
      try (have kx_gb_3 := fun x => xcell hW (gb) (by go_size) x 3; simp [go_sem, *] at kx_gb_3)
      try (have kx_gb_4 := fun x => xcell hW (gb) (by go_size) x 4; simp [go_sem, *] at kx_gb_4)
      simp only [List.take_succ_cons, List.take_zero]
      repeat (go_big_quiet_step ((first | (go_at_call 66; exact draw_of _ (T1 _ (hW.trans ((Over.lies _).mono hW.size)))) | (go_at_call 56; (with_reducible exact draw_of _ ((T2 _).out))))))
      exact wpQuiet_nil rfl
    intro w1 hb1
    simp only [List.drop_succ_cons, List.drop_zero, Act.put, List.setIfInBounds_toArray, List.set_cons_succ, List.set_cons_zero]
    have hz1 := hb1.size
    (try simp only [World.size_alloc, World.size_setCell, World.size_drew, World.size_drewN'] at hz1)
    (try (have kq := cellAt hb1 (gb) (by go_size); have k1_gb_0 := kq 0; have k1_gb_1 := kq 1; have k1_gb_2 := kq 2; have k1_gb_3 := kq 3; have k1_gb_4 := kq 4; clear kq; have f1_gb := frozAt hb1 (gb) (by go_size); simp [go_sem, *] at k1_gb_0 k1_gb_1 k1_gb_2 k1_gb_3 k1_gb_4 f1_gb))
    (try have l1_gb : gb < w1.heap.size := by omega)
    go_wp2_with fail
    go_ret
    refine ⟨ret_bool HP.out.symm, ?_⟩
    repeat' first | (with_reducible first | apply zRf | assumption | apply zDn | apply zDr | apply zAl | apply zSt | refine zVi (by assumption) ?_ ?_) | go_size
  · cases h2 : frB n d
    · have HP := Lib.hid (show ceB A B zs ln n d = false by simp [ceB, h2])
      rw [h1] at T1
      rw [h2] at T2
      clear h1 h2
      go_enter Tryd.func33, Tryd.ntmps33
      go_wp2_with fail
      refine wp_drawn' (n := 24) (by kernel_rfl) (by kernel_rfl) (by kernel_rfl) ?_
      apply Exists.intro
      refine ⟨?_, ?_⟩
      · intro W hW
        try (have kx_gb_0 := fun x => xcell hW (gb) (by go_size) x 0; simp [go_sem, *] at kx_gb_0)
        try (have kx_gb_1 := fun x => xcell hW (gb) (by go_size) x 1; simp [go_sem, *] at kx_gb_1)
        try (have kx_gb_2 := fun x => xcell hW (gb) (by go_size) x 2; simp [go_sem, *] at kx_gb_2)
        try (have kx_gb_3 := fun x => xcell hW (gb) (by go_size) x 3; simp [go_sem, *] at kx_gb_3)
        try (have kx_gb_4 := fun x => xcell hW (gb) (by go_size) x 4; simp [go_sem, *] at kx_gb_4)
        simp only [List.take_succ_cons, List.take_zero]
        repeat (go_big_quiet_step ((first | (go_at_call 66; exact draw_of _ (T1 _ (hW.trans ((Over.lies _).mono hW.size)))) | (go_at_call 56; (with_reducible exact draw_of _ ((T2 _).out))))))
        exact wpQuiet_nil rfl
      intro w1 hb1
      simp only [List.drop_succ_cons, List.drop_zero, Act.put, List.setIfInBounds_toArray, List.set_cons_succ, List.set_cons_zero]
      have hz1 := hb1.size
      (try simp only [World.size_alloc, World.size_setCell, World.size_drew, World.size_drewN'] at hz1)
      (try (have kq := cellAt hb1 (gb) (by go_size); have k1_gb_0 := kq 0; have k1_gb_1 := kq 1; have k1_gb_2 := kq 2; have k1_gb_3 := kq 3; have k1_gb_4 := kq 4; clear kq; have f1_gb := frozAt hb1 (gb) (by go_size); simp [go_sem, *] at k1_gb_0 k1_gb_1 k1_gb_2 k1_gb_3 k1_gb_4 f1_gb))
      (try have l1_gb : gb < w1.heap.size := by omega)
      go_wp2_with fail
      go_ret
      refine ⟨ret_bool HP.out.symm, ?_⟩
      repeat' first | (with_reducible first | apply zRf | assumption | apply zDn | apply zDr | apply zAl | apply zSt | refine zVi (by assumption) ?_ ?_) | go_size
    · have HP := Lib.hid (show ceB A B zs ln n d = decide (0 < n) by simp [ceB, h1, h2])
      rw [h1] at T1
      rw [h2] at T2
      clear h1 h2
      go_enter Tryd.func33, Tryd.ntmps33
      go_wp2_with fail
      refine wp_drawn' (n := 24) (by kernel_rfl) (by kernel_rfl) (by kernel_rfl) ?_
      apply Exists.intro
      refine ⟨?_, ?_⟩
      · intro W hW
        try (have kx_gb_0 := fun x => xcell hW (gb) (by go_size) x 0; simp [go_sem, *] at kx_gb_0)
        try (have kx_gb_1 := fun x => xcell hW (gb) (by go_size) x 1; simp [go_sem, *] at kx_gb_1)
        try (have kx_gb_2 := fun x => xcell hW (gb) (by go_size) x 2; simp [go_sem, *] at kx_gb_2)
        try (have kx_gb_3 := fun x => xcell hW (gb) (by go_size) x 3; simp [go_sem, *] at kx_gb_3)
        try (have kx_gb_4 := fun x => xcell hW (gb) (by go_size) x 4; simp [go_sem, *] at kx_gb_4)
        simp only [List.take_succ_cons, List.take_zero]
        repeat (go_big_quiet_step ((first | (go_at_call 66; exact draw_of _ (T1 _ (hW.trans ((Over.lies _).mono hW.size)))) | (go_at_call 56; (with_reducible exact draw_of _ ((T2 _).out))))))
        exact wpQuiet_nil rfl
      intro w1 hb1
      simp only [List.drop_succ_cons, List.drop_zero, Act.put, List.setIfInBounds_toArray, List.set_cons_succ, List.set_cons_zero]
      have hz1 := hb1.size
      (try simp only [World.size_alloc, World.size_setCell, World.size_drew, World.size_drewN'] at hz1)
      (try (have kq := cellAt hb1 (gb) (by go_size); have k1_gb_0 := kq 0; have k1_gb_1 := kq 1; have k1_gb_2 := kq 2; have k1_gb_3 := kq 3; have k1_gb_4 := kq 4; clear kq; have f1_gb := frozAt hb1 (gb) (by go_size); simp [go_sem, *] at k1_gb_0 k1_gb_1 k1_gb_2 k1_gb_3 k1_gb_4 f1_gb))
      (try have l1_gb : gb < w1.heap.size := by omega)
      go_wp2_with fail
      go_ret
      refine ⟨ret_bool HP.out.symm, ?_⟩
      repeat' first | (with_reducible first | apply zRf | assumption | apply zDn | apply zDr | apply zAl | apply zSt | refine zVi (by assumption) ?_ ?_) | go_size
end Go.Proofs.YtdcbpgpjiacomaaDoor
