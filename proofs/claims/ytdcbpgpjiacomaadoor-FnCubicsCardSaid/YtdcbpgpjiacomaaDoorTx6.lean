/- Texts of rows of numbers and of points: the program. -/
import Derived.Test.YtdcbpgpjiacomaaDoorTx5
import Derived.Maps.AppendAt
namespace Go.Proofs.YtdcbpgpjiacomaaDoor
open Go.RowKit
set_option linter.unusedVariables false
set_option maxHeartbeats 4000000
set_option maxRecDepth 20000
set_option linter.unusedSimpArgs false
theorem lens_bd {ss : List (List UInt8)} {m : Nat} (h : ∀ s ∈ ss, s.length ≤ m) : Lib.lens ss ≤ ss.length * m := by
  induction ss with
  | nil => simp [Lib.lens]
  | cons a t ih =>
    have h1 := ih fun s hs => h s (by simp [hs])
    have h2 := h a (by simp)
    simp only [Lib.lens, List.map_cons, List.sum_cons, List.length_cons, Nat.add_mul] at h1 ⊢
    omega
theorem join_bd {ss : List (List UInt8)} {m : Nat} (h : ∀ s ∈ ss, s.length ≤ m) : (Lib.join ss [32]).length ≤ ss.length * (m + 1) := by
  cases ss with
  | nil => simp [Lib.join]
  | cons a t =>
    have h1 := lens_bd (ss := t) fun s hs => h s (by simp [hs])
    have h2 := h a (by simp)
    rw [Lib.join_cons, List.length_append, Lib.joinTail_length]
    simp only [List.length_cons, List.length_nil, Nat.add_mul, Nat.mul_add]
    omega
theorem OwnS.below {W W2 : World} {B : Nat} {T : TypeId} {v : Value} {ss : List (List UInt8)} (h : OwnS W B T v ss) (hb : Below W.heap.size W W2) : OwnS W2 B T v ss := by
  refine ⟨h.1, ?_⟩
  rcases h.2 with h2 | ⟨g, c, cur, h1, hB, hg, hr⟩
  · exact .inl h2
  · exact .inr ⟨g, c, cur, h1, hB, by rw [← hg]; exact hb.block _ (Array.getElem?_eq_some_iff.1 hg).1, hr⟩
def NuRel (w : World) (zs : List Int) (ov iv : Value) (wr : World) : Prop := ∃ (k : Nat) (v : Value), iv = .int .i64 k ∧ v = ov ∧ k ≤ zs.length ∧ wr.ownsRow w.heap.size 9 1 v k (strs (nmL zs k)) ∧ Below w.heap.size w wr
theorem numbersText_any (a : Option Addr) (n c : Nat) (zs : List Int) (w0 w : World) (h : Sx w a n c zs) (h0 : 1 ≤ n) (h1 : n ≤ 100) (hz : ∀ x ∈ zs, -9223372036854775807 ≤ x ∧ x ≤ 9223372036854775807) (ht : Lib.TabIs Tryd.prog w0 "internal/strconv.uint64pow10" .u64 Lib.pow10Tab) (hb : Below w0.heap.size w0 w) :
    Calls Tryd.prog 52 #[.slice a n c] w fun e w' => e = .returned (.string ⟨(Lib.join (zs.map Lib.itoa) [32]).toArray⟩) ∧ Below w.heap.size w w' := by
  obtain ⟨i0, hi, iz0, iz1, iz2⟩ := info_parts infoStr
  have hs0 := hb.size
  have hnl := h.len
  have hnm := h.cap
  have hnm2 := h.max
  unfold maxLen at hnm2
  have HT := Lib.hid ht
  have HB := Lib.hid hb
  clear ht hb
  have tok1 : True := trivial
  have tok2 : True := trivial
  go_enter Tryd.func52, Tryd.ntmps52
  go_wp2_with fail
  go_loopw [3, 8] (fun ov iv wr => NuRel w zs ov iv wr) (fun _ iv _ => (n - intOf iv).toNat)
  case atStart => exact ⟨0, _, rfl, rfl, by omega, OwnS.nil _ _ _, Below.refl _ _⟩
  case round =>
    obtain ⟨k, v, rfl, rfl, hk, ho, hbw⟩ := hrel
    have HO := Lib.hid (show OwnS wr w.heap.size 9 v (nmL zs k) by unfold OwnS; rw [nmL_len hk]; exact ho)
    have hkl := Lib.hid (nmL_len (zs := zs) hk)
    have hsw := hbw.size
    clear ho
    by_cases h0k : k < n
    · obtain ⟨b, off, rfl, hbk, hcs⟩ := h.row (by omega)
      have c0 := (hbw.cell (p := ⟨b, off + k, none⟩) hbk).trans (hcs k (by omega))
      have hx := hz (zs.getD k 0) (by rw [List.getD_eq_getElem?_getD, List.getElem?_eq_getElem (by omega)]; exact List.getElem_mem _)
      have hnx := Lib.hid (nmL_next (zs := zs) (k := k) (by omega))
      have hk2 : (k : Int) < (n : Int) := by omega
      clear hcs
      generalize zs.getD k 0 = x at *
      have TI := fun (W : World) (hW : Below w.heap.size w W) => Lib.hid (Itoa_any x (by omega) (by omega) w0 W HT.out (below_via hW HB.out hs0))
      have hl := Lib.itoa_length_le x (by omega) (by omega)
      generalize Lib.itoa x = D at *
      go_wp2_with (first | (have _t := tok1; go_at_call 74; (with_reducible refine ((TI _ (by repeat' first | (with_reducible first | apply zRf | assumption | apply zDn | apply zDr | apply zAl | apply zSt | refine zVi (by assumption) ?_ ?_) | go_size)).out).mono ?_); rintro e w1 ⟨rfl, hb1⟩; clear tok1 _t; have hz1 := hb1.size; (try simp only [World.size_alloc, World.size_setCell, World.size_drew, World.size_drewN'] at hz1)) | (at_builtin; refine wpList_append_own_at _ rfl _ _ 98 rfl w.heap.size 9 i0 (.string ⟨#[]⟩) 1 16 Tryd.underlying98 hi iz0 iz1 iz2 rfl (by decide) v (nmL zs k).length _ rfl ((HO.out.below hb1).alloc _) ⟨w1.heap.size, 0, none⟩ 1 1 [_] rfl rfl (cell_one_new _ _ _) (by simp [Value.oneCell']) (by rw [hkl.out]; unfold maxLen; omega) (by rw [hkl.out]; omega) (by simp; omega) ?_; intro v1 w5 hv1 hg1 _ hat))
      go_wp2_with fail
      go_roundw
      case rel =>
        refine ⟨k + 1, v1, by go_num, rfl, by omega, ?_, ?_⟩
        · rw [hnx.out, strs_append, strs_one]
          have e := hv1
          rw [hkl.out] at e
          exact e
        · refine Below.grown ?_ hg1 (by simp; omega) (fun j hj => (HO.out.lt _ hj).1)
          repeat' first | (with_reducible first | apply zRf | assumption | apply zDn | apply zDr | apply zAl | apply zSt | refine zVi (by assumption) ?_ ?_) | go_size
      case measure => simp [intOf]; omega
    · obtain rfl : k = n := by omega
      have HJ := Lib.hid (Join_any (nmL zs k) v wr w.heap.size HO.out (by rw [hkl.out]; omega) (by rw [hkl.out]; omega) (by
        refine Nat.le_trans (join_bd (m := 21) ?_) (by rw [hkl.out]; omega)
        intro s hs
        obtain ⟨x, hx, rfl⟩ := List.mem_map.1 hs
        have := hz x (List.mem_of_mem_take hx)
        exact Lib.itoa_length_le x (by omega) (by omega)))
      rw [show nmL zs k = zs.map Lib.itoa by rw [← hnl]; exact nmL_all zs] at HJ
      obtain ⟨D, hD⟩ : ∃ D, Lib.join (zs.map Lib.itoa) [32] = D := ⟨_, rfl⟩
      rw [hD] at HJ
      have HD := Lib.hid hD
      clear hD
      go_wp2_with (first | (have _t := tok2; go_at_call 68; refine (HJ.out).mono ?_; rintro e w2 ⟨rfl, hb2⟩; clear tok2 _t; have hz2 := hb2.size; (try simp only [World.size_alloc, World.size_setCell, World.size_drew, World.size_drewN'] at hz2)))
      go_ret
      refine ⟨by rw [HD.out]; rfl, ?_⟩
      repeat' first | (with_reducible first | apply zRf | assumption | apply zDn | apply zDr | apply zAl | apply zSt | refine zVi (by assumption) ?_ ?_) | go_size
theorem pointText_any (x y e : Int) (he : e = 0 ∨ 1 ≤ e ∧ e ≤ 20) (hx : -10000 ≤ x ∧ x ≤ 10000) (hy : -9000000 ≤ y ∧ y ≤ 9000000) (w0 w : World) (ht : Lib.TabIs Tryd.prog w0 "internal/strconv.uint64pow10" .u64 Lib.pow10Tab) (hb : Below w0.heap.size w0 w) :
    Calls Tryd.prog 67 #[.agg #[.int .i64 x, .int .i64 y, .int .i64 e]] w fun r w' => r = .returned (.string ⟨(ptT x y e).toArray⟩) ∧ Below w.heap.size w w' := by
  have hs0 := hb.size
  have m1 := mul_bd (a := e) (b := e) (A := 20) (B := 20) (by omega) (by omega)
  have m2 := mul_bd (a := e * e) (b := e) (A := 400) (B := 20) (by omega) (by omega)
  by_cases h0 : e = 0
  · subst h0
    rw [show ptT x y 0 = [79] from if_pos rfl]
    clear ht hb
    go_enter Tryd.func67, Tryd.ntmps67
    go_wp2_with fail
    go_ret
    refine ⟨rfl, ?_⟩
    repeat' first | (with_reducible first | apply zRf | assumption | apply zDn | apply zDr | apply zAl | apply zSt | refine zVi (by assumption) ?_ ?_) | go_size
  · rw [show ptT x y e = [40] ++ frT x (e * e) ++ [44] ++ frT y (e * e * e) ++ [41] from if_neg h0]
    have p1 : 1 ≤ e * e := by
      have := Int.mul_le_mul (show 1 ≤ e by omega) (show 1 ≤ e by omega) (by omega) (by omega)
      omega
    have p2 : 1 ≤ e * e * e := by
      have := Int.mul_le_mul p1 (show 1 ≤ e by omega) (by omega) (by omega)
      omega
    have h0' : (e == 0) = false := by simpa using h0
    have TA := fun (W : World) (hW : Below w.heap.size w W) => Lib.hid (fractionText_any x (e * e) (by omega) (by omega) w0 W ht (below_via hW hb hs0))
    have TB := fun (W : World) (hW : Below w.heap.size w W) => Lib.hid (fractionText_any y (e * e * e) (by omega) (by omega) w0 W ht (below_via hW hb hs0))
    have hl := frT_len x (e * e) (by omega) (by omega)
    have hl2 := frT_len y (e * e * e) (by omega) (by omega)
    generalize frT x (e * e) = D at *
    generalize frT y (e * e * e) = E at *
    clear ht hb
    go_enter Tryd.func67, Tryd.ntmps67
    go_wp2_with fail
    refine wp_drawn' (n := 25) (by kernel_rfl) (by kernel_rfl) (by kernel_rfl) ?_
    apply Exists.intro
    refine ⟨?_, ?_⟩
    · intro W hW
      try (have kx_w_0_0 := fun x => xcell hW (w.heap.size) (by go_size) x 0; simp [go_sem, *] at kx_w_0_0)
      try (have kx_w_0_1 := fun x => xcell hW (w.heap.size) (by go_size) x 1; simp [go_sem, *] at kx_w_0_1)
      try (have kx_w_0_2 := fun x => xcell hW (w.heap.size) (by go_size) x 2; simp [go_sem, *] at kx_w_0_2)
      simp only [List.take_succ_cons, List.take_zero]
      repeat (go_big_quiet_step ((first | (go_at_call 69; (with_reducible exact draw_of _ ((TA _ (below_via (Over.lies _) (below_via hW (by repeat' first | (with_reducible first | apply zRf | assumption | apply zDn | apply zDr | apply zAl | apply zSt | refine zVi (by assumption) ?_ ?_) | go_size) (by go_size)) (by (have := hW.size; (try simp only [World.size_alloc, World.size_setCell, World.size_drew, World.size_drewN'] at this); omega)))).out))) | (go_at_call 69; (with_reducible exact draw_of _ ((TB _ (below_via (Over.lies _) (below_via hW (by repeat' first | (with_reducible first | apply zRf | assumption | apply zDn | apply zDr | apply zAl | apply zSt | refine zVi (by assumption) ?_ ?_) | go_size) (by go_size)) (by (have := hW.size; (try simp only [World.size_alloc, World.size_setCell, World.size_drew, World.size_drewN'] at this); omega)))).out))))))
      exact wpQuiet_nil rfl
    intro w1 hb1
    simp only [List.drop_succ_cons, List.drop_zero, Act.put, List.setIfInBounds_toArray, List.set_cons_succ, List.set_cons_zero]
    have hz1 := hb1.size
    (try simp only [World.size_alloc, World.size_setCell, World.size_drew, World.size_drewN'] at hz1)
    (try (have kq := cellAt hb1 (w.heap.size) (by go_size); have k1_w_0_0 := kq 0; have k1_w_0_1 := kq 1; have k1_w_0_2 := kq 2; clear kq; have f1_w_0 := frozAt hb1 (w.heap.size) (by go_size); simp [go_sem, *] at k1_w_0_0 k1_w_0_1 k1_w_0_2 f1_w_0))
    (try have l1_w_0 : w.heap.size < w1.heap.size := by omega)
    go_wp2_with fail
    go_ret
    refine ⟨cat5p D E, ?_⟩
    repeat' first | (with_reducible first | apply zRf | assumption | apply zDn | apply zDr | apply zAl | apply zSt | refine zVi (by assumption) ?_ ?_) | go_size
theorem ptPart_any (n d : Int) (h0 : -9223372036854775807 ≤ n ∧ n ≤ 9223372036854775807) (h1 : 1 ≤ d ∧ d ≤ 9223372036854775807) (w : World) : Calls Tryd.prog 79 #[.int .i64 n, .int .i64 d] w fun e w' => e = .returned (.string ⟨(frT n d).toArray⟩) ∧ Below w.heap.size w w' := by
  have TA := fun W : World => Lib.hid (frText_any n d h0 h1 W)
  generalize frT n d = D at *
  have tok1 : True := trivial
  go_enter Tryd.func79, Tryd.ntmps79
  go_wp2_with (first | (have _t := tok1; go_at_call 64; (with_reducible refine ((TA _).out).mono ?_); rintro e w1 ⟨rfl, hb1⟩; clear tok1 _t; have hz1 := hb1.size; (try simp only [World.size_alloc, World.size_setCell, World.size_drew, World.size_drewN'] at hz1)))
  go_ret
  refine ⟨rfl, ?_⟩
  repeat' first | (with_reducible first | apply zRf | assumption | apply zDn | apply zDr | apply zAl | apply zSt | refine zVi (by assumption) ?_ ?_) | go_size
theorem ptText_any (x y e : Int) (he : e = 0 ∨ 1 ≤ e ∧ e ≤ 20) (hx : -10000 ≤ x ∧ x ≤ 10000) (hy : -9000000 ≤ y ∧ y ≤ 9000000) (w : World) :
    Calls Tryd.prog 63 #[.agg #[.int .i64 x, .int .i64 y, .int .i64 e]] w fun r w' => r = .returned (.string ⟨(ptT x y e).toArray⟩) ∧ Below w.heap.size w w' := by
  have m1 := mul_bd (a := e) (b := e) (A := 20) (B := 20) (by omega) (by omega)
  have m2 := mul_bd (a := e * e) (b := e) (A := 400) (B := 20) (by omega) (by omega)
  by_cases h0 : e = 0
  · subst h0
    rw [show ptT x y 0 = [79] from if_pos rfl]
    go_enter Tryd.func63, Tryd.ntmps63
    go_wp2_with fail
    go_ret
    refine ⟨rfl, ?_⟩
    repeat' first | (with_reducible first | apply zRf | assumption | apply zDn | apply zDr | apply zAl | apply zSt | refine zVi (by assumption) ?_ ?_) | go_size
  · rw [show ptT x y e = [40] ++ frT x (e * e) ++ [44] ++ frT y (e * e * e) ++ [41] from if_neg h0]
    have p1 : 1 ≤ e * e := by
      have := Int.mul_le_mul (show 1 ≤ e by omega) (show 1 ≤ e by omega) (by omega) (by omega)
      omega
    have p2 : 1 ≤ e * e * e := by
      have := Int.mul_le_mul p1 (show 1 ≤ e by omega) (by omega) (by omega)
      omega
    have h0' : (e == 0) = false := by simpa using h0
    have TA := fun (W : World) => Lib.hid (ptPart_any x (e * e) (by omega) (by omega) W)
    have TB := fun (W : World) => Lib.hid (ptPart_any y (e * e * e) (by omega) (by omega) W)
    have hl := frT_len x (e * e) (by omega) (by omega)
    have hl2 := frT_len y (e * e * e) (by omega) (by omega)
    generalize frT x (e * e) = D at *
    generalize frT y (e * e * e) = E at *
    go_enter Tryd.func63, Tryd.ntmps63
    go_wp2_with fail
    refine wp_drawn' (n := 23) (by kernel_rfl) (by kernel_rfl) (by kernel_rfl) ?_
    apply Exists.intro
    refine ⟨?_, ?_⟩
    · intro W hW
      try (have kx_w_0_0 := fun x => xcell hW (w.heap.size) (by go_size) x 0; simp [go_sem, *] at kx_w_0_0)
      try (have kx_w_0_1 := fun x => xcell hW (w.heap.size) (by go_size) x 1; simp [go_sem, *] at kx_w_0_1)
      try (have kx_w_0_2 := fun x => xcell hW (w.heap.size) (by go_size) x 2; simp [go_sem, *] at kx_w_0_2)
      simp only [List.take_succ_cons, List.take_zero]
      repeat (go_big_quiet_step ((first | (go_at_call 79; (with_reducible exact draw_of _ ((TA _).out))) | (go_at_call 79; (with_reducible exact draw_of _ ((TB _).out))))))
      exact wpQuiet_nil rfl
    intro w1 hb1
    simp only [List.drop_succ_cons, List.drop_zero, Act.put, List.setIfInBounds_toArray, List.set_cons_succ, List.set_cons_zero]
    have hz1 := hb1.size
    (try simp only [World.size_alloc, World.size_setCell, World.size_drew, World.size_drewN'] at hz1)
    (try (have kq := cellAt hb1 (w.heap.size) (by go_size); have k1_w_0_0 := kq 0; have k1_w_0_1 := kq 1; have k1_w_0_2 := kq 2; clear kq; have f1_w_0 := frozAt hb1 (w.heap.size) (by go_size); simp [go_sem, *] at k1_w_0_0 k1_w_0_1 k1_w_0_2 f1_w_0))
    (try have l1_w_0 : w.heap.size < w1.heap.size := by omega)
    go_wp2_with fail
    go_ret
    refine ⟨cat5p D E, ?_⟩
    repeat' first | (with_reducible first | apply zRf | assumption | apply zDn | apply zDr | apply zAl | apply zSt | refine zVi (by assumption) ?_ ?_) | go_size
theorem cat3e (D E : List UInt8) : Ending.returned (.string ((⟨D.toArray⟩ : ByteArray) ++ ⟨#[32]⟩ ++ ⟨E.toArray⟩)) = Ending.returned (.string ⟨(D ++ [32] ++ E).toArray⟩) := by
  rw [show (#[32] : Array UInt8) = [32].toArray from rfl, bcat, bcat]
theorem ecText_any (A B : Int) (h0 : -9223372036854775807 ≤ A ∧ A ≤ 9223372036854775807) (h1 : -9223372036854775807 ≤ B ∧ B ≤ 9223372036854775807) (w : World) : Calls Tryd.prog 62 #[.agg #[.int .i64 A, .int .i64 B]] w fun e w' => e = .returned (.string ⟨(Lib.itoa A ++ [32] ++ Lib.itoa B).toArray⟩) ∧ Below w.heap.size w w' := by
  have TA := fun W : World => Lib.hid (l1Int_any A (by omega) (by omega) W)
  have TB := fun W : World => Lib.hid (l1Int_any B (by omega) (by omega) W)
  have hl := Lib.itoa_length_le A (by omega) (by omega)
  have hl2 := Lib.itoa_length_le B (by omega) (by omega)
  generalize Lib.itoa A = D at *
  generalize Lib.itoa B = E at *
  go_enter Tryd.func62, Tryd.ntmps62
  go_wp2_with fail
  refine wp_drawn' (n := 8) (by kernel_rfl) (by kernel_rfl) (by kernel_rfl) ?_
  apply Exists.intro
  refine ⟨?_, ?_⟩
  · intro W hW
    try (have kx_w_0_0 := fun x => xcell hW (w.heap.size) (by go_size) x 0; simp [go_sem, *] at kx_w_0_0)
    try (have kx_w_0_1 := fun x => xcell hW (w.heap.size) (by go_size) x 1; simp [go_sem, *] at kx_w_0_1)
    simp only [List.take_succ_cons, List.take_zero]
    repeat (go_big_quiet_step ((first | (go_at_call 53; (with_reducible exact draw_of _ ((TA _).out))) | (go_at_call 53; (with_reducible exact draw_of _ ((TB _).out))))))
    exact wpQuiet_nil rfl
  intro w1 hb1
  simp only [List.drop_succ_cons, List.drop_zero, Act.put, List.setIfInBounds_toArray, List.set_cons_succ, List.set_cons_zero]
  have hz1 := hb1.size
  (try simp only [World.size_alloc, World.size_setCell, World.size_drew, World.size_drewN'] at hz1)
  (try (have kq := cellAt hb1 (w.heap.size) (by go_size); have k1_w_0_0 := kq 0; have k1_w_0_1 := kq 1; clear kq; have f1_w_0 := frozAt hb1 (w.heap.size) (by go_size); simp [go_sem, *] at k1_w_0_0 k1_w_0_1 f1_w_0))
  (try have l1_w_0 : w.heap.size < w1.heap.size := by omega)
  go_wp2_with fail
  go_ret
  refine ⟨cat3e D E, ?_⟩
  repeat' first | (with_reducible first | apply zRf | assumption | apply zDn | apply zDr | apply zAl | apply zSt | refine zVi (by assumption) ?_ ?_) | go_size
end Go.Proofs.YtdcbpgpjiacomaaDoor
