/- Texts of certificates: the implementation's side. -/
import Derived.Test.YtdcbpgpjiacomaaDoorTx7
import Derived.Test.YtdcbpgpjiacomaaDoorDrawn4
namespace Go.Proofs.YtdcbpgpjiacomaaDoor
open Go.RowKit
set_option linter.unusedVariables false
set_option maxHeartbeats 4000000
set_option maxRecDepth 20000
set_option linter.unusedSimpArgs false
attribute [local go_sem] openAt openUpon
theorem OwnS.of_row {W : World} {B g : Nat} {T : TypeId} {x : List UInt8} (h : W.heap[g]? = some (.cells #[.string ⟨x.toArray⟩] T (0, 0))) (hg : B ≤ g) : OwnS W B T (.slice (some ⟨g, 0, none⟩) 1 1) [x] :=
  ⟨by simp [strs], .inr ⟨g, 1, _, rfl, hg, h, by simp, by simp [maxLen], by simp, rfl⟩⟩
theorem nt_open (A B : Int) (w0 w1 w : World) (v : Value) (h0 : -9223372036854775807 ≤ A ∧ A ≤ 9223372036854775807) (h1 : -9223372036854775807 ≤ B ∧ B ≤ 9223372036854775807) (ht : Lib.TabIs Tryd.prog w0 "internal/strconv.uint64pow10" .u64 Lib.pow10Tab) (hb : Below w0.heap.size w0 w) (hv : (newRow w1 #[.int .i64 A, .int .i64 B] 3 2).ok v w) :
    Calls Tryd.prog 52 #[v] w fun e w' => e = .returned (.string ⟨(nmT A B).toArray⟩) ∧ Below w.heap.size w w' := by
  obtain ⟨g, rfl, hg, hk⟩ := hv
  have := numbersText_any (some ⟨g, 0, none⟩) 2 2 [A, B] w0 w (Sx.of_row hk rfl (by omega) (by decide) (fun j hj => by
    rcases (show j = 0 ∨ j = 1 by omega) with rfl | rfl <;> rfl)) (by omega) (by omega) (fun x hx => by
    simp at hx; rcases hx with rfl | rfl <;> assumption) ht hb
  rw [show ([A, B].map Lib.itoa) = [Lib.itoa A, Lib.itoa B] from rfl, join_two] at this
  exact this
def CeRel (w : World) (A B n d : Int) (zs : List Int) (ln : Nat) (ov iv : Value) (wr : World) : Prop := ∃ (k : Nat) (v : Value), iv = .int .i64 k ∧ v = ov ∧ k ≤ ln ∧ wr.ownsRow w.heap.size 9 1 v (1 + k) (strs (nmT A B :: ptL zs k)) ∧ Below w.heap.size w wr
theorem certificateText_any (A B n d : Int) (a : Option Addr) (ln c gb : Nat) (zs : List Int) (w0 w : World) (h : Px w a ln c zs) (k0 : w.cell? ⟨gb, 0, none⟩ = some (.int .i64 A)) (k1 : w.cell? ⟨gb, 1, none⟩ = some (.int .i64 B)) (k2 : w.cell? ⟨gb, 2, none⟩ = some (.slice a ln c)) (k3 : w.cell? ⟨gb, 3, none⟩ = some (.int .i64 n)) (k4 : w.cell? ⟨gb, 4, none⟩ = some (.int .i64 d)) (hgb : gb < w.heap.size)
    (h0 : -9223372036854775807 ≤ A ∧ A ≤ 9223372036854775807) (h1 : -9223372036854775807 ≤ B ∧ B ≤ 9223372036854775807) (hn : -9223372036854775807 ≤ n ∧ n ≤ 9223372036854775807) (hd : 1 ≤ d ∧ d ≤ 9223372036854775807) (hln : ln ≤ 4) (ho : ptOk zs ln)
    (ht : Lib.TabIs Tryd.prog w0 "internal/strconv.uint64pow10" .u64 Lib.pow10Tab) (hb : Below w0.heap.size w0 w) :
    Calls Tryd.prog 34 #[.pointer (some ⟨gb, 0, none⟩)] w fun e w' => e = .returned (.string ⟨(ceT A B zs ln n d).toArray⟩) ∧ Below w.heap.size w w' := by
  obtain ⟨i0, hi, iz0, iz1, iz2⟩ := info_parts infoStr
  have hs0 := hb.size
  have hnm := h.cap
  have hnm2 := h.max
  unfold maxLen at hnm2
  have TF := fun (W : World) (hW : Below w.heap.size w W) => Lib.hid (fractionText_any n d hn hd w0 W ht (below_via hW hb hs0))
  have hfl := frT_len n d (by omega) (by omega)
  have HT := Lib.hid ht
  have HB := Lib.hid hb
  have HO := Lib.hid ho
  clear ht hb ho
  have tok1 : True := trivial
  have tok2 : True := trivial
  have tok3 : True := trivial
  have tok4 : True := trivial
  go_enter Tryd.func34, Tryd.ntmps34
  go_wp2_with fail
  refine wp_open (n := 13) (by kernel_rfl) (by kernel_rfl) (by kernel_rfl) (by kernel_rfl) ?_
  simp only [List.take_succ_cons, List.take_zero]
  apply wpS_quiet
  · intro γ W hW hp
    refine ⟨rfl, ?_⟩
    go_big_quiet_op
    first | exact rfl
  · exact locS_const _
  try simp only [Act.put, List.setIfInBounds_toArray, List.set_cons_succ, List.set_cons_zero, Nat.reduceAdd]
  apply wpS_quiet
  · intro γ W hW hp
    refine ⟨rfl, ?_⟩
    go_big_quiet_op
    first | exact rfl
  · exact locS_const _
  try simp only [Act.put, List.setIfInBounds_toArray, List.set_cons_succ, List.set_cons_zero, Nat.reduceAdd]
  apply wpS_quiet
  · intro γ W hW hp
    refine ⟨rfl, ?_⟩
    go_big_quiet_op
    first | exact rfl
  · exact locS_const _
  try simp only [Act.put, List.setIfInBounds_toArray, List.set_cons_succ, List.set_cons_zero, Nat.reduceAdd]
  apply wpS_quiet
  · intro γ W hW hp
    refine ⟨rfl, ?_⟩
    go_big_quiet_op
    first | exact rfl
  · exact locS_const _
  try simp only [Act.put, List.setIfInBounds_toArray, List.set_cons_succ, List.set_cons_zero, Nat.reduceAdd]
  apply wpS_quiet
  · intro γ W hW hp
    have hs := hW.size
    (try simp only [World.size_alloc, World.size_setCell, World.size_drew, World.size_drewN'] at hs)
    try (have kx_gb_0 := fun x : Over W => (cellAt x.lies (gb) (by omega) 0).trans (cellAt hW (gb) (by go_size) 0); simp [go_sem, *] at kx_gb_0)
    try (have kx_gb_1 := fun x : Over W => (cellAt x.lies (gb) (by omega) 1).trans (cellAt hW (gb) (by go_size) 1); simp [go_sem, *] at kx_gb_1)
    try (have kx_gb_2 := fun x : Over W => (cellAt x.lies (gb) (by omega) 2).trans (cellAt hW (gb) (by go_size) 2); simp [go_sem, *] at kx_gb_2)
    try (have kx_gb_3 := fun x : Over W => (cellAt x.lies (gb) (by omega) 3).trans (cellAt hW (gb) (by go_size) 3); simp [go_sem, *] at kx_gb_3)
    try (have kx_gb_4 := fun x : Over W => (cellAt x.lies (gb) (by omega) 4).trans (cellAt hW (gb) (by go_size) 4); simp [go_sem, *] at kx_gb_4)
    clear hW hp
    refine ⟨rfl, ?_⟩
    go_big_quiet_op
    first | exact rfl
  · exact locS_const _
  try simp only [Act.put, List.setIfInBounds_toArray, List.set_cons_succ, List.set_cons_zero, Nat.reduceAdd]
  apply wpS_quiet
  · intro γ W hW hp
    refine ⟨rfl, ?_⟩
    go_big_quiet_op
    first | exact rfl
  · exact locS_const _
  try simp only [Act.put, List.setIfInBounds_toArray, List.set_cons_succ, List.set_cons_zero, Nat.reduceAdd]
  apply wpS_quiet
  · intro γ W hW hp
    refine ⟨rfl, ?_⟩
    go_big_quiet_op
    first | exact rfl
  · exact locS_const _
  try simp only [Act.put, List.setIfInBounds_toArray, List.set_cons_succ, List.set_cons_zero, Nat.reduceAdd]
  apply wpS_quiet
  · intro γ W hW hp
    refine ⟨rfl, ?_⟩
    go_big_quiet_op
    first | exact rfl
  · exact locS_const _
  try simp only [Act.put, List.setIfInBounds_toArray, List.set_cons_succ, List.set_cons_zero, Nat.reduceAdd]
  apply wpS_quiet
  · intro γ W hW hp
    refine ⟨rfl, ?_⟩
    go_big_quiet_op
    first | exact rfl
  · exact locS_const _
  try simp only [Act.put, List.setIfInBounds_toArray, List.set_cons_succ, List.set_cons_zero, Nat.reduceAdd]
  apply wpS_quiet
  · intro γ W hW hp
    have hs := hW.size
    (try simp only [World.size_alloc, World.size_setCell, World.size_drew, World.size_drewN'] at hs)
    try (have kx_gb_0 := fun x : Over W => (cellAt x.lies (gb) (by omega) 0).trans (cellAt hW (gb) (by go_size) 0); simp [go_sem, *] at kx_gb_0)
    try (have kx_gb_1 := fun x : Over W => (cellAt x.lies (gb) (by omega) 1).trans (cellAt hW (gb) (by go_size) 1); simp [go_sem, *] at kx_gb_1)
    try (have kx_gb_2 := fun x : Over W => (cellAt x.lies (gb) (by omega) 2).trans (cellAt hW (gb) (by go_size) 2); simp [go_sem, *] at kx_gb_2)
    try (have kx_gb_3 := fun x : Over W => (cellAt x.lies (gb) (by omega) 3).trans (cellAt hW (gb) (by go_size) 3); simp [go_sem, *] at kx_gb_3)
    try (have kx_gb_4 := fun x : Over W => (cellAt x.lies (gb) (by omega) 4).trans (cellAt hW (gb) (by go_size) 4); simp [go_sem, *] at kx_gb_4)
    clear hW hp
    refine ⟨rfl, ?_⟩
    go_big_quiet_op
    first | exact rfl
  · exact locS_const _
  try simp only [Act.put, List.setIfInBounds_toArray, List.set_cons_succ, List.set_cons_zero, Nat.reduceAdd]
  apply wpS_open (newRow _ _ _ 2)
  · intro γ W hW hp
    refine ⟨rfl, ?_⟩
    go_simp
    exact ⟨⟨⟨_, rfl, hW.size, heap_alloc_new _ _⟩, fun e => by cases e⟩, (Below.refl _ _).alloc (Nat.le_refl _) _⟩
  try simp only [Act.put, List.setIfInBounds_toArray, List.set_cons_succ, List.set_cons_zero, Nat.reduceAdd]
  apply wpS_quiet
  · intro γ W hW hp
    obtain ⟨g_10, e_10, l_10, k_10⟩ := hp _ (List.mem_append_right _ (List.mem_singleton.2 rfl)) (by kernel_rfl)
    dsimp only at e_10 l_10 k_10
    refine ⟨rfl, ?_⟩
    have E_10 := Lib.hid e_10
    clear e_10
    go_big_quiet_op
    apply Exists.intro
    refine ⟨fun x => ?_, ?_⟩
    · rw [E_10.out]
      have kk_10 := (x.lies.block _ (blk_lt' k_10)).trans k_10
      (first | (go_at_call 52; exact draw_of _ (nt_open A B w0 w x.w _ h0 h1 HT.out ((below_via hW HB.out hs0).trans (x.lies.mono (by have := hW.size; omega))) ⟨g_10, rfl, l_10, (x.lies.block _ (blk_lt' k_10)).trans k_10⟩)))
    exact rfl
  · intro γ k g hk
    have h_10 : updV γ k g 10 = γ 10 := updV_other γ g (fun e => by subst e; exact absurd hk (by rw [show reachB .any _ 100 11 10 = true from by kernel_rfl]; simp))
    first | rfl | simp only [h_10]
  try simp only [Act.put, List.setIfInBounds_toArray, List.set_cons_succ, List.set_cons_zero, Nat.reduceAdd]
  apply wpS_open (newRow _ _ _ 1)
  · intro γ W hW hp
    refine ⟨rfl, ?_⟩
    go_simp
    exact ⟨⟨⟨_, rfl, hW.size, heap_alloc_new _ _⟩, fun e => by cases e⟩, (Below.refl _ _).alloc (Nat.le_refl _) _⟩
  try simp only [Act.put, List.setIfInBounds_toArray, List.set_cons_succ, List.set_cons_zero, Nat.reduceAdd]
  apply wpS_end
  intro γ w1 hb1 hG1 hA1
  obtain ⟨g1_10, e1_10, l1_10, k1_10⟩ := hG1 _ (List.mem_append_left _ (List.mem_append_right _ (List.mem_singleton.2 rfl)))
  dsimp only at e1_10 l1_10 k1_10
  obtain ⟨g1_12, e1_12, l1_12, k1_12⟩ := hG1 _ (List.mem_append_right _ (List.mem_singleton.2 rfl))
  dsimp only at e1_12 l1_12 k1_12
  clear hG1 hA1
  try simp only [e1_10, e1_12]
  clear e1_10
  clear e1_12
  simp only [List.drop_succ_cons, List.drop_zero]
  have hz1 := hb1.size
  (try simp only [World.size_alloc, World.size_setCell, World.size_drew, World.size_drewN'] at hz1)
  (try (have kq := cellAt hb1 (gb) (by go_size); have k1_gb_0 := kq 0; have k1_gb_1 := kq 1; have k1_gb_2 := kq 2; have k1_gb_3 := kq 3; have k1_gb_4 := kq 4; clear kq; have f1_gb := frozAt hb1 (gb) (by go_size); simp [go_sem, *] at k1_gb_0 k1_gb_1 k1_gb_2 k1_gb_3 k1_gb_4 f1_gb))
  (try have l1_gb : gb < w1.heap.size := by omega)
  go_wp2_with fail
  have hg9 := blk_lt' k1_12
  go_loopw [3, 5, 24] (fun ov _ iv wr => CeRel w A B n d zs ln ov iv wr) (fun _ _ iv _ => (ln - intOf iv).toNat)
  case atStart =>
    refine ⟨0, _, rfl, rfl, by omega, ?_, by repeat' first | (with_reducible first | apply zRf | assumption | apply zDn | apply zDr | apply zAl | apply zSt | refine zVi (by assumption) ?_ ?_) | go_size⟩
    exact OwnS.of_row k1_12 l1_12
  case round =>
    obtain ⟨k, v, rfl, rfl, hk, ho, hbw⟩ := hrel
    have hkl := Lib.hid (show (nmT A B :: ptL zs k).length = 1 + k by simp [ptL_len]; omega)
    have HS := Lib.hid (show OwnS wr w.heap.size 9 v (nmT A B :: ptL zs k) by unfold OwnS; rw [hkl.out]; exact ho)
    have hsw := hbw.size
    clear ho
    by_cases h0k : k < ln
    · obtain ⟨b, off, rfl, hb, hcs⟩ := h.at (by omega)
      have hpt := Lib.hid (show ptK zs k = ptT (zs[k * 3]?.getD 0) (zs[k * 3 + 1]?.getD 0) (zs[k * 3 + 2]?.getD 0) from rfl)
      have hpl := ptK_len HO.out h0k
      have hok := HO.out k h0k
      have hnx := Lib.hid (ptL_next zs k)
      have c0 := (hbw.cell (p := ⟨b, off + k * 3, none⟩) hb).trans (hcs (k * 3) (by omega))
      have c1 := (hbw.cell (p := ⟨b, off + k * 3 + 1, none⟩) hb).trans (hcs (k * 3 + 1) (by omega))
      have c2 := (hbw.cell (p := ⟨b, off + k * 3 + 2, none⟩) hb).trans (hcs (k * 3 + 2) (by omega))
      have hk2 : (k : Int) < (ln : Int) := by omega
      clear hcs
      generalize zs[k * 3]?.getD 0 = x at *
      generalize zs[k * 3 + 1]?.getD 0 = y at *
      generalize zs[k * 3 + 2]?.getD 0 = z at *
      have TP := fun (W : World) (hW : Below w.heap.size w W) => Lib.hid (pointText_any x y z hok.1 ⟨hok.2.1, hok.2.2.1⟩ hok.2.2.2 w0 W HT.out (below_via hW HB.out hs0))
      rw [← hpt.out] at TP
      clear hpt hok
      generalize ptK zs k = D at *
      go_wp2_with (first | (have _t := tok2; go_at_call 67; (with_reducible refine ((TP _ (by repeat' first | (with_reducible first | apply zRf | assumption | apply zDn | apply zDr | apply zAl | apply zSt | refine zVi (by assumption) ?_ ?_) | go_size)).out).mono ?_); rintro e w2 ⟨rfl, hb2⟩; clear tok2 _t; have hz2 := hb2.size; (try simp only [World.size_alloc, World.size_setCell, World.size_drew, World.size_drewN'] at hz2)) | (at_builtin; refine wpList_append_own_at _ rfl _ _ 98 rfl w.heap.size 9 i0 (.string ⟨#[]⟩) 1 16 Tryd.underlying98 hi iz0 iz1 iz2 rfl (by decide) v (nmT A B :: ptL zs k).length _ rfl ((HS.out.below (show Below wr.heap.size wr w2 by repeat' first | (with_reducible first | apply zRf | assumption | apply zDn | apply zDr | apply zAl | apply zSt | refine zVi (by assumption) ?_ ?_) | go_size)).alloc _) ⟨w2.heap.size, 0, none⟩ 1 1 [_] rfl rfl (cell_one_new _ _ _) (by simp [Value.oneCell']) (by rw [hkl.out]; unfold maxLen; omega) (by rw [hkl.out]; omega) (by simp; omega) ?_; intro v1 w5 hv1 hg1 _ hat))
      go_roundw
      case rel =>
        refine ⟨k + 1, v1, by go_num, rfl, by omega, ?_, ?_⟩
        · rw [hnx.out, ← List.cons_append, strs_append, strs_one]
          have e := hv1
          rw [hkl.out] at e
          exact e
        · refine Below.grown ?_ hg1 (by simp; omega) (fun j hj => (HS.out.lt _ hj).1)
          repeat' first | (with_reducible first | apply zRf | assumption | apply zDn | apply zDr | apply zAl | apply zSt | refine zVi (by assumption) ?_ ?_) | go_size
      case measure => simp [intOf]; omega
    · obtain rfl : k = ln := by omega
      have q3 := (hbw.cell (p := ⟨gb, 3, none⟩) hgb).trans k3
      have q4 := (hbw.cell (p := ⟨gb, 4, none⟩) hgb).trans k4
      have HN := Lib.hid (nmT_len h0 h1)
      have HP := Lib.hid (show ∀ s ∈ nmT A B :: (ptL zs k ++ [frT n d]), s.length ≤ 100 by
        intro s hs
        rcases List.mem_cons.1 hs with rfl | hs
        · exact HN.out
        · rcases List.mem_append.1 hs with hs | hs
          · obtain ⟨j, hj, rfl⟩ := List.mem_map.1 hs
            exact ptK_len HO.out (by simpa using hj)
          · simp at hs; subst hs; omega)
      have HJ := fun (W : World) (v1 : Value) (hw : OwnS W w.heap.size 9 v1 (nmT A B :: (ptL zs k ++ [frT n d]))) => Join_any (nmT A B :: (ptL zs k ++ [frT n d])) v1 W w.heap.size hw (by simp) (by simp [ptL_len]; omega) (by
        refine Nat.le_trans (join_bd (m := 100) HP.out) ?_
        simp [ptL_len]; omega)
      rw [join_ce] at HJ
      have hdd := Lib.hid (show strs (nmT A B :: (ptL zs k ++ [frT n d])) = strs (nmT A B :: ptL zs k) ++ [.string ⟨(frT n d).toArray⟩] by rw [← List.cons_append, strs_append, strs_one])
      have hde := Lib.hid (show (nmT A B :: (ptL zs k ++ [frT n d])).length = (nmT A B :: ptL zs k).length + 1 by simp)
      go_wp2_with (first | (have _t := tok3; go_at_call 69; (with_reducible refine ((TF _ (by repeat' first | (with_reducible first | apply zRf | assumption | apply zDn | apply zDr | apply zAl | apply zSt | refine zVi (by assumption) ?_ ?_) | go_size)).out).mono ?_); rintro e w3 ⟨rfl, hb3⟩; clear tok3 _t; have hz3 := hb3.size; (try simp only [World.size_alloc, World.size_setCell, World.size_drew, World.size_drewN'] at hz3)) | (at_builtin; refine wpList_append_own_at _ rfl _ _ 98 rfl w.heap.size 9 i0 (.string ⟨#[]⟩) 1 16 Tryd.underlying98 hi iz0 iz1 iz2 rfl (by decide) v (nmT A B :: ptL zs k).length _ rfl ((HS.out.below (show Below wr.heap.size wr w3 by repeat' first | (with_reducible first | apply zRf | assumption | apply zDn | apply zDr | apply zAl | apply zSt | refine zVi (by assumption) ?_ ?_) | go_size)).alloc _) ⟨w3.heap.size, 0, none⟩ 1 1 [_] rfl rfl (cell_one_new _ _ _) (by simp [Value.oneCell']) (by rw [hkl.out]; unfold maxLen; omega) (by rw [hkl.out]; omega) (by simp; omega) ?_; intro v1 w5 hv1 hg1 _ hat) | (have _t := tok4; go_at_call 68; refine (HJ _ _ (by unfold OwnS; rw [hdd.out, hde.out]; exact hv1)).mono ?_; rintro e w4 ⟨rfl, hb4⟩; clear tok4 _t; have hz4 := hb4.size; (try simp only [World.size_alloc, World.size_setCell, World.size_drew, World.size_drewN'] at hz4)))
      go_ret
      refine ⟨rfl, ?_⟩
      have hb6 : Below w.heap.size w w5 := by
        refine Below.grown ?_ hg1 (by simp; omega) (fun j hj => (HS.out.lt _ hj).1)
        repeat' first | (with_reducible first | apply zRf | assumption | apply zDn | apply zDr | apply zAl | apply zSt | refine zVi (by assumption) ?_ ?_) | go_size
      have hz6 := hb6.size
      repeat' first | (with_reducible first | apply zRf | assumption | apply zDn | apply zDr | apply zAl | apply zSt | refine zVi (by assumption) ?_ ?_) | go_size
end Go.Proofs.YtdcbpgpjiacomaaDoor
