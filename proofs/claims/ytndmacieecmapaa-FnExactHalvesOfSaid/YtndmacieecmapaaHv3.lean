/- HalvesOf: the program. -/
import Derived.Test.YtndmacieecmapaaHvQ
import Derived.BigQuiet
namespace Go.Proofs.Ytndmacieecmapaa
open Go.RowKit
set_option linter.unusedVariables false
set_option maxHeartbeats 4000000
set_option maxRecDepth 20000
set_option linter.unusedSimpArgs false
theorem hvY_bd {A B x e : Int} (hA : -1000 ≤ A ∧ A ≤ 1000) (hB : -10000 ≤ B ∧ B ≤ 10000) (hx : -10000 ≤ x ∧ x ≤ 10000) (he : 1 ≤ e ∧ e ≤ 20) (h : hvOk A B x e = true) : -3000000 ≤ hvY A B x e ∧ hvY A B x e ≤ 3000000 := by
  unfold hvOk at h
  rw [Bool.and_eq_true] at h
  have h2 := h.2
  have hv := evV_bd hA hB hx (e := e) (by omega)
  have h3 : hvY A B x e * hvY A B x e = evV A B x e := by
    unfold hvY
    unfold exR at h2 ⊢
    split at h2
    · cases h2
    · rename_i hn
      rw [if_neg hn]
      split at h2
      · rename_i hs
        rw [if_pos hs]; exact hs
      · cases h2
  exact root_bd h3 hv.2
theorem pm_neg {x y e : Int} : (y = 0 → (x, -y, e) ∈ pm (x, y, e) ∧ (x, y, e) ∈ pm (x, y, e)) ∧ (¬ y = 0 → (x, -y, e) ∈ pm (x, y, e) ∧ (x, y, e) ∈ pm (x, y, e)) := by
  unfold pm
  constructor
  · intro h; subst h; simp
  · intro h; simp [h]
theorem pmY_ok {A B x e : Int} (hx : -10000 ≤ x ∧ x ≤ 10000) (he : 1 ≤ e ∧ e ≤ 20) (h : hvOk A B x e = true) (t : Nat) : ptB A B x (pmY (hvY A B x e) t) e = true := by
  have hp := pm_neg (x := x) (y := hvY A B x e) (e := e)
  have hm : (x, -hvY A B x e, e) ∈ pm (x, hvY A B x e, e) ∧ (x, hvY A B x e, e) ∈ pm (x, hvY A B x e, e) := by
    by_cases h0 : hvY A B x e = 0
    · exact hp.1 h0
    · exact hp.2 h0
  unfold pmY
  split
  · exact pm_ok hx he h hm.1
  · exact pm_ok hx he h hm.2
theorem OwnX.at_len {W : World} {B : Nat} {v : Value} {l : List P3} {n : Nat} (h : OwnX W B v l) (e : l.length = n) : W.ownsRow B 31 3 v n (ints (flat3 l)) := by
  subst e; exact h
theorem OwnX.shape {W : World} {B : Nat} {v : Value} {l : List P3} (h : OwnX W B v l) : ∃ a c, v = .slice a l.length c := h.toX.shape
def I2Rel (w : World) (A B X Y E : Int) (L : List P3) (qv : Value) (B2 : Nat) (l1 : List P3) (N : Nat) (ov iv : Value) (wr : World) : Prop := ∃ (i : Nat) (v : Value), iv = .int .i64 i ∧ v = ov ∧ i ≤ L.length ∧ SlX wr B2 3 qv L.length (flat3 L) ∧ (∀ n, some n = qv.ownBlock → some n ≠ v.ownBlock) ∧ HvIn w A B X Y E v (l1 ++ (L.take i).flatMap (pmK A (X, Y, E))) (N + 2 * i) wr
def I3Rel (w : World) (A B X Y E x y e : Int) (gq g3 : Nat) (L : List P3) (qv : Value) (B2 : Nat) (l2 : List P3) (N : Nat) (ov tv : Value) (wr : World) : Prop := ∃ (t : Nat) (v : Value), tv = .int .i64 t ∧ v = ov ∧ t ≤ 2 ∧ SlX wr B2 3 qv L.length (flat3 L) ∧ (∀ n, some n = qv.ownBlock → some n ≠ v.ownBlock) ∧ some gq ≠ v.ownBlock ∧ some g3 ≠ v.ownBlock ∧
  wr.heap[gq]? = some (.cells #[.int .i64 x, .int .i64 y, .int .i64 e] 31 (0, 0)) ∧ wr.heap[g3]? = some (.cells #[.int .i64 x, .int .i64 (-y), .int .i64 e, .int .i64 x, .int .i64 y, .int .i64 e] 31 (0, 0)) ∧ HvIn w A B X Y E v (l2 ++ pmT A (X, Y, E) (x, y, e) t) (N + 2) wr
theorem HalvesOf_any (A B X Y E M : Int) (w : World) : Calls Try.prog 7 #[.agg #[.int .i64 A, .int .i64 B], .agg #[.int .i64 X, .int .i64 Y, .int .i64 E], .int .i64 M] w (NewX w 3 (hvR A B X Y E M).length (flat3 (hvR A B X Y E M)) (hvB A B X Y E M)) := by
  have T1 := fun W : World => Lib.hid (isPoint_any A B X Y E W)
  have T2 := fun W : World => Lib.hid (inside_any M 0 1000 W)
  unfold NewX
  cases h1 : (cvB A B && ptB A B X Y E)
  · rw [h1] at T1
    have hz : hvB A B X Y E M = false := by unfold hvB; rw [h1]; rfl
    unfold hvR
    rw [hz, if_neg (by simp)]
    clear h1 hz
    have tok1 : True := trivial
    have tok2 : True := trivial
    have tok3 : True := trivial
    have tok4 : True := trivial
    have tok5 : True := trivial
    go_enter Try.func7, Try.ntmps7
    go_wp2_with (first | (have _t := tok1; go_at_call 17; (with_reducible refine ((T1 _).out).mono ?_); rintro e w1 ⟨rfl, hb1⟩; clear tok1 _t; have hz1 := hb1.size; (try simp only [World.size_alloc, World.size_setCell, World.size_drew, World.size_drewN'] at hz1); (try (have kq := cellAt hb1 (w.heap.size) (by go_size); have k1_w_0_0 := kq 0; have k1_w_0_1 := kq 1; clear kq; have f1_w_0 := frozAt hb1 (w.heap.size) (by go_size); simp [go_sem, *] at k1_w_0_0 k1_w_0_1 f1_w_0)); (try have l1_w_0 : w.heap.size < w1.heap.size := by omega); (try (have kq := cellAt hb1 (w.heap.size + 1) (by go_size); have k1_w_1_0 := kq 0; have k1_w_1_1 := kq 1; have k1_w_1_2 := kq 2; clear kq; have f1_w_1 := frozAt hb1 (w.heap.size + 1) (by go_size); simp [go_sem, *] at k1_w_1_0 k1_w_1_1 k1_w_1_2 f1_w_1)); (try have l1_w_1 : w.heap.size + 1 < w1.heap.size := by omega)) | (go_at_call 18; (with_reducible refine ((T2 _).out).mono ?_); rintro e w' ⟨rfl, rfl⟩))
    go_ret2
    refine ⟨.slice none 0 0, w.heap.size, rfl, ⟨rfl, .inl ⟨rfl, rfl⟩⟩, Nat.le_refl _, ?_⟩
    repeat' first | (with_reducible first | apply zRf | assumption | apply zDn | apply zDr | apply zAl | apply zSt | refine zVi (by assumption) ?_ ?_) | go_size
  · rw [h1] at T1
    cases h2 : inB M 0 1000
    · rw [h2] at T2
      have hz : hvB A B X Y E M = false := by unfold hvB; rw [h2]; simp
      unfold hvR
      rw [hz, if_neg (by simp)]
      clear h1 h2 hz
      have tok1 : True := trivial
      have tok2 : True := trivial
      have tok3 : True := trivial
      have tok4 : True := trivial
      have tok5 : True := trivial
      go_enter Try.func7, Try.ntmps7
      go_wp2_with (first | (have _t := tok1; go_at_call 17; (with_reducible refine ((T1 _).out).mono ?_); rintro e w1 ⟨rfl, hb1⟩; clear tok1 _t; have hz1 := hb1.size; (try simp only [World.size_alloc, World.size_setCell, World.size_drew, World.size_drewN'] at hz1); (try (have kq := cellAt hb1 (w.heap.size) (by go_size); have k1_w_0_0 := kq 0; have k1_w_0_1 := kq 1; clear kq; have f1_w_0 := frozAt hb1 (w.heap.size) (by go_size); simp [go_sem, *] at k1_w_0_0 k1_w_0_1 f1_w_0)); (try have l1_w_0 : w.heap.size < w1.heap.size := by omega); (try (have kq := cellAt hb1 (w.heap.size + 1) (by go_size); have k1_w_1_0 := kq 0; have k1_w_1_1 := kq 1; have k1_w_1_2 := kq 2; clear kq; have f1_w_1 := frozAt hb1 (w.heap.size + 1) (by go_size); simp [go_sem, *] at k1_w_1_0 k1_w_1_1 k1_w_1_2 f1_w_1)); (try have l1_w_1 : w.heap.size + 1 < w1.heap.size := by omega)) | (go_at_call 18; (with_reducible refine ((T2 _).out).mono ?_); rintro e w' ⟨rfl, rfl⟩))
      go_ret2
      refine ⟨.slice none 0 0, w.heap.size, rfl, ⟨rfl, .inl ⟨rfl, rfl⟩⟩, Nat.le_refl _, ?_⟩
      repeat' first | (with_reducible first | apply zRf | assumption | apply zDn | apply zDr | apply zAl | apply zSt | refine zVi (by assumption) ?_ ?_) | go_size
    · rw [h2] at T2
      have hz : hvB A B X Y E M = true := by unfold hvB; rw [h1, h2]; rfl
      rw [Bool.and_eq_true] at h1
      obtain ⟨hA, hB, -⟩ := cvB_bd h1.1
      have hmb := inB_iff.1 h2
      obtain ⟨m, rfl⟩ : ∃ m : Nat, M = (m : Int) := ⟨M.toNat, by omega⟩
      unfold hvR
      rw [hz, if_pos rfl]
      rw [show ((m : Int)).toNat = m by omega]
      have hm : m ≤ 1000 := by omega
      obtain ⟨i0, hi, iz0, iz1, iz2⟩ := info_parts infoPt
      have HFN := Lib.hid (show hvL A B m (X, Y, E) = hvE A B m (X, Y, E) 20 ++ if E = 0 then [(0, 0, 0)] else [] from rfl)
      clear h1 h2 hz hmb
      have tok1 : True := trivial
      have tok2 : True := trivial
      have tok3 : True := trivial
      have tok4 : True := trivial
      have tok5 : True := trivial
      have tok6 : True := trivial
      have tok7 : True := trivial
      have tok8 : True := trivial
      have tok9 : True := trivial
      go_enter Try.func7, Try.ntmps7
      go_upto_region 1 with fail
      refine chk (fun W => Below w.heap.size w W ∧ W.heap[w.heap.size]? = some (.cells #[.int .i64 A, .int .i64 B] 29 (0, 0)) ∧ W.heap[w.heap.size + 1]? = some (.cells #[.int .i64 X, .int .i64 Y, .int .i64 E] 31 (0, 0))) (by refine ⟨?_, ?_, ?_⟩ <;> (repeat' first | (with_reducible first | assumption | (apply Ne.symm; assumption) | apply Nat.le_refl | apply Nat.le_add_right | apply zL | apply zRf | apply Wx.box | apply Wx.box4 | apply zWa | apply Wx.drew | apply zWn | apply bx_drew | apply bx_drewN | apply bx_set3 | apply bx_set2 | apply bx_set4 | apply bx_set1) | ((with_reducible apply bx_new); (focus (go_size; done))) | (with_reducible first | apply zOl | apply zFa | apply zDn | apply zDr | apply zAl | apply zSt | refine zVi (by assumption) ?_ ?_) | go_size | omega)) ?_
      rintro w7 ⟨hB7, H_C_7, H_P_7⟩
      obtain ⟨k_C_7_0, k_C_7_1, f_C_7, l_C_7⟩ := bk2 H_C_7
      replace H_C_7 := Lib.hid H_C_7
      obtain ⟨k_P_7_0, k_P_7_1, k_P_7_2, f_P_7, l_P_7⟩ := bk3 H_P_7
      replace H_P_7 := Lib.hid H_P_7
      go_upto_region 3 with (first | (have _t := tok1; go_at_call 17; (with_reducible refine ((T1 _).out).mono ?_); rintro e w1 ⟨rfl, hb1⟩; clear tok1 _t; have hz1 := hb1.size; (try simp only [World.size_alloc, World.size_setCell, World.size_drew, World.size_drewN'] at hz1)) | (go_at_call 18; (with_reducible refine ((T2 _).out).mono ?_); rintro e w' ⟨rfl, rfl⟩))
      have hs1 := hb1.size
      have hC1 := keepX hb1 H_C_7.out
      have hP1 := keepX hb1 H_P_7.out
      have hW1 : Below w.heap.size w w1 := below_via hb1 hB7 hB7.size
      replace H_C_7 := H_C_7.out
      replace H_P_7 := H_P_7.out
      refine chk (fun W => Below w.heap.size w W ∧ W.heap[w.heap.size]? = some (.cells #[.int .i64 A, .int .i64 B] 29 (0, 0)) ∧ W.heap[w.heap.size + 1]? = some (.cells #[.int .i64 X, .int .i64 Y, .int .i64 E] 31 (0, 0))) (by refine ⟨?_, ?_, ?_⟩ <;> (repeat' first | (with_reducible first | assumption | (apply Ne.symm; assumption) | apply Nat.le_refl | apply Nat.le_add_right | apply zL | apply zRf | apply Wx.box | apply Wx.box4 | apply zWa | apply Wx.drew | apply zWn | apply bx_drew | apply bx_drewN | apply bx_set3 | apply bx_set2 | apply bx_set4 | apply bx_set1) | ((with_reducible apply bx_new); (focus (go_size; done))) | (with_reducible first | apply zOl | apply zFa | apply zDn | apply zDr | apply zAl | apply zSt | refine zVi (by assumption) ?_ ?_) | go_size | omega)) ?_
      clear k_C_7_0 k_C_7_1 f_C_7 H_C_7
      clear k_P_7_0 k_P_7_1 k_P_7_2 f_P_7 H_P_7
      clear hB7
      rintro w8 ⟨hB8, H_C_8, H_P_8⟩
      obtain ⟨k_C_8_0, k_C_8_1, f_C_8, l_C_8⟩ := bk2 H_C_8
      replace H_C_8 := Lib.hid H_C_8
      obtain ⟨k_P_8_0, k_P_8_1, k_P_8_2, f_P_8, l_P_8⟩ := bk3 H_P_8
      replace H_P_8 := Lib.hid H_P_8
      have hs8 := hB8.size
      clear hC1 hP1 hW1 hb1 hs1
      go_wp2_with fail
      go_loopw [8, 9] (fun ov ev wr => S1Rel w A B X Y E m ov ev wr) (fun _ ev _ => (21 - intOf ev).toNat)
      case atStart => exact ⟨0, _, by first | rfl | simp, rfl, by omega, OwnX.nil _ _, by simp [hvE], H_C_8.out, H_P_8.out, hB8⟩
      case round =>
        obtain ⟨k, v, rfl, rfl, hk, hin⟩ := hrel
        have hs1 := hin.2.2.2.2.size
        have hlp := blk_lt' hin.2.2.2.1
        have HIN := Lib.hid hin
        by_cases hkl : k < 20
        · have hkc : (k : Int) + 1 ≤ 20 := by omega
          have hsE : hvE A B m (X, Y, E) (k + 1) = hvE A B m (X, Y, E) k ++ hvX A B m ((k : Int) + 1) (X, Y, E) (2 * m + 1) := rfl
          have HSE := Lib.hid hsE
          have hlE := hin.2.1
          obtain ⟨l1, hl1⟩ : ∃ l, hvE A B m (X, Y, E) k = l := ⟨_, rfl⟩
          rw [hl1] at HSE HIN
          have hln := hvW_len A B m ((k : Int) + 1) (2 * m + 1)
          have TW := fun W : World => Lib.hid (pointsWithE_any A B ((k : Int) + 1) m W hA hB (by omega) hm)
          have HIL := Lib.hid (fun q (hq : q ∈ hvW A B m ((k : Int) + 1) (2 * m + 1)) => hvW_in hq)
          have HBF := Lib.hid (fun i z hi hz => hv_before (A := A) (B := B) (m := m) (p := (X, Y, E)) (k := k) (i := i) (z := z) hi hz)
          have HXE := Lib.hid (hvX_eq A B m ((k : Int) + 1) (X, Y, E) (2 * m + 1))
          rw [hl1] at HBF
          obtain ⟨L, hL⟩ : ∃ l, hvW A B m ((k : Int) + 1) (2 * m + 1) = l := ⟨_, rfl⟩
          rw [hL] at hln TW HIL HBF HXE
          have HL2 := Lib.hid (show hvE A B m (X, Y, E) (k + 1) = l1 ++ L.flatMap (pmK A (X, Y, E)) by rw [HSE.out, HXE.out])
          obtain ⟨wz, hwz⟩ : ∃ wz, wz = wr := ⟨_, rfl⟩
          subst hwz
          have q0 : wz.cell? ⟨w.heap.size, 0, none⟩ = some (.int .i64 A) := blk_cell hin.2.2.1 0
          have q1 : wz.cell? ⟨w.heap.size, 1, none⟩ = some (.int .i64 B) := blk_cell hin.2.2.1 1
          have hlq := blk_lt' hin.2.2.1
          clear hsE hin hl1 hlE hL HSE HXE
          go_wp2_with (first | (have _t := tok3; go_at_call 19; (with_reducible refine ((TW _).out).mono ?_); rintro e w3 ⟨v3, rfl, hx3, hb3⟩; clear tok3 _t; have hz3 := hb3.size; (try simp only [World.size_alloc, World.size_setCell, World.size_drew, World.size_drewN'] at hz3); obtain ⟨a3, c3, rfl⟩ := hx3.shape))
          have HIN3 := Lib.hid (HIN.out.via hb3)
          have HOZ := Lib.hid HIN.out.1
          have HX3 := Lib.hid hx3
          clear HIN hx3 q0 q1 TW hb3
          go_loopw [8, 34] (fun ov iv wr => I2Rel w A B X Y E L (.slice a3 L.length c3) wz.heap.size l1 (k * 4002) ov iv wr) (fun _ iv _ => (L.length - intOf iv).toNat)
          case atStart =>
            refine ⟨0, v, rfl, rfl, by omega, HX3.out, ?_, by rw [List.take_zero, List.flatMap_nil, List.append_nil]; exact HIN3.out.more (by omega)⟩
            intro n hn hv
            have h1 := HX3.out.apart n hn
            have h2 := (HOZ.out.lt n hv.symm).2
            omega
          case round =>
            obtain ⟨i, v, rfl, rfl, hiq, hxs, hap, hin⟩ := hrel
            obtain ⟨wy, hwy⟩ : ∃ wy, wy = wr := ⟨_, rfl⟩
            subst hwy
            have hbw := hin.2.2.2.2
            have hs3 := hbw.size
            have hC := hin.2.2.1
            have hP := hin.2.2.2.1
            have hlP := blk_lt' hP
            have HIN := Lib.hid hin
            have HXS := Lib.hid hxs
            have HAP := Lib.hid hap
            clear hin hap
            by_cases hil : i < L.length
            · have hilc : (i : Int) < (L.length : Int) := by omega
              obtain ⟨hl3, hsh⟩ := hxs
              rcases hsh with ⟨_, h0⟩ | ⟨g, cap, hv, hnc, hcm, hB2, hrow⟩
              · exfalso; omega
              · simp only [Value.slice.injEq] at hv
                obtain ⟨rfl, h4, rfl⟩ := hv
                unfold maxLen at hcm
                obtain ⟨f0, f1, f2⟩ := flat3_at L i hil
                obtain ⟨x, y, e, hq⟩ := pt3 (L[i]?.getD (0, 0, 0))
                have hqi := HIL.out _ (show L[i]?.getD (0, 0, 0) ∈ L by rw [List.getElem?_eq_getElem hil]; simp)
                have hst := take_flatMap (pmK A (X, Y, E)) L hil
                have hbf := fun z hz => HBF.out i z hil hz
                rw [hq] at f0 f1 f2 hqi hst hbf
                simp only at hqi hbf
                obtain ⟨he', hx1, hx2, hok, hy'⟩ := hqi
                have hyb := hvY_bd hA hB (x := x) (e := (k : Int) + 1) (by omega) (by omega) hok
                have hpy := pmY_ok (x := x) (e := (k : Int) + 1) (A := A) (B := B) (by omega) (by omega) hok
                rw [← hy'] at hyb hpy
                rw [← he'] at hpy
                have heb : 1 ≤ e ∧ e ≤ 20 := by omega
                have c0 := (hrow.2 (i * 3) (by omega)).1
                have c1 := (hrow.2 (i * 3 + 1) (by omega)).1
                have c2 := (hrow.2 (i * 3 + 2) (by omega)).1
                rw [f0] at c0
                rw [f1] at c1
                rw [f2] at c2
                simp only at c0 c1 c2
                have hgl := hrow.1
                have TO := fun W : World => Lib.hid (opposite_any x y e W (by omega))
                obtain ⟨l2, hl2⟩ : ∃ l, l1 ++ (L.take i).flatMap (pmK A (X, Y, E)) = l := ⟨_, rfl⟩
                rw [hl2] at hbf HIN
                have HST := Lib.hid (show l1 ++ (L.take (i + 1)).flatMap (pmK A (X, Y, E)) = l2 ++ pmK A (X, Y, E) (x, y, e) by rw [hst, ← List.append_assoc, hl2])
                have HPM := Lib.hid (fun t (ht : t < 2) => pm_step (A := A) (y := y) (p := (X, Y, E)) hbf ht)
                have HPY := Lib.hid hpy
                have hle2 := HIN.out.2.1
                have hk4 : k * 4002 + 2 * i ≤ 100000 := by omega
                clear hrow f0 f1 f2 hq hok hst hl2 hbf hpy h4 hl3 he' hy' hx1 hx2
                go_upto_region 10 with fail
                replace H_C_8 := H_C_8.out
                replace H_P_8 := H_P_8.out
                refine chk (fun W => Below w.heap.size w W ∧ W.heap[w.heap.size]? = some (.cells #[.int .i64 A, .int .i64 B] 29 (0, 0)) ∧ W.heap[w.heap.size + 1]? = some (.cells #[.int .i64 X, .int .i64 Y, .int .i64 E] 31 (0, 0)) ∧ W.heap[wy.heap.size]? = some (.cells #[.int .i64 x, .int .i64 y, .int .i64 e] 31 (0, 0)) ∧ Below wy.heap.size wy W) (by refine ⟨?_, ?_, ?_, ?_, ?_⟩ <;> (repeat' first | (with_reducible first | assumption | (apply Ne.symm; assumption) | apply Nat.le_refl | apply Nat.le_add_right | apply zL | apply zRf | apply Wx.box | apply Wx.box4 | apply zWa | apply Wx.drew | apply zWn | apply bx_drew | apply bx_drewN | apply bx_set3 | apply bx_set2 | apply bx_set4 | apply bx_set1) | ((with_reducible apply bx_new); (focus (go_size; done))) | (with_reducible first | apply zOl | apply zFa | apply zDn | apply zDr | apply zAl | apply zSt | refine zVi (by assumption) ?_ ?_) | go_size | omega)) ?_
                clear k_C_8_0 k_C_8_1 f_C_8 H_C_8
                clear k_P_8_0 k_P_8_1 k_P_8_2 f_P_8 H_P_8
                clear hB8
                rintro w5 ⟨hB5, H_C_5, H_P_5, H_Q_5, hbr⟩
                obtain ⟨k_C_5_0, k_C_5_1, f_C_5, l_C_5⟩ := bk2 H_C_5
                replace H_C_5 := Lib.hid H_C_5
                obtain ⟨k_P_5_0, k_P_5_1, k_P_5_2, f_P_5, l_P_5⟩ := bk3 H_P_5
                replace H_P_5 := Lib.hid H_P_5
                obtain ⟨k_Q_5_0, k_Q_5_1, k_Q_5_2, f_Q_5, l_Q_5⟩ := bk3 H_Q_5
                replace H_Q_5 := Lib.hid H_Q_5
                clear c0 c1 c2 hC hP
                have HC := Lib.hid (fun (W : World) (hW : Below w5.heap.size w5 W) => (⟨hW, (hW.cell (p := ⟨wy.heap.size, 0, none⟩) l_Q_5).trans k_Q_5_0, (hW.cell (p := ⟨wy.heap.size, 1, none⟩) l_Q_5).trans k_Q_5_1, (hW.cell (p := ⟨wy.heap.size, 2, none⟩) l_Q_5).trans k_Q_5_2⟩ : Below w5.heap.size w5 W ∧ W.cell? ⟨wy.heap.size, 0, none⟩ = some (.int .i64 x) ∧ W.cell? ⟨wy.heap.size, 1, none⟩ = some (.int .i64 y) ∧ W.cell? ⟨wy.heap.size, 2, none⟩ = some (.int .i64 e)))
                go_region_held3 (fun W => Below w5.heap.size w5 W ∧ W.cell? ⟨wy.heap.size, 0, none⟩ = some (.int .i64 x) ∧ W.cell? ⟨wy.heap.size, 1, none⟩ = some (.int .i64 y) ∧ W.cell? ⟨wy.heap.size, 2, none⟩ = some (.int .i64 e)) (exact HC.out _ (by repeat' first | (with_reducible first | apply zRf | assumption | apply zDn | apply zDr | apply zAl | apply zSt | refine zVi (by assumption) ?_ ?_) | go_size)) (first | (have _t := tok4; go_at_call 20; refine ((TO _).out).mono ?_; rintro e w4 ⟨rfl, hb4⟩; clear tok4 _t; have hz4 := hb4.size; (try simp only [World.size_alloc, World.size_setCell, World.size_drew, World.size_drewN'] at hz4)))
                go_wp2_with fail
                have hb54 : Below w5.heap.size w5 w4 := by repeat' first | (with_reducible first | apply zRf | assumption | apply zDn | apply zDr | apply zAl | apply zSt | refine zVi (by assumption) ?_ ?_) | go_size
                have hb5a := hb54.alloc hb54.size (.cells #[.int .i64 x, .int .i64 (-y), .int .i64 e, .int .i64 x, .int .i64 y, .int .i64 e] 31)
                have hby5 := below_via hb5a hbr hbr.size
                have HIN5 := Lib.hid (HIN.out.via hby5)
                have HXS5 := Lib.hid (HXS.out.via hby5)
                have hQ5 := keepX hb5a H_Q_5.out
                have HOY := Lib.hid HIN.out.1
                have hs54 := hb54.size
                have hsy5 := hbr.size
                clear HXS hbr
                go_loopw [8, 43] (fun ov tv wr => I3Rel w A B X Y E x y e wy.heap.size w4.heap.size L (.slice (some ⟨g, 0, none⟩) L.length c3) wz.heap.size l2 (k * 4002 + 2 * i) ov tv wr) (fun _ tv _ => (2 - intOf tv).toNat)
                case atStart =>
                  refine ⟨0, v, rfl, rfl, by omega, HXS5.out, HAP.out, ?_, ?_, hQ5, heap_alloc_new _ _, by rw [show pmT A (X, Y, E) (x, y, e) 0 = [] from rfl, List.append_nil]; exact HIN5.out.more (by omega)⟩
                  · intro hv
                    have := (HOY.out.lt _ hv.symm).2
                    omega
                  · intro hv
                    have := (HOY.out.lt _ hv.symm).2
                    omega
                case round =>
                  obtain ⟨t, v, rfl, rfl, ht, hxs, hap, hgq, hg3, hQ, hT, hin⟩ := hrel
                  have hbw3 := hin.2.2.2.2
                  have hs33 := hbw3.size
                  have hC := hin.2.2.1
                  have hP := hin.2.2.2.1
                  have hlP3 := blk_lt' hP
                  have hlT3 := blk_lt' hT
                  have hlQ3 := blk_lt' hQ
                  have HIN3 := Lib.hid hin
                  have HXS3 := Lib.hid hxs
                  have HAP3 := Lib.hid hap
                  clear hap hxs
                  by_cases htl : t < 2
                  · have htc : (t : Int) < 2 := by omega
                    have hstep := HPM.out t htl
                    obtain ⟨yr, hyr⟩ : ∃ yr, pmY y t = yr := ⟨_, rfl⟩
                    have hok := HPY.out t
                    have hcc := blk_cell hT
                    have c0 : wr.cell? ⟨w4.heap.size, t * 3, none⟩ = some (.int .i64 x) := by
                      rcases (show t = 0 ∨ t = 1 by omega) with rfl | rfl
                      · exact hcc 0
                      · exact hcc 3
                    have c1 : wr.cell? ⟨w4.heap.size, t * 3 + 1, none⟩ = some (.int .i64 yr) := by
                      rw [← hyr]
                      rcases (show t = 0 ∨ t = 1 by omega) with rfl | rfl
                      · exact hcc 1
                      · exact hcc 4
                    have c2 : wr.cell? ⟨w4.heap.size, t * 3 + 2, none⟩ = some (.int .i64 e) := by
                      rcases (show t = 0 ∨ t = 1 by omega) with rfl | rfl
                      · exact hcc 2
                      · exact hcc 5
                    rw [hyr] at hok hstep
                    have TP := fun W : World => Lib.hid (addPoints_any A B x yr e x yr e W hA hB hok hok)
                    obtain ⟨a, b, c, ok, hS⟩ := pt4' (ptS A x yr e x yr e)
                    have hkp := kp_eq (X := X) (Y := Y) (E := E) hS
                    rw [hS] at TP
                    simp only at TP
                    have HST9 := Lib.hid hkp
                    obtain ⟨lo, hlo⟩ : ∃ lo, l2 ++ pmT A (X, Y, E) (x, y, e) t = lo := ⟨_, rfl⟩
                    rw [hlo] at hstep hin HIN3
                    obtain ⟨a9, c9, hv9⟩ := hin.1.shape
                    subst hv9
                    obtain ⟨n9, hlo9⟩ : ∃ n, lo.length = n := ⟨_, rfl⟩
                    rw [hlo9] at hgq hg3 HAP3 HIN3 ⊢
                    have hn9 : n9 ≤ 200000 := by have := hin.2.1; omega
                    clear hin hok hS hkp hlo hcc hyr
                    go_upto_region 13 with fail
                    replace H_C_5 := H_C_5.out
                    replace H_P_5 := H_P_5.out
                    replace H_Q_5 := H_Q_5.out
                    refine chk (fun W => Below w.heap.size w W ∧ W.heap[w.heap.size]? = some (.cells #[.int .i64 A, .int .i64 B] 29 (0, 0)) ∧ W.heap[w.heap.size + 1]? = some (.cells #[.int .i64 X, .int .i64 Y, .int .i64 E] 31 (0, 0)) ∧ W.heap[wy.heap.size]? = some (.cells #[.int .i64 x, .int .i64 y, .int .i64 e] 31 (0, 0)) ∧ W.heap[wr.heap.size]? = some (.cells #[.int .i64 x, .int .i64 yr, .int .i64 e] 31 (0, 0)) ∧ W.heap[w4.heap.size]? = some (.cells #[.int .i64 x, .int .i64 (-y), .int .i64 e, .int .i64 x, .int .i64 y, .int .i64 e] 31 (0, 0)) ∧ Below wr.heap.size wr W) (by refine ⟨?_, ?_, ?_, ?_, ?_, ?_, ?_⟩ <;> (repeat' first | (with_reducible first | assumption | (apply Ne.symm; assumption) | apply Nat.le_refl | apply Nat.le_add_right | apply zL | apply zRf | apply Wx.box | apply Wx.box4 | apply zWa | apply Wx.drew | apply zWn | apply bx_drew | apply bx_drewN | apply bx_set3 | apply bx_set2 | apply bx_set4 | apply bx_set1) | ((with_reducible apply bx_new); (focus (go_size; done))) | (with_reducible first | apply zOl | apply zFa | apply zDn | apply zDr | apply zAl | apply zSt | refine zVi (by assumption) ?_ ?_) | go_size | omega)) ?_
                    clear k_C_5_0 k_C_5_1 f_C_5 H_C_5
                    clear k_P_5_0 k_P_5_1 k_P_5_2 f_P_5 H_P_5
                    clear k_Q_5_0 k_Q_5_1 k_Q_5_2 f_Q_5 H_Q_5
                    clear hB5
                    rintro w12 ⟨hB12, H_C_12, H_P_12, H_Q_12, H_R_12, hT12, hbr12⟩
                    obtain ⟨k_C_12_0, k_C_12_1, f_C_12, l_C_12⟩ := bk2 H_C_12
                    replace H_C_12 := Lib.hid H_C_12
                    obtain ⟨k_P_12_0, k_P_12_1, k_P_12_2, f_P_12, l_P_12⟩ := bk3 H_P_12
                    replace H_P_12 := Lib.hid H_P_12
                    obtain ⟨k_Q_12_0, k_Q_12_1, k_Q_12_2, f_Q_12, l_Q_12⟩ := bk3 H_Q_12
                    replace H_Q_12 := Lib.hid H_Q_12
                    obtain ⟨k_R_12_0, k_R_12_1, k_R_12_2, f_R_12, l_R_12⟩ := bk3 H_R_12
                    replace H_R_12 := Lib.hid H_R_12
                    have HIN12 := Lib.hid (HIN3.out.via hbr12)
                    have HXS12 := Lib.hid (HXS3.out.via hbr12)
                    have HO12 := Lib.hid HIN12.out.1
                    clear HIN3 HXS3 c0 c1 c2 hC hP hQ hT
                    have hcase : (¬ y = 0) ∨ (y = 0 ∧ n9 = 0) ∨ (y = 0 ∧ 0 < n9 ∧ ¬ lastIs lo (x, yr, e)) ∨ (y = 0 ∧ 0 < n9 ∧ lastIs lo (x, yr, e)) := by
                      by_cases h1 : y = 0
                      · right
                        by_cases h2 : n9 = 0
                        · exact .inl ⟨h1, h2⟩
                        · right
                          by_cases h3 : lastIs lo (x, yr, e)
                          · exact .inr ⟨h1, by omega, h3⟩
                          · exact .inl ⟨h1, by omega, h3⟩
                      · exact .inl h1
                    rcases hcase with hy0 | ⟨hy0, hn0⟩ | ⟨hy0, hn0, hlr⟩ | ⟨hy0, hn0, hlr⟩
                    · have _t := trivial
                      have hyy : (y == 0) = false := by simpa using hy0
                      have HS3 := Lib.hid (hstep.2 (fun q => hy0 q.1))
                      clear hstep hy0
                      go_quiet (fail)
                      go_upto_region 14 with fail
                      replace H_C_12 := H_C_12.out
                      replace H_P_12 := H_P_12.out
                      replace H_Q_12 := H_Q_12.out
                      replace H_R_12 := H_R_12.out
                      refine chk (fun W => Below w.heap.size w W ∧ W.heap[w.heap.size]? = some (.cells #[.int .i64 A, .int .i64 B] 29 (0, 0)) ∧ W.heap[w.heap.size + 1]? = some (.cells #[.int .i64 X, .int .i64 Y, .int .i64 E] 31 (0, 0)) ∧ W.heap[wy.heap.size]? = some (.cells #[.int .i64 x, .int .i64 y, .int .i64 e] 31 (0, 0)) ∧ W.heap[wr.heap.size]? = some (.cells #[.int .i64 x, .int .i64 yr, .int .i64 e] 31 (0, 0)) ∧ W.heap[w4.heap.size]? = some (.cells #[.int .i64 x, .int .i64 (-y), .int .i64 e, .int .i64 x, .int .i64 y, .int .i64 e] 31 (0, 0)) ∧ Below w12.heap.size w12 W) (by refine ⟨?_, ?_, ?_, ?_, ?_, ?_, ?_⟩ <;> (repeat' first | (with_reducible first | assumption | (apply Ne.symm; assumption) | apply Nat.le_refl | apply Nat.le_add_right | apply zL | apply zRf | apply Wx.box | apply Wx.box4 | apply zWa | apply Wx.drew | apply zWn | apply bx_drew | apply bx_drewN | apply bx_set3 | apply bx_set2 | apply bx_set4 | apply bx_set1) | ((with_reducible apply bx_new); (focus (go_size; done))) | (with_reducible first | apply zOl | apply zFa | apply zDn | apply zDr | apply zAl | apply zSt | refine zVi (by assumption) ?_ ?_) | go_size | omega)) ?_
                      clear k_C_12_0 k_C_12_1 f_C_12 H_C_12
                      clear k_P_12_0 k_P_12_1 k_P_12_2 f_P_12 H_P_12
                      clear k_Q_12_0 k_Q_12_1 k_Q_12_2 f_Q_12 H_Q_12
                      clear k_R_12_0 k_R_12_1 k_R_12_2 f_R_12 H_R_12
                      clear hB12
                      rintro w13 ⟨hB13, H_C_13, H_P_13, H_Q_13, H_R_13, hT13, hbr13⟩
                      obtain ⟨k_C_13_0, k_C_13_1, f_C_13, l_C_13⟩ := bk2 H_C_13
                      replace H_C_13 := Lib.hid H_C_13
                      obtain ⟨k_P_13_0, k_P_13_1, k_P_13_2, f_P_13, l_P_13⟩ := bk3 H_P_13
                      replace H_P_13 := Lib.hid H_P_13
                      obtain ⟨k_Q_13_0, k_Q_13_1, k_Q_13_2, f_Q_13, l_Q_13⟩ := bk3 H_Q_13
                      replace H_Q_13 := Lib.hid H_Q_13
                      obtain ⟨k_R_13_0, k_R_13_1, k_R_13_2, f_R_13, l_R_13⟩ := bk3 H_R_13
                      replace H_R_13 := Lib.hid H_R_13
                      have HIN13 := Lib.hid (HIN12.out.via hbr13)
                      have HXS13 := Lib.hid (HXS12.out.via hbr13)
                      clear HIN12 HXS12 hT12 HO12
                      go_upto_region 15 with (first | (have _t := tok2; go_at_call 21; (with_reducible refine ((TP _).out).mono ?_); rintro e w2 ⟨rfl, hb2⟩; clear tok2 _t; have hz2 := hb2.size; (try simp only [World.size_alloc, World.size_setCell, World.size_drew, World.size_drewN'] at hz2)))
                      have hC2 := keepX hb2 H_C_13.out
                      have hP2 := keepX hb2 H_P_13.out
                      have hQ2 := keepX hb2 H_Q_13.out
                      have hR2 := keepX hb2 H_R_13.out
                      have hT2 := keepX hb2 hT13
                      have hB2' := below_via hb2 hB13 hB13.size
                      have HIN2 := Lib.hid (HIN13.out.via hb2)
                      have HXS2 := Lib.hid (HXS13.out.via hb2)
                      have hlz : wr.heap.size ≤ w2.heap.size := by have := hb2.size; have := hbr13.size; have := hbr12.size; omega
                      have hlt2 : w4.heap.size < w2.heap.size := blk_lt' hT2
                      have hlq2 : wy.heap.size < w2.heap.size := blk_lt' hQ2
                      clear HIN13 HXS13 hb2 hbr13
                      replace H_C_13 := H_C_13.out
                      replace H_P_13 := H_P_13.out
                      replace H_Q_13 := H_Q_13.out
                      replace H_R_13 := H_R_13.out
                      refine chk (fun W => Below w.heap.size w W ∧ W.heap[w.heap.size]? = some (.cells #[.int .i64 A, .int .i64 B] 29 (0, 0)) ∧ W.heap[w.heap.size + 1]? = some (.cells #[.int .i64 X, .int .i64 Y, .int .i64 E] 31 (0, 0)) ∧ W.heap[wy.heap.size]? = some (.cells #[.int .i64 x, .int .i64 y, .int .i64 e] 31 (0, 0)) ∧ W.heap[wr.heap.size]? = some (.cells #[.int .i64 x, .int .i64 yr, .int .i64 e] 31 (0, 0)) ∧ W.heap[w2.heap.size]? = some (.cells #[.int .i64 a, .int .i64 b, .int .i64 c] 31 (0, 0)) ∧ W.heap[w4.heap.size]? = some (.cells #[.int .i64 x, .int .i64 (-y), .int .i64 e, .int .i64 x, .int .i64 y, .int .i64 e] 31 (0, 0)) ∧ Below w2.heap.size w2 W) (by refine ⟨?_, ?_, ?_, ?_, ?_, ?_, ?_, ?_⟩ <;> (repeat' first | (with_reducible first | assumption | (apply Ne.symm; assumption) | apply Nat.le_refl | apply Nat.le_add_right | apply zL | apply zRf | apply Wx.box | apply Wx.box4 | apply zWa | apply Wx.drew | apply zWn | apply bx_drew | apply bx_drewN | apply bx_set3 | apply bx_set2 | apply bx_set4 | apply bx_set1) | ((with_reducible apply bx_new); (focus (go_size; done))) | (with_reducible first | apply zOl | apply zFa | apply zDn | apply zDr | apply zAl | apply zSt | refine zVi (by assumption) ?_ ?_) | go_size | omega)) ?_
                      clear k_C_13_0 k_C_13_1 f_C_13 H_C_13
                      clear k_P_13_0 k_P_13_1 k_P_13_2 f_P_13 H_P_13
                      clear k_Q_13_0 k_Q_13_1 k_Q_13_2 f_Q_13 H_Q_13
                      clear k_R_13_0 k_R_13_1 k_R_13_2 f_R_13 H_R_13
                      clear hB13
                      rintro w14 ⟨hB14, H_C_14, H_P_14, H_Q_14, H_R_14, H_S_14, hT14, hbr14⟩
                      obtain ⟨k_C_14_0, k_C_14_1, f_C_14, l_C_14⟩ := bk2 H_C_14
                      replace H_C_14 := Lib.hid H_C_14
                      obtain ⟨k_P_14_0, k_P_14_1, k_P_14_2, f_P_14, l_P_14⟩ := bk3 H_P_14
                      replace H_P_14 := Lib.hid H_P_14
                      obtain ⟨k_Q_14_0, k_Q_14_1, k_Q_14_2, f_Q_14, l_Q_14⟩ := bk3 H_Q_14
                      replace H_Q_14 := Lib.hid H_Q_14
                      obtain ⟨k_R_14_0, k_R_14_1, k_R_14_2, f_R_14, l_R_14⟩ := bk3 H_R_14
                      replace H_R_14 := Lib.hid H_R_14
                      obtain ⟨k_S_14_0, k_S_14_1, k_S_14_2, f_S_14, l_S_14⟩ := bk3 H_S_14
                      replace H_S_14 := Lib.hid H_S_14
                      have HIN14 := Lib.hid (HIN2.out.via hbr14)
                      have HXS14 := Lib.hid (HXS2.out.via hbr14)
                      have hs14 := hbr14.size
                      clear HIN2 HXS2 hC2 hP2 hQ2 hR2 hT2 hB2' TP
                      cases ok
                      · have hz := HST9.out
                        rw [Bool.false_and] at hz
                        have hz2 := HS3.out
                        rw [hz, if_neg (by simp), List.append_nil] at hz2
                        have HIN7 := Lib.hid (show HvIn w A B X Y E (.slice a9 n9 c9) (l2 ++ pmT A (X, Y, E) (x, y, e) (t + 1)) (k * 4002 + 2 * i + 2) w14 from by rw [hz2]; exact HIN14.out)
                        have hQ14 := H_Q_14.out
                        clear hz hz2 HST9 HIN14 HS3
                        go_wp2_with fail
                        go_roundw
                        case rel => exact ⟨t + 1, _, by go_num, rfl, by omega, HXS14.out, HAP3.out, hgq, hg3, hQ14, hT14, HIN7.out⟩
                        case measure => simp [intOf]; omega
                      · have heq := fun W : World => eqP3 a b c X Y E W
                        have hz := HST9.out
                        rw [Bool.true_and] at hz
                        generalize (a == X && (b == Y && c == E)) = z at *
                        cases z
                        · have hz2 := HS3.out
                          rw [hz, if_neg (by simp), List.append_nil] at hz2
                          have HIN7 := Lib.hid (show HvIn w A B X Y E (.slice a9 n9 c9) (l2 ++ pmT A (X, Y, E) (x, y, e) (t + 1)) (k * 4002 + 2 * i + 2) w14 from by rw [hz2]; exact HIN14.out)
                          have hQ14 := H_Q_14.out
                          clear hz hz2 HST9 HIN14 HS3
                          go_wp2_with fail
                          go_roundw
                          case rel => exact ⟨t + 1, _, by go_num, rfl, by omega, HXS14.out, HAP3.out, hgq, hg3, hQ14, hT14, HIN7.out⟩
                          case measure => simp [intOf]; omega
                        · have hz2 := HS3.out
                          rw [hz, if_pos rfl] at hz2
                          have HZ := Lib.hid hz2
                          have HO6 := Lib.hid (OwnX.at_len HIN14.out.1 hlo9)
                          clear hz hz2 HST9
                          go_wp2_with (first | (at_builtin; refine wpList_append_own_at _ rfl _ _ 26 rfl (w.heap.size + 2) 31 i0 (.agg #[.int .i64 0, .int .i64 0, .int .i64 0]) 3 24 Try.underlying26 hi iz0 iz1 iz2 rfl (by decide) (.slice a9 n9 c9) n9 _ rfl (HO6.out.alloc _) ⟨w14.heap.size, 0, none⟩ 1 1 [_, _, _] rfl rfl (cells3_new' _ _ _ _ _) (by simp [Value.oneCell']) (by unfold maxLen; omega) (by omega) (by simp; omega) ?_; intro v1 w9 hv1 hg1 _ hat))
                          go_roundw
                          case rel =>
                            have hlow : ∀ n, n < w.heap.size + 2 → some n ≠ Value.ownBlock (.slice a9 n9 c9) := fun n hn e => by have := (HO6.out.lt n e.symm).1; omega
                            have hc7 : w9.heap[w.heap.size]? = _ := (hg1.block _ (by simp; omega) (hlow _ (by omega))).trans (bx_old H_C_14.out _)
                            have hp7 : w9.heap[w.heap.size + 1]? = _ := (hg1.block _ (by simp; omega) (hlow _ (by omega))).trans (bx_old H_P_14.out _)
                            have hq7 : w9.heap[wy.heap.size]? = _ := (hg1.block _ (by simp; omega) hgq).trans (bx_old H_Q_14.out _)
                            have ht7 : w9.heap[w4.heap.size]? = _ := (hg1.block _ (by simp; omega) hg3).trans (bx_old hT14 _)
                            refine ⟨t + 1, v1, by go_num, rfl, by omega, ?_, ?_, ?_, ?_, hq7, ht7, ?_, ?_, hc7, hp7, ?_⟩
                            · exact HXS14.out.keep (Nat.le_trans (by simp) hg1.size) (fun n hn e => (hg1.block n (by simp; omega) (HAP3.out n e)).trans ((bx_old (Array.getElem?_eq_getElem hn) _).trans (Array.getElem?_eq_getElem hn).symm))
                            · intro n hn hv
                              rcases hat with q | q
                              · rw [q] at hv; exact HAP3.out n hn hv
                              · rw [q] at hv
                                have h1 := HXS14.out.lt n hn
                                have h2 : n = w14.heap.size + 1 := by simpa using hv
                                omega
                            · intro hv
                              rcases hat with q | q
                              · rw [q] at hv; exact hgq hv
                              · rw [q] at hv
                                have h2 : wy.heap.size = w14.heap.size + 1 := by simpa using hv
                                omega
                            · intro hv
                              rcases hat with q | q
                              · rw [q] at hv; exact hg3 hv
                              · rw [q] at hv
                                have h2 : w4.heap.size = w14.heap.size + 1 := by simpa using hv
                                omega
                            · unfold OwnX
                              rw [HZ.out, flat3_append, ints_append, List.length_append, hlo9]
                              simpa [ints, flat3] using hv1
                            · have h1 := HIN.out.2.1
                              have h2 := pmT_len A (X, Y, E) (x, y, e) (t + 1)
                              rw [List.length_append]; omega
                            · exact (Below.alloc hB14 (by omega) _).grown hg1 (by simp; omega) (fun n h => by have := (HO6.out.lt n h).1; omega)
                          case measure => simp [intOf]; omega
                    · have _t := trivial
                      have hyy : (y == 0) = true := by simpa using hy0
                      have hd9 : decide ((0 : Int) < (n9 : Int)) = false := by rw [decide_eq_false_iff_not]; omega
                      have hd9b : decide (0 < n9) = false := by rw [decide_eq_false_iff_not]; omega
                      have HS3 := Lib.hid (hstep.2 (fun q => by have := q.2.1; omega))
                      clear hstep hy0 hn0
                      go_quiet (fail)
                      go_upto_region 14 with fail
                      replace H_C_12 := H_C_12.out
                      replace H_P_12 := H_P_12.out
                      replace H_Q_12 := H_Q_12.out
                      replace H_R_12 := H_R_12.out
                      refine chk (fun W => Below w.heap.size w W ∧ W.heap[w.heap.size]? = some (.cells #[.int .i64 A, .int .i64 B] 29 (0, 0)) ∧ W.heap[w.heap.size + 1]? = some (.cells #[.int .i64 X, .int .i64 Y, .int .i64 E] 31 (0, 0)) ∧ W.heap[wy.heap.size]? = some (.cells #[.int .i64 x, .int .i64 y, .int .i64 e] 31 (0, 0)) ∧ W.heap[wr.heap.size]? = some (.cells #[.int .i64 x, .int .i64 yr, .int .i64 e] 31 (0, 0)) ∧ W.heap[w4.heap.size]? = some (.cells #[.int .i64 x, .int .i64 (-y), .int .i64 e, .int .i64 x, .int .i64 y, .int .i64 e] 31 (0, 0)) ∧ Below w12.heap.size w12 W) (by refine ⟨?_, ?_, ?_, ?_, ?_, ?_, ?_⟩ <;> (repeat' first | (with_reducible first | assumption | (apply Ne.symm; assumption) | apply Nat.le_refl | apply Nat.le_add_right | apply zL | apply zRf | apply Wx.box | apply Wx.box4 | apply zWa | apply Wx.drew | apply zWn | apply bx_drew | apply bx_drewN | apply bx_set3 | apply bx_set2 | apply bx_set4 | apply bx_set1) | ((with_reducible apply bx_new); (focus (go_size; done))) | (with_reducible first | apply zOl | apply zFa | apply zDn | apply zDr | apply zAl | apply zSt | refine zVi (by assumption) ?_ ?_) | go_size | omega)) ?_
                      clear k_C_12_0 k_C_12_1 f_C_12 H_C_12
                      clear k_P_12_0 k_P_12_1 k_P_12_2 f_P_12 H_P_12
                      clear k_Q_12_0 k_Q_12_1 k_Q_12_2 f_Q_12 H_Q_12
                      clear k_R_12_0 k_R_12_1 k_R_12_2 f_R_12 H_R_12
                      clear hB12
                      rintro w13 ⟨hB13, H_C_13, H_P_13, H_Q_13, H_R_13, hT13, hbr13⟩
                      obtain ⟨k_C_13_0, k_C_13_1, f_C_13, l_C_13⟩ := bk2 H_C_13
                      replace H_C_13 := Lib.hid H_C_13
                      obtain ⟨k_P_13_0, k_P_13_1, k_P_13_2, f_P_13, l_P_13⟩ := bk3 H_P_13
                      replace H_P_13 := Lib.hid H_P_13
                      obtain ⟨k_Q_13_0, k_Q_13_1, k_Q_13_2, f_Q_13, l_Q_13⟩ := bk3 H_Q_13
                      replace H_Q_13 := Lib.hid H_Q_13
                      obtain ⟨k_R_13_0, k_R_13_1, k_R_13_2, f_R_13, l_R_13⟩ := bk3 H_R_13
                      replace H_R_13 := Lib.hid H_R_13
                      have HIN13 := Lib.hid (HIN12.out.via hbr13)
                      have HXS13 := Lib.hid (HXS12.out.via hbr13)
                      clear HIN12 HXS12 hT12 HO12
                      go_upto_region 15 with (first | (have _t := tok2; go_at_call 21; (with_reducible refine ((TP _).out).mono ?_); rintro e w2 ⟨rfl, hb2⟩; clear tok2 _t; have hz2 := hb2.size; (try simp only [World.size_alloc, World.size_setCell, World.size_drew, World.size_drewN'] at hz2)))
                      have hC2 := keepX hb2 H_C_13.out
                      have hP2 := keepX hb2 H_P_13.out
                      have hQ2 := keepX hb2 H_Q_13.out
                      have hR2 := keepX hb2 H_R_13.out
                      have hT2 := keepX hb2 hT13
                      have hB2' := below_via hb2 hB13 hB13.size
                      have HIN2 := Lib.hid (HIN13.out.via hb2)
                      have HXS2 := Lib.hid (HXS13.out.via hb2)
                      have hlz : wr.heap.size ≤ w2.heap.size := by have := hb2.size; have := hbr13.size; have := hbr12.size; omega
                      have hlt2 : w4.heap.size < w2.heap.size := blk_lt' hT2
                      have hlq2 : wy.heap.size < w2.heap.size := blk_lt' hQ2
                      clear HIN13 HXS13 hb2 hbr13
                      replace H_C_13 := H_C_13.out
                      replace H_P_13 := H_P_13.out
                      replace H_Q_13 := H_Q_13.out
                      replace H_R_13 := H_R_13.out
                      refine chk (fun W => Below w.heap.size w W ∧ W.heap[w.heap.size]? = some (.cells #[.int .i64 A, .int .i64 B] 29 (0, 0)) ∧ W.heap[w.heap.size + 1]? = some (.cells #[.int .i64 X, .int .i64 Y, .int .i64 E] 31 (0, 0)) ∧ W.heap[wy.heap.size]? = some (.cells #[.int .i64 x, .int .i64 y, .int .i64 e] 31 (0, 0)) ∧ W.heap[wr.heap.size]? = some (.cells #[.int .i64 x, .int .i64 yr, .int .i64 e] 31 (0, 0)) ∧ W.heap[w2.heap.size]? = some (.cells #[.int .i64 a, .int .i64 b, .int .i64 c] 31 (0, 0)) ∧ W.heap[w4.heap.size]? = some (.cells #[.int .i64 x, .int .i64 (-y), .int .i64 e, .int .i64 x, .int .i64 y, .int .i64 e] 31 (0, 0)) ∧ Below w2.heap.size w2 W) (by refine ⟨?_, ?_, ?_, ?_, ?_, ?_, ?_, ?_⟩ <;> (repeat' first | (with_reducible first | assumption | (apply Ne.symm; assumption) | apply Nat.le_refl | apply Nat.le_add_right | apply zL | apply zRf | apply Wx.box | apply Wx.box4 | apply zWa | apply Wx.drew | apply zWn | apply bx_drew | apply bx_drewN | apply bx_set3 | apply bx_set2 | apply bx_set4 | apply bx_set1) | ((with_reducible apply bx_new); (focus (go_size; done))) | (with_reducible first | apply zOl | apply zFa | apply zDn | apply zDr | apply zAl | apply zSt | refine zVi (by assumption) ?_ ?_) | go_size | omega)) ?_
                      clear k_C_13_0 k_C_13_1 f_C_13 H_C_13
                      clear k_P_13_0 k_P_13_1 k_P_13_2 f_P_13 H_P_13
                      clear k_Q_13_0 k_Q_13_1 k_Q_13_2 f_Q_13 H_Q_13
                      clear k_R_13_0 k_R_13_1 k_R_13_2 f_R_13 H_R_13
                      clear hB13
                      rintro w14 ⟨hB14, H_C_14, H_P_14, H_Q_14, H_R_14, H_S_14, hT14, hbr14⟩
                      obtain ⟨k_C_14_0, k_C_14_1, f_C_14, l_C_14⟩ := bk2 H_C_14
                      replace H_C_14 := Lib.hid H_C_14
                      obtain ⟨k_P_14_0, k_P_14_1, k_P_14_2, f_P_14, l_P_14⟩ := bk3 H_P_14
                      replace H_P_14 := Lib.hid H_P_14
                      obtain ⟨k_Q_14_0, k_Q_14_1, k_Q_14_2, f_Q_14, l_Q_14⟩ := bk3 H_Q_14
                      replace H_Q_14 := Lib.hid H_Q_14
                      obtain ⟨k_R_14_0, k_R_14_1, k_R_14_2, f_R_14, l_R_14⟩ := bk3 H_R_14
                      replace H_R_14 := Lib.hid H_R_14
                      obtain ⟨k_S_14_0, k_S_14_1, k_S_14_2, f_S_14, l_S_14⟩ := bk3 H_S_14
                      replace H_S_14 := Lib.hid H_S_14
                      have HIN14 := Lib.hid (HIN2.out.via hbr14)
                      have HXS14 := Lib.hid (HXS2.out.via hbr14)
                      have hs14 := hbr14.size
                      clear HIN2 HXS2 hC2 hP2 hQ2 hR2 hT2 hB2' TP
                      cases ok
                      · have hz := HST9.out
                        rw [Bool.false_and] at hz
                        have hz2 := HS3.out
                        rw [hz, if_neg (by simp), List.append_nil] at hz2
                        have HIN7 := Lib.hid (show HvIn w A B X Y E (.slice a9 n9 c9) (l2 ++ pmT A (X, Y, E) (x, y, e) (t + 1)) (k * 4002 + 2 * i + 2) w14 from by rw [hz2]; exact HIN14.out)
                        have hQ14 := H_Q_14.out
                        clear hz hz2 HST9 HIN14 HS3
                        go_wp2_with fail
                        go_roundw
                        case rel => exact ⟨t + 1, _, by go_num, rfl, by omega, HXS14.out, HAP3.out, hgq, hg3, hQ14, hT14, HIN7.out⟩
                        case measure => simp [intOf]; omega
                      · have heq := fun W : World => eqP3 a b c X Y E W
                        have hz := HST9.out
                        rw [Bool.true_and] at hz
                        generalize (a == X && (b == Y && c == E)) = z at *
                        cases z
                        · have hz2 := HS3.out
                          rw [hz, if_neg (by simp), List.append_nil] at hz2
                          have HIN7 := Lib.hid (show HvIn w A B X Y E (.slice a9 n9 c9) (l2 ++ pmT A (X, Y, E) (x, y, e) (t + 1)) (k * 4002 + 2 * i + 2) w14 from by rw [hz2]; exact HIN14.out)
                          have hQ14 := H_Q_14.out
                          clear hz hz2 HST9 HIN14 HS3
                          go_wp2_with fail
                          go_roundw
                          case rel => exact ⟨t + 1, _, by go_num, rfl, by omega, HXS14.out, HAP3.out, hgq, hg3, hQ14, hT14, HIN7.out⟩
                          case measure => simp [intOf]; omega
                        · have hz2 := HS3.out
                          rw [hz, if_pos rfl] at hz2
                          have HZ := Lib.hid hz2
                          have HO6 := Lib.hid (OwnX.at_len HIN14.out.1 hlo9)
                          clear hz hz2 HST9
                          go_wp2_with (first | (at_builtin; refine wpList_append_own_at _ rfl _ _ 26 rfl (w.heap.size + 2) 31 i0 (.agg #[.int .i64 0, .int .i64 0, .int .i64 0]) 3 24 Try.underlying26 hi iz0 iz1 iz2 rfl (by decide) (.slice a9 n9 c9) n9 _ rfl (HO6.out.alloc _) ⟨w14.heap.size, 0, none⟩ 1 1 [_, _, _] rfl rfl (cells3_new' _ _ _ _ _) (by simp [Value.oneCell']) (by unfold maxLen; omega) (by omega) (by simp; omega) ?_; intro v1 w9 hv1 hg1 _ hat))
                          go_roundw
                          case rel =>
                            have hlow : ∀ n, n < w.heap.size + 2 → some n ≠ Value.ownBlock (.slice a9 n9 c9) := fun n hn e => by have := (HO6.out.lt n e.symm).1; omega
                            have hc7 : w9.heap[w.heap.size]? = _ := (hg1.block _ (by simp; omega) (hlow _ (by omega))).trans (bx_old H_C_14.out _)
                            have hp7 : w9.heap[w.heap.size + 1]? = _ := (hg1.block _ (by simp; omega) (hlow _ (by omega))).trans (bx_old H_P_14.out _)
                            have hq7 : w9.heap[wy.heap.size]? = _ := (hg1.block _ (by simp; omega) hgq).trans (bx_old H_Q_14.out _)
                            have ht7 : w9.heap[w4.heap.size]? = _ := (hg1.block _ (by simp; omega) hg3).trans (bx_old hT14 _)
                            refine ⟨t + 1, v1, by go_num, rfl, by omega, ?_, ?_, ?_, ?_, hq7, ht7, ?_, ?_, hc7, hp7, ?_⟩
                            · exact HXS14.out.keep (Nat.le_trans (by simp) hg1.size) (fun n hn e => (hg1.block n (by simp; omega) (HAP3.out n e)).trans ((bx_old (Array.getElem?_eq_getElem hn) _).trans (Array.getElem?_eq_getElem hn).symm))
                            · intro n hn hv
                              rcases hat with q | q
                              · rw [q] at hv; exact HAP3.out n hn hv
                              · rw [q] at hv
                                have h1 := HXS14.out.lt n hn
                                have h2 : n = w14.heap.size + 1 := by simpa using hv
                                omega
                            · intro hv
                              rcases hat with q | q
                              · rw [q] at hv; exact hgq hv
                              · rw [q] at hv
                                have h2 : wy.heap.size = w14.heap.size + 1 := by simpa using hv
                                omega
                            · intro hv
                              rcases hat with q | q
                              · rw [q] at hv; exact hg3 hv
                              · rw [q] at hv
                                have h2 : w4.heap.size = w14.heap.size + 1 := by simpa using hv
                                omega
                            · unfold OwnX
                              rw [HZ.out, flat3_append, ints_append, List.length_append, hlo9]
                              simpa [ints, flat3] using hv1
                            · have h1 := HIN.out.2.1
                              have h2 := pmT_len A (X, Y, E) (x, y, e) (t + 1)
                              rw [List.length_append]; omega
                            · exact (Below.alloc hB14 (by omega) _).grown hg1 (by simp; omega) (fun n h => by have := (HO6.out.lt n h).1; omega)
                          case measure => simp [intOf]; omega
                    · have _t := trivial
                      have hyy : (y == 0) = true := by simpa using hy0
                      have HS3 := Lib.hid (hstep.2 (fun q => hlr q.2))
                      obtain ⟨n8, rfl⟩ : ∃ n8, n9 = n8 + 1 := ⟨n9 - 1, by omega⟩
                      rcases HO12.out.toX.2 with ⟨-, q⟩ | ⟨g9, c10, hv9, hnc9, hcm9, -, hr9⟩
                      · exfalso; omega
                      simp only [Value.slice.injEq] at hv9
                      obtain ⟨rfl, h9, rfl⟩ := hv9
                      obtain ⟨f0, f1, f2⟩ := flat3_at lo n8 (by omega)
                      have hlr2 := hlr
                      unfold lastIs at hlr2
                      rw [hlo9, show n8 + 1 - 1 = n8 by omega] at hlr2
                      obtain ⟨x9, y9, e9, hq9⟩ := pt3 (lo[n8]?.getD (0, 0, 0))
                      rw [hq9] at f0 f1 f2 hlr2
                      have d0 := (hr9.2 (n8 * 3) (by rw [flat3_len]; omega)).1
                      have d1 := (hr9.2 (n8 * 3 + 1) (by rw [flat3_len]; omega)).1
                      have d2 := (hr9.2 (n8 * 3 + 2) (by rw [flat3_len]; omega)).1
                      rw [f0] at d0
                      rw [f1] at d1
                      rw [f2] at d2
                      simp only at d0 d1 d2
                      have hg9 := hr9.1
                      unfold maxLen at hcm9
                      have hd9 : decide ((0 : Int) < ((n8 + 1 : Nat) : Int)) = true := by rw [decide_eq_true_eq]; omega
                      have hd8 : (0 : Int) < ((n8 + 1 : Nat) : Int) := by omega
                      have hd7 : (n8 : Int) < ((n8 + 1 : Nat) : Int) := by omega
                      have heq := fun W : World => eqP3 x9 y9 e9 x yr e W
                      have hze : (x9 == x && (y9 == yr && e9 == e)) = false := by
                        rw [Bool.eq_false_iff]
                        intro q
                        simp only [Bool.and_eq_true, beq_iff_eq] at q
                        exact hlr2 ⟨by omega, by rw [q.1, q.2.1, q.2.2]⟩
                      rw [hze] at heq
                      clear f0 f1 f2 hq9 hr9 hlr hlr2 h9 hze hstep hy0 hn0
                      go_quiet (fail)
                      go_upto_region 14 with fail
                      replace H_C_12 := H_C_12.out
                      replace H_P_12 := H_P_12.out
                      replace H_Q_12 := H_Q_12.out
                      replace H_R_12 := H_R_12.out
                      refine chk (fun W => Below w.heap.size w W ∧ W.heap[w.heap.size]? = some (.cells #[.int .i64 A, .int .i64 B] 29 (0, 0)) ∧ W.heap[w.heap.size + 1]? = some (.cells #[.int .i64 X, .int .i64 Y, .int .i64 E] 31 (0, 0)) ∧ W.heap[wy.heap.size]? = some (.cells #[.int .i64 x, .int .i64 y, .int .i64 e] 31 (0, 0)) ∧ W.heap[wr.heap.size]? = some (.cells #[.int .i64 x, .int .i64 yr, .int .i64 e] 31 (0, 0)) ∧ W.heap[w4.heap.size]? = some (.cells #[.int .i64 x, .int .i64 (-y), .int .i64 e, .int .i64 x, .int .i64 y, .int .i64 e] 31 (0, 0)) ∧ Below w12.heap.size w12 W) (by refine ⟨?_, ?_, ?_, ?_, ?_, ?_, ?_⟩ <;> (repeat' first | (with_reducible first | assumption | (apply Ne.symm; assumption) | apply Nat.le_refl | apply Nat.le_add_right | apply zL | apply zRf | apply Wx.box | apply Wx.box4 | apply zWa | apply Wx.drew | apply zWn | apply bx_drew | apply bx_drewN | apply bx_set3 | apply bx_set2 | apply bx_set4 | apply bx_set1) | ((with_reducible apply bx_new); (focus (go_size; done))) | (with_reducible first | apply zOl | apply zFa | apply zDn | apply zDr | apply zAl | apply zSt | refine zVi (by assumption) ?_ ?_) | go_size | omega)) ?_
                      clear k_C_12_0 k_C_12_1 f_C_12 H_C_12
                      clear k_P_12_0 k_P_12_1 k_P_12_2 f_P_12 H_P_12
                      clear k_Q_12_0 k_Q_12_1 k_Q_12_2 f_Q_12 H_Q_12
                      clear k_R_12_0 k_R_12_1 k_R_12_2 f_R_12 H_R_12
                      clear hB12
                      rintro w13 ⟨hB13, H_C_13, H_P_13, H_Q_13, H_R_13, hT13, hbr13⟩
                      obtain ⟨k_C_13_0, k_C_13_1, f_C_13, l_C_13⟩ := bk2 H_C_13
                      replace H_C_13 := Lib.hid H_C_13
                      obtain ⟨k_P_13_0, k_P_13_1, k_P_13_2, f_P_13, l_P_13⟩ := bk3 H_P_13
                      replace H_P_13 := Lib.hid H_P_13
                      obtain ⟨k_Q_13_0, k_Q_13_1, k_Q_13_2, f_Q_13, l_Q_13⟩ := bk3 H_Q_13
                      replace H_Q_13 := Lib.hid H_Q_13
                      obtain ⟨k_R_13_0, k_R_13_1, k_R_13_2, f_R_13, l_R_13⟩ := bk3 H_R_13
                      replace H_R_13 := Lib.hid H_R_13
                      have HIN13 := Lib.hid (HIN12.out.via hbr13)
                      have HXS13 := Lib.hid (HXS12.out.via hbr13)
                      clear HIN12 HXS12 hT12 HO12 d0 d1 d2 heq
                      go_upto_region 15 with (first | (have _t := tok2; go_at_call 21; (with_reducible refine ((TP _).out).mono ?_); rintro e w2 ⟨rfl, hb2⟩; clear tok2 _t; have hz2 := hb2.size; (try simp only [World.size_alloc, World.size_setCell, World.size_drew, World.size_drewN'] at hz2)))
                      have hC2 := keepX hb2 H_C_13.out
                      have hP2 := keepX hb2 H_P_13.out
                      have hQ2 := keepX hb2 H_Q_13.out
                      have hR2 := keepX hb2 H_R_13.out
                      have hT2 := keepX hb2 hT13
                      have hB2' := below_via hb2 hB13 hB13.size
                      have HIN2 := Lib.hid (HIN13.out.via hb2)
                      have HXS2 := Lib.hid (HXS13.out.via hb2)
                      have hlz : wr.heap.size ≤ w2.heap.size := by have := hb2.size; have := hbr13.size; have := hbr12.size; omega
                      have hlt2 : w4.heap.size < w2.heap.size := blk_lt' hT2
                      have hlq2 : wy.heap.size < w2.heap.size := blk_lt' hQ2
                      clear HIN13 HXS13 hb2 hbr13
                      replace H_C_13 := H_C_13.out
                      replace H_P_13 := H_P_13.out
                      replace H_Q_13 := H_Q_13.out
                      replace H_R_13 := H_R_13.out
                      refine chk (fun W => Below w.heap.size w W ∧ W.heap[w.heap.size]? = some (.cells #[.int .i64 A, .int .i64 B] 29 (0, 0)) ∧ W.heap[w.heap.size + 1]? = some (.cells #[.int .i64 X, .int .i64 Y, .int .i64 E] 31 (0, 0)) ∧ W.heap[wy.heap.size]? = some (.cells #[.int .i64 x, .int .i64 y, .int .i64 e] 31 (0, 0)) ∧ W.heap[wr.heap.size]? = some (.cells #[.int .i64 x, .int .i64 yr, .int .i64 e] 31 (0, 0)) ∧ W.heap[w2.heap.size]? = some (.cells #[.int .i64 a, .int .i64 b, .int .i64 c] 31 (0, 0)) ∧ W.heap[w4.heap.size]? = some (.cells #[.int .i64 x, .int .i64 (-y), .int .i64 e, .int .i64 x, .int .i64 y, .int .i64 e] 31 (0, 0)) ∧ Below w2.heap.size w2 W) (by refine ⟨?_, ?_, ?_, ?_, ?_, ?_, ?_, ?_⟩ <;> (repeat' first | (with_reducible first | assumption | (apply Ne.symm; assumption) | apply Nat.le_refl | apply Nat.le_add_right | apply zL | apply zRf | apply Wx.box | apply Wx.box4 | apply zWa | apply Wx.drew | apply zWn | apply bx_drew | apply bx_drewN | apply bx_set3 | apply bx_set2 | apply bx_set4 | apply bx_set1) | ((with_reducible apply bx_new); (focus (go_size; done))) | (with_reducible first | apply zOl | apply zFa | apply zDn | apply zDr | apply zAl | apply zSt | refine zVi (by assumption) ?_ ?_) | go_size | omega)) ?_
                      clear k_C_13_0 k_C_13_1 f_C_13 H_C_13
                      clear k_P_13_0 k_P_13_1 k_P_13_2 f_P_13 H_P_13
                      clear k_Q_13_0 k_Q_13_1 k_Q_13_2 f_Q_13 H_Q_13
                      clear k_R_13_0 k_R_13_1 k_R_13_2 f_R_13 H_R_13
                      clear hB13
                      rintro w14 ⟨hB14, H_C_14, H_P_14, H_Q_14, H_R_14, H_S_14, hT14, hbr14⟩
                      obtain ⟨k_C_14_0, k_C_14_1, f_C_14, l_C_14⟩ := bk2 H_C_14
                      replace H_C_14 := Lib.hid H_C_14
                      obtain ⟨k_P_14_0, k_P_14_1, k_P_14_2, f_P_14, l_P_14⟩ := bk3 H_P_14
                      replace H_P_14 := Lib.hid H_P_14
                      obtain ⟨k_Q_14_0, k_Q_14_1, k_Q_14_2, f_Q_14, l_Q_14⟩ := bk3 H_Q_14
                      replace H_Q_14 := Lib.hid H_Q_14
                      obtain ⟨k_R_14_0, k_R_14_1, k_R_14_2, f_R_14, l_R_14⟩ := bk3 H_R_14
                      replace H_R_14 := Lib.hid H_R_14
                      obtain ⟨k_S_14_0, k_S_14_1, k_S_14_2, f_S_14, l_S_14⟩ := bk3 H_S_14
                      replace H_S_14 := Lib.hid H_S_14
                      have HIN14 := Lib.hid (HIN2.out.via hbr14)
                      have HXS14 := Lib.hid (HXS2.out.via hbr14)
                      have hs14 := hbr14.size
                      clear HIN2 HXS2 hC2 hP2 hQ2 hR2 hT2 hB2' TP
                      cases ok
                      · have hz := HST9.out
                        rw [Bool.false_and] at hz
                        have hz2 := HS3.out
                        rw [hz, if_neg (by simp), List.append_nil] at hz2
                        have HIN7 := Lib.hid (show HvIn w A B X Y E (.slice (some ⟨g9, 0, none⟩) (n8 + 1) c9) (l2 ++ pmT A (X, Y, E) (x, y, e) (t + 1)) (k * 4002 + 2 * i + 2) w14 from by rw [hz2]; exact HIN14.out)
                        have hQ14 := H_Q_14.out
                        clear hz hz2 HST9 HIN14 HS3
                        go_wp2_with fail
                        go_roundw
                        case rel => exact ⟨t + 1, _, by go_num, rfl, by omega, HXS14.out, HAP3.out, hgq, hg3, hQ14, hT14, HIN7.out⟩
                        case measure => simp [intOf]; omega
                      · have heq := fun W : World => eqP3 a b c X Y E W
                        have hz := HST9.out
                        rw [Bool.true_and] at hz
                        generalize (a == X && (b == Y && c == E)) = z at *
                        cases z
                        · have hz2 := HS3.out
                          rw [hz, if_neg (by simp), List.append_nil] at hz2
                          have HIN7 := Lib.hid (show HvIn w A B X Y E (.slice (some ⟨g9, 0, none⟩) (n8 + 1) c9) (l2 ++ pmT A (X, Y, E) (x, y, e) (t + 1)) (k * 4002 + 2 * i + 2) w14 from by rw [hz2]; exact HIN14.out)
                          have hQ14 := H_Q_14.out
                          clear hz hz2 HST9 HIN14 HS3
                          go_wp2_with fail
                          go_roundw
                          case rel => exact ⟨t + 1, _, by go_num, rfl, by omega, HXS14.out, HAP3.out, hgq, hg3, hQ14, hT14, HIN7.out⟩
                          case measure => simp [intOf]; omega
                        · have hz2 := HS3.out
                          rw [hz, if_pos rfl] at hz2
                          have HZ := Lib.hid hz2
                          have HO6 := Lib.hid (OwnX.at_len HIN14.out.1 hlo9)
                          clear hz hz2 HST9
                          go_wp2_with (first | (at_builtin; refine wpList_append_own_at _ rfl _ _ 26 rfl (w.heap.size + 2) 31 i0 (.agg #[.int .i64 0, .int .i64 0, .int .i64 0]) 3 24 Try.underlying26 hi iz0 iz1 iz2 rfl (by decide) (.slice (some ⟨g9, 0, none⟩) (n8 + 1) c9) (n8 + 1) _ rfl (HO6.out.alloc _) ⟨w14.heap.size, 0, none⟩ 1 1 [_, _, _] rfl rfl (cells3_new' _ _ _ _ _) (by simp [Value.oneCell']) (by unfold maxLen; omega) (by omega) (by simp; omega) ?_; intro v1 w9 hv1 hg1 _ hat))
                          go_roundw
                          case rel =>
                            have hlow : ∀ n, n < w.heap.size + 2 → some n ≠ Value.ownBlock (.slice (some ⟨g9, 0, none⟩) (n8 + 1) c9) := fun n hn e => by have := (HO6.out.lt n e.symm).1; omega
                            have hc7 : w9.heap[w.heap.size]? = _ := (hg1.block _ (by simp; omega) (hlow _ (by omega))).trans (bx_old H_C_14.out _)
                            have hp7 : w9.heap[w.heap.size + 1]? = _ := (hg1.block _ (by simp; omega) (hlow _ (by omega))).trans (bx_old H_P_14.out _)
                            have hq7 : w9.heap[wy.heap.size]? = _ := (hg1.block _ (by simp; omega) hgq).trans (bx_old H_Q_14.out _)
                            have ht7 : w9.heap[w4.heap.size]? = _ := (hg1.block _ (by simp; omega) hg3).trans (bx_old hT14 _)
                            refine ⟨t + 1, v1, by go_num, rfl, by omega, ?_, ?_, ?_, ?_, hq7, ht7, ?_, ?_, hc7, hp7, ?_⟩
                            · exact HXS14.out.keep (Nat.le_trans (by simp) hg1.size) (fun n hn e => (hg1.block n (by simp; omega) (HAP3.out n e)).trans ((bx_old (Array.getElem?_eq_getElem hn) _).trans (Array.getElem?_eq_getElem hn).symm))
                            · intro n hn hv
                              rcases hat with q | q
                              · rw [q] at hv; exact HAP3.out n hn hv
                              · rw [q] at hv
                                have h1 := HXS14.out.lt n hn
                                have h2 : n = w14.heap.size + 1 := by simpa using hv
                                omega
                            · intro hv
                              rcases hat with q | q
                              · rw [q] at hv; exact hgq hv
                              · rw [q] at hv
                                have h2 : wy.heap.size = w14.heap.size + 1 := by simpa using hv
                                omega
                            · intro hv
                              rcases hat with q | q
                              · rw [q] at hv; exact hg3 hv
                              · rw [q] at hv
                                have h2 : w4.heap.size = w14.heap.size + 1 := by simpa using hv
                                omega
                            · unfold OwnX
                              rw [HZ.out, flat3_append, ints_append, List.length_append, hlo9]
                              simpa [ints, flat3] using hv1
                            · have h1 := HIN.out.2.1
                              have h2 := pmT_len A (X, Y, E) (x, y, e) (t + 1)
                              rw [List.length_append]; omega
                            · exact (Below.alloc hB14 (by omega) _).grown hg1 (by simp; omega) (fun n h => by have := (HO6.out.lt n h).1; omega)
                          case measure => simp [intOf]; omega
                    · have _t := trivial
                      have hyy : (y == 0) = true := by simpa using hy0
                      have HS3 := Lib.hid (hstep.1 hy0 hlr)
                      obtain ⟨n8, rfl⟩ : ∃ n8, n9 = n8 + 1 := ⟨n9 - 1, by omega⟩
                      rcases HO12.out.toX.2 with ⟨-, q⟩ | ⟨g9, c10, hv9, hnc9, hcm9, -, hr9⟩
                      · exfalso; omega
                      simp only [Value.slice.injEq] at hv9
                      obtain ⟨rfl, h9, rfl⟩ := hv9
                      obtain ⟨f0, f1, f2⟩ := flat3_at lo n8 (by omega)
                      have hlr2 := hlr
                      unfold lastIs at hlr2
                      rw [hlo9, show n8 + 1 - 1 = n8 by omega] at hlr2
                      obtain ⟨x9, y9, e9, hq9⟩ := pt3 (lo[n8]?.getD (0, 0, 0))
                      rw [hq9] at f0 f1 f2 hlr2
                      have d0 := (hr9.2 (n8 * 3) (by rw [flat3_len]; omega)).1
                      have d1 := (hr9.2 (n8 * 3 + 1) (by rw [flat3_len]; omega)).1
                      have d2 := (hr9.2 (n8 * 3 + 2) (by rw [flat3_len]; omega)).1
                      rw [f0] at d0
                      rw [f1] at d1
                      rw [f2] at d2
                      simp only at d0 d1 d2
                      have hg9 := hr9.1
                      unfold maxLen at hcm9
                      have hd9 : decide ((0 : Int) < ((n8 + 1 : Nat) : Int)) = true := by rw [decide_eq_true_eq]; omega
                      have hd8 : (0 : Int) < ((n8 + 1 : Nat) : Int) := by omega
                      have hd7 : (n8 : Int) < ((n8 + 1 : Nat) : Int) := by omega
                      obtain ⟨rfl, rfl, rfl⟩ : x9 = x ∧ y9 = yr ∧ e9 = e := by have := hlr2.2; simpa using this
                      have heq := fun W : World => eqP3 x9 y9 e9 x9 y9 e9 W
                      simp only [beq_self_eq_true, Bool.and_self] at heq
                      clear f0 f1 f2 hq9 hr9 hlr hlr2 h9 hstep hy0 hn0
                      go_quiet (fail)
                      have HIN7 := Lib.hid (show HvIn w A B X Y E (.slice (some ⟨g9, 0, none⟩) (n8 + 1) c9) (l2 ++ pmT A (X, Y, E) (x9, y, e9) (t + 1)) (k * 4002 + 2 * i + 2) w12 from by rw [HS3.out]; exact HIN12.out)
                      have hQ12 := H_Q_12.out
                      clear HIN12 HS3 TP HST9 heq
                      go_wp2_with fail
                      have hbd : Below w12.heap.size w12 (w12.drewN nq) := below_drewN (Below.refl _ _) _
                      go_roundw
                      case rel => exact ⟨t + 1, _, by go_num, rfl, by omega, HXS12.out.via hbd, HAP3.out, hgq, hg3, keepX hbd hQ12, keepX hbd hT12, HIN7.out.via hbd⟩
                      case measure => simp [intOf]; omega
                  · obtain rfl : t = 2 := by omega
                    have HX := HIN3.out
                    rw [show pmT A (X, Y, E) (x, y, e) 2 = pmK A (X, Y, E) (x, y, e) from rfl, ← HST.out] at HX
                    have HX2 := Lib.hid (HX.more (show _ ≤ k * 4002 + 2 * (i + 1) by omega))
                    clear HX HIN3 hin hC hP hQ hT
                    go_wp2_with fail
                    go_roundw
                    case rel =>
                      first
                      | exact ⟨i + 1, v, by go_num, rfl, by omega, HXS3.out, HAP3.out, HX2.out⟩
                      | ((repeat (with_reducible apply Exists.intro)); exact ⟨⟨i + 1, v, by go_num, rfl, by omega, HXS3.out, HAP3.out, HX2.out⟩, rfl⟩)
                    case measure => simp [intOf]; omega
            · obtain rfl : i = L.length := by omega
              have HX := HIN.out
              rw [List.take_length, ← HL2.out] at HX
              have HX2 := Lib.hid (HX.more (show _ ≤ (k + 1) * 4002 by omega))
              clear HX HIN HXS HAP hxs hC hP
              go_wp2_with fail
              go_roundw
              case rel =>
                first
                | exact ⟨k + 1, v, by go_num, rfl, by omega, HX2.out⟩
                | ((repeat (with_reducible apply Exists.intro)); exact ⟨⟨k + 1, v, by go_num, rfl, by omega, HX2.out⟩, rfl⟩)
              case measure => simp [intOf]; omega
        · obtain rfl : k = 20 := by omega
          have hkc : ¬ (((20 : Nat) : Int) + 1 ≤ 20) := by omega
          have hC := hin.2.2.1
          have hP := hin.2.2.2.1
          have hbw := hin.2.2.2.2
          have p2 : wr.cell? ⟨w.heap.size + 1, 2, none⟩ = some (.int .i64 E) := blk_cell hP 2
          clear hin
          by_cases hE : E = 0
          · have hEE : (E == 0) = true := by simpa using hE
            have HFN2 := Lib.hid (show hvL A B m (X, Y, E) = hvE A B m (X, Y, E) 20 ++ [(0, 0, 0)] by rw [HFN.out, if_pos hE])
            have HO6 := Lib.hid HIN.out.1
            have hle := HIN.out.2.1
            generalize hvE A B m (X, Y, E) 20 = l0 at *
            clear hE HFN
            go_wp2_with (first | (at_builtin; refine wpList_append_own_at _ rfl _ _ 26 rfl (w.heap.size + 2) 31 i0 (.agg #[.int .i64 0, .int .i64 0, .int .i64 0]) 3 24 Try.underlying26 hi iz0 iz1 iz2 rfl (by decide) v _ _ rfl (HO6.out.alloc _) ⟨wr.heap.size, 0, none⟩ 1 1 [_, _, _] rfl rfl (cells3_new' _ _ _ _ _) (by simp [Value.oneCell']) (by unfold maxLen; omega) (by omega) (by simp; omega) ?_; intro v1 w7 hv1 hg1 _ hat))
            go_ret2
            have hbz : Below w.heap.size w w7 := (Below.alloc hbw (by omega) _).grown hg1 (by simp; omega) (fun n h => by have := (HO6.out.lt n h).1; omega)
            have hsl : SlX w7 (w.heap.size + 2) 3 v1 (hvL A B m (X, Y, E)).length (flat3 (hvL A B m (X, Y, E))) := by
              rw [HFN2.out]
              refine OwnX.toX ?_
              unfold OwnX
              rw [flat3_append, ints_append, List.length_append]
              simpa [ints, flat3] using hv1
            first | exact ⟨v1, w.heap.size + 2, rfl, hsl, by omega, hbz⟩ | exact ⟨v1, rfl, w.heap.size + 2, hsl, by omega, hbz⟩
          · have hEE : (E == 0) = false := by simpa using hE
            have HFN2 := Lib.hid (show hvL A B m (X, Y, E) = hvE A B m (X, Y, E) 20 by rw [HFN.out, if_neg hE, List.append_nil])
            have HO6 := Lib.hid HIN.out.1
            generalize hvE A B m (X, Y, E) 20 = l0 at *
            clear hE HFN
            go_wp2_with fail
            go_ret2
            have hsl : SlX wr (w.heap.size + 2) 3 v (hvL A B m (X, Y, E)).length (flat3 (hvL A B m (X, Y, E))) := by rw [HFN2.out]; exact HO6.out.toX
            first | exact ⟨v, w.heap.size + 2, rfl, hsl, by omega, hbw⟩ | exact ⟨v, rfl, w.heap.size + 2, hsl, by omega, hbw⟩
end Go.Proofs.Ytndmacieecmapaa
