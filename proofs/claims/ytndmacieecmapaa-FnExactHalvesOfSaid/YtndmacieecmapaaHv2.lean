/- HalvesOf: the reference. -/
import Derived.Test.YtndmacieecmapaaHv1
import Derived.Laws.StructEq
namespace Go.Proofs.Ytndmacieecmapaa
open Go.RowKit
set_option linter.unusedVariables false
set_option maxHeartbeats 4000000
set_option maxRecDepth 20000
set_option linter.unusedSimpArgs false
theorem eqP3 (a b c x y z : Int) (w : World) : (binOp .eql 31 (.agg #[.int .i64 a, .int .i64 b, .int .i64 c]) (.agg #[.int .i64 x, .int .i64 y, .int .i64 z])).run Try.prog w = .ok (.bool (a == x && (b == y && c == z))) w := by
  have u3 := Try.underlying3
  have hS : Try.prog.underlying 31 = some (.struct (Try.prog.fieldsOf 31)) := by kernel_rfl
  have hp : Try.prog.stoodInHeld 31 = false := by kernel_rfl
  rw [run_eql_struct, show (10000 : Nat) = 9999 + 1 from rfl, run_equalIn_agg w 9999 31 _ _ hS hp]
  simp only [Program.fieldsOf, Try.underlying31]
  go_simp
  by_cases h1 : a = x <;> by_cases h2 : b = y <;> by_cases h3 : c = z <;> simp [h1, h2, h3]
def NewX (w : World) (s n : Nat) (zs : List Int) (ok : Bool) (r : Ending) (w' : World) : Prop := ∃ v B, r = .returned (.tuple #[v, .bool ok]) ∧ SlX w' B s v n zs ∧ w.heap.size ≤ B ∧ Below w.heap.size w w'
noncomputable def hvL (A B : Int) (m : Nat) (p : P3) : List P3 := hvE A B m p 20 ++ if p.2.2 = 0 then [(0, 0, 0)] else []
def hvB (A B X Y E M : Int) : Bool := (cvB A B && ptB A B X Y E) && inB M 0 1000
noncomputable def hvR (A B X Y E M : Int) : List P3 := if hvB A B X Y E M = true then hvL A B M.toNat (X, Y, E) else []
theorem hvA_ok {A B x e : Int} (hx : -10000 ≤ x ∧ x ≤ 10000) (he : 1 ≤ e ∧ e ≤ 20) (hg : gcdI x e = 1) {z : P3} (hz : z ∈ hvA A B x e) : ptB A B z.1 z.2.1 z.2.2 = true := by
  unfold hvA at hz
  split at hz
  · rename_i h
    exact pm_ok hx he (by unfold hvOk; rw [decide_eq_true hg, h]; rfl) hz
  · cases hz
theorem take_filter (f : P3 → Bool) (l : List P3) {i : Nat} (h : i < l.length) : (l.take (i + 1)).filter f = (l.take i).filter f ++ if f (l[i]?.getD (0, 0, 0)) = true then [l[i]?.getD (0, 0, 0)] else [] := by
  rw [List.take_add_one, List.filter_append, List.getElem?_eq_getElem h]
  congr 1
  simp only [Option.toList, Option.getD_some]
  by_cases q : f l[i] = true <;> simp [q]
theorem kp_eq {A X Y E x y e a b c : Int} {ok : Bool} (h : ptS A x y e x y e = (a, b, c, ok)) : kp A (X, Y, E) (x, y, e) = (ok && (a == X && (b == Y && c == E))) := by
  unfold kp
  simp only
  rw [h, Bool.eq_iff_iff]
  simp [Prod.mk.injEq]
  constructor
  · rintro ⟨rfl, rfl, rfl, rfl⟩; simp
  · rintro ⟨rfl, rfl, rfl, rfl⟩; simp
theorem pt3 (q : P3) : ∃ a b c, q = (a, b, c) := ⟨_, _, _, rfl⟩
theorem pt4' (q : Int × Int × Int × Bool) : ∃ a b c d, q = (a, b, c, d) := ⟨_, _, _, _, rfl⟩
/-- what the loops keep -/
def HvIn (w : World) (A B X Y E : Int) (v : Value) (l : List P3) (L : Nat) (wr : World) : Prop := OwnX wr (w.heap.size + 2) v l ∧ l.length ≤ L ∧ wr.heap[w.heap.size]? = some (.cells #[.int .i64 A, .int .i64 B] 29 (0, 0)) ∧ wr.heap[w.heap.size + 1]? = some (.cells #[.int .i64 X, .int .i64 Y, .int .i64 E] 31 (0, 0)) ∧ Below w.heap.size w wr
theorem HvIn.via {w W V : World} {A B X Y E : Int} {v : Value} {l : List P3} {L : Nat} (h : HvIn w A B X Y E v l L W) (hb : Below W.heap.size W V) : HvIn w A B X Y E v l L V :=
  ⟨h.1.below hb, h.2.1, keepX hb h.2.2.1, keepX hb h.2.2.2.1, h.2.2.2.2.trans (hb.mono h.2.2.2.2.size)⟩
theorem HvIn.more {w W : World} {A B X Y E : Int} {v : Value} {l : List P3} {L L2 : Nat} (h : HvIn w A B X Y E v l L W) (hL : L ≤ L2) : HvIn w A B X Y E v l L2 W := ⟨h.1, Nat.le_trans h.2.1 hL, h.2.2.1, h.2.2.2.1, h.2.2.2.2⟩
def S1Rel (w : World) (A B X Y E : Int) (m : Nat) (ov ev : Value) (wr : World) : Prop := ∃ (k : Nat) (v : Value), ev = .int .i64 ((k : Int) + 1) ∧ v = ov ∧ k ≤ 20 ∧ HvIn w A B X Y E v (hvE A B m (X, Y, E) k) (k * 4002) wr
def S2Rel (w : World) (A B X Y E : Int) (m k : Nat) (l1 : List P3) (ov xv : Value) (wr : World) : Prop := ∃ (j : Nat) (v : Value), xv = .int .i64 (-(m : Int) + j) ∧ v = ov ∧ j ≤ 2 * m + 1 ∧ HvIn w A B X Y E v (l1 ++ hvX A B m ((k : Int) + 1) (X, Y, E) j) (k * 4002 + 2 * j) wr
def S3Rel (w : World) (A B X Y E : Int) (qs : List P3) (qv : Value) (B2 : Nat) (l2 : List P3) (L : Nat) (ov iv : Value) (wr : World) : Prop := ∃ (i : Nat) (v : Value), iv = .int .i64 i ∧ v = ov ∧ i ≤ qs.length ∧ SlX wr B2 3 qv qs.length (flat3 qs) ∧ (∀ n, some n = qv.ownBlock → some n ≠ v.ownBlock) ∧ HvIn w A B X Y E v (l2 ++ (qs.take i).filter (kp A (X, Y, E))) (L + i) wr
theorem sHalvesOf_any (A B X Y E M : Int) (w : World) : Calls Try.prog 4 #[.agg #[.int .i64 A, .int .i64 B], .agg #[.int .i64 X, .int .i64 Y, .int .i64 E], .int .i64 M] w (NewX w 3 (hvR A B X Y E M).length (flat3 (hvR A B X Y E M)) (hvB A B X Y E M)) := by
  have T1 := fun W : World => Lib.hid (IsPointOf_any A B X Y E W)
  have T2 := fun W : World => Lib.hid (l1In_any M 0 1000 W)
  unfold NewX
  cases h1 : (cvB A B && ptB A B X Y E)
  · rw [h1] at T1
    have hz : hvB A B X Y E M = false := by unfold hvB; rw [h1]; rfl
    unfold hvR
    rw [hz, if_neg (by simp)]
    clear h1 hz
    have tok1 : True := trivial
    have tok2 : True := trivial
    have tok3 : True := trivial
    have tok4 : True := trivial
    have tok5 : True := trivial
    go_enter Try.func4, Try.ntmps4
    go_wp2_with (first | (have _t := tok1; go_at_call 11; (with_reducible refine ((T1 _).out).mono ?_); rintro e w1 ⟨rfl, hb1⟩; clear tok1 _t; have hz1 := hb1.size; (try simp only [World.size_alloc, World.size_setCell, World.size_drew, World.size_drewN'] at hz1); (try (have kq := cellAt hb1 (w.heap.size) (by go_size); have k1_w_0_0 := kq 0; have k1_w_0_1 := kq 1; clear kq; have f1_w_0 := frozAt hb1 (w.heap.size) (by go_size); simp [go_sem, *] at k1_w_0_0 k1_w_0_1 f1_w_0)); (try have l1_w_0 : w.heap.size < w1.heap.size := by omega); (try (have kq := cellAt hb1 (w.heap.size + 1) (by go_size); have k1_w_1_0 := kq 0; have k1_w_1_1 := kq 1; have k1_w_1_2 := kq 2; clear kq; have f1_w_1 := frozAt hb1 (w.heap.size + 1) (by go_size); simp [go_sem, *] at k1_w_1_0 k1_w_1_1 k1_w_1_2 f1_w_1)); (try have l1_w_1 : w.heap.size + 1 < w1.heap.size := by omega)) | (go_at_call 12; (with_reducible refine ((T2 _).out).mono ?_); rintro e w' ⟨rfl, rfl⟩))
    go_ret2
    refine ⟨.slice none 0 0, w.heap.size, rfl, ⟨rfl, .inl ⟨rfl, rfl⟩⟩, Nat.le_refl _, ?_⟩
    repeat' first | (with_reducible first | apply zRf | assumption | apply zDn | apply zDr | apply zAl | apply zSt | refine zVi (by assumption) ?_ ?_) | go_size
  · rw [h1] at T1
    cases h2 : inB M 0 1000
    · rw [h2] at T2
      have hz : hvB A B X Y E M = false := by unfold hvB; rw [h2]; simp
      unfold hvR
      rw [hz, if_neg (by simp)]
      clear h1 h2 hz
      have tok1 : True := trivial
      have tok2 : True := trivial
      have tok3 : True := trivial
      have tok4 : True := trivial
      have tok5 : True := trivial
      go_enter Try.func4, Try.ntmps4
      go_wp2_with (first | (have _t := tok1; go_at_call 11; (with_reducible refine ((T1 _).out).mono ?_); rintro e w1 ⟨rfl, hb1⟩; clear tok1 _t; have hz1 := hb1.size; (try simp only [World.size_alloc, World.size_setCell, World.size_drew, World.size_drewN'] at hz1); (try (have kq := cellAt hb1 (w.heap.size) (by go_size); have k1_w_0_0 := kq 0; have k1_w_0_1 := kq 1; clear kq; have f1_w_0 := frozAt hb1 (w.heap.size) (by go_size); simp [go_sem, *] at k1_w_0_0 k1_w_0_1 f1_w_0)); (try have l1_w_0 : w.heap.size < w1.heap.size := by omega); (try (have kq := cellAt hb1 (w.heap.size + 1) (by go_size); have k1_w_1_0 := kq 0; have k1_w_1_1 := kq 1; have k1_w_1_2 := kq 2; clear kq; have f1_w_1 := frozAt hb1 (w.heap.size + 1) (by go_size); simp [go_sem, *] at k1_w_1_0 k1_w_1_1 k1_w_1_2 f1_w_1)); (try have l1_w_1 : w.heap.size + 1 < w1.heap.size := by omega)) | (go_at_call 12; (with_reducible refine ((T2 _).out).mono ?_); rintro e w' ⟨rfl, rfl⟩))
      go_ret2
      refine ⟨.slice none 0 0, w.heap.size, rfl, ⟨rfl, .inl ⟨rfl, rfl⟩⟩, Nat.le_refl _, ?_⟩
      repeat' first | (with_reducible first | apply zRf | assumption | apply zDn | apply zDr | apply zAl | apply zSt | refine zVi (by assumption) ?_ ?_) | go_size
    · rw [h2] at T2
      have hz : hvB A B X Y E M = true := by unfold hvB; rw [h1, h2]; rfl
      rw [Bool.and_eq_true] at h1
      obtain ⟨hA, hB, -⟩ := cvB_bd h1.1
      have hmb := inB_iff.1 h2
      obtain ⟨m, rfl⟩ : ∃ m : Nat, M = (m : Int) := ⟨M.toNat, by omega⟩
      unfold hvR
      rw [hz, if_pos rfl]
      rw [show ((m : Int)).toNat = m by omega]
      have hm : m ≤ 1000 := by omega
      obtain ⟨i0, hi, iz0, iz1, iz2⟩ := info_parts infoPt
      have HFN := Lib.hid (show hvL A B m (X, Y, E) = hvE A B m (X, Y, E) 20 ++ if E = 0 then [(0, 0, 0)] else [] from rfl)
      clear h1 h2 hz hmb
      have tok1 : True := trivial
      have tok2 : True := trivial
      have tok3 : True := trivial
      have tok4 : True := trivial
      have tok5 : True := trivial
      have tok6 : True := trivial
      have tok7 : True := trivial
      have tok8 : True := trivial
      have tok9 : True := trivial
      go_enter Try.func4, Try.ntmps4
      go_upto_region 1 with fail
      refine chk (fun W => Below w.heap.size w W ∧ W.heap[w.heap.size]? = some (.cells #[.int .i64 A, .int .i64 B] 29 (0, 0)) ∧ W.heap[w.heap.size + 1]? = some (.cells #[.int .i64 X, .int .i64 Y, .int .i64 E] 31 (0, 0))) (by refine ⟨?_, ?_, ?_⟩ <;> (repeat' first | (with_reducible first | assumption | (apply Ne.symm; assumption) | apply Nat.le_refl | apply Nat.le_add_right | apply zL | apply zRf | apply Wx.box | apply Wx.box4 | apply zWa | apply Wx.drew | apply zWn | apply bx_drew | apply bx_drewN | apply bx_set3 | apply bx_set2 | apply bx_set4 | apply bx_set1) | ((with_reducible apply bx_new); (focus (go_size; done))) | (with_reducible first | apply zOl | apply zFa | apply zDn | apply zDr | apply zAl | apply zSt | refine zVi (by assumption) ?_ ?_) | go_size | omega)) ?_
      rintro w7 ⟨hB7, H_C_7, H_P_7⟩
      obtain ⟨k_C_7_0, k_C_7_1, f_C_7, l_C_7⟩ := bk2 H_C_7
      replace H_C_7 := Lib.hid H_C_7
      obtain ⟨k_P_7_0, k_P_7_1, k_P_7_2, f_P_7, l_P_7⟩ := bk3 H_P_7
      replace H_P_7 := Lib.hid H_P_7
      go_upto_region 3 with (first | (have _t := tok1; go_at_call 11; (with_reducible refine ((T1 _).out).mono ?_); rintro e w1 ⟨rfl, hb1⟩; clear tok1 _t; have hz1 := hb1.size; (try simp only [World.size_alloc, World.size_setCell, World.size_drew, World.size_drewN'] at hz1)) | (go_at_call 12; (with_reducible refine ((T2 _).out).mono ?_); rintro e w' ⟨rfl, rfl⟩))
      have hs1 := hb1.size
      have hC1 := keepX hb1 H_C_7.out
      have hP1 := keepX hb1 H_P_7.out
      have hW1 : Below w.heap.size w w1 := below_via hb1 hB7 hB7.size
      replace H_C_7 := H_C_7.out
      replace H_P_7 := H_P_7.out
      refine chk (fun W => Below w.heap.size w W ∧ W.heap[w.heap.size]? = some (.cells #[.int .i64 A, .int .i64 B] 29 (0, 0)) ∧ W.heap[w.heap.size + 1]? = some (.cells #[.int .i64 X, .int .i64 Y, .int .i64 E] 31 (0, 0))) (by refine ⟨?_, ?_, ?_⟩ <;> (repeat' first | (with_reducible first | assumption | (apply Ne.symm; assumption) | apply Nat.le_refl | apply Nat.le_add_right | apply zL | apply zRf | apply Wx.box | apply Wx.box4 | apply zWa | apply Wx.drew | apply zWn | apply bx_drew | apply bx_drewN | apply bx_set3 | apply bx_set2 | apply bx_set4 | apply bx_set1) | ((with_reducible apply bx_new); (focus (go_size; done))) | (with_reducible first | apply zOl | apply zFa | apply zDn | apply zDr | apply zAl | apply zSt | refine zVi (by assumption) ?_ ?_) | go_size | omega)) ?_
      clear k_C_7_0 k_C_7_1 f_C_7 H_C_7
      clear k_P_7_0 k_P_7_1 k_P_7_2 f_P_7 H_P_7
      clear hB7
      rintro w8 ⟨hB8, H_C_8, H_P_8⟩
      obtain ⟨k_C_8_0, k_C_8_1, f_C_8, l_C_8⟩ := bk2 H_C_8
      replace H_C_8 := Lib.hid H_C_8
      obtain ⟨k_P_8_0, k_P_8_1, k_P_8_2, f_P_8, l_P_8⟩ := bk3 H_P_8
      replace H_P_8 := Lib.hid H_P_8
      have hs8 := hB8.size
      clear hC1 hP1 hW1 hb1 hs1
      go_wp2_with fail
      go_loopw [8, 9] (fun ov ev wr => S1Rel w A B X Y E m ov ev wr) (fun _ ev _ => (21 - intOf ev).toNat)
      case atStart => exact ⟨0, _, by first | rfl | simp, rfl, by omega, OwnX.nil _ _, by simp [hvE], H_C_8.out, H_P_8.out, hB8⟩
      case round =>
        obtain ⟨k, v, rfl, rfl, hk, hin⟩ := hrel
        have hs1 := hin.2.2.2.2.size
        have hlp := blk_lt' hin.2.2.2.1
        have HIN := Lib.hid hin
        by_cases hkl : k < 20
        · have hkc : (k : Int) + 1 ≤ 20 := by omega
          have hsE : hvE A B m (X, Y, E) (k + 1) = hvE A B m (X, Y, E) k ++ hvX A B m ((k : Int) + 1) (X, Y, E) (2 * m + 1) := rfl
          have HSE := Lib.hid hsE
          have hlE := hin.2.1
          obtain ⟨l1, hl1⟩ : ∃ l, hvE A B m (X, Y, E) k = l := ⟨_, rfl⟩
          rw [hl1] at HSE HIN
          clear hsE hin hl1 hlE
          go_wp2_with fail
          go_loopw [8, 10] (fun ov xv wr => S2Rel w A B X Y E m k l1 ov xv wr) (fun _ xv _ => (m + 1 - intOf xv).toNat)
          case atStart => exact ⟨0, v, by simp, rfl, by omega, by simpa [hvX] using HIN.out⟩
          case round =>
            obtain ⟨j, v, rfl, rfl, hj, hin⟩ := hrel
            obtain ⟨wz, hwz⟩ : ∃ wz, wz = wr := ⟨_, rfl⟩
            subst hwz
            have hs2 := hin.2.2.2.2.size
            have q0 : wz.cell? ⟨w.heap.size, 0, none⟩ = some (.int .i64 A) := blk_cell hin.2.2.1 0
            have q1 : wz.cell? ⟨w.heap.size, 1, none⟩ = some (.int .i64 B) := blk_cell hin.2.2.1 1
            have hlq := blk_lt' hin.2.2.1
            have HIN := Lib.hid hin
            have hsX : hvX A B m ((k : Int) + 1) (X, Y, E) (j + 1) = hvX A B m ((k : Int) + 1) (X, Y, E) j ++ (hvQ A B (-(m : Int) + j) ((k : Int) + 1)).filter (kp A (X, Y, E)) := rfl
            clear hin
            by_cases hjl : j < 2 * m + 1
            · have hjc : -(m : Int) + (j : Int) ≤ (m : Int) := by omega
              obtain ⟨x, hx⟩ : ∃ x, -(m : Int) + (j : Int) = x := ⟨_, rfl⟩
              have hxb : -1000 ≤ x ∧ x ≤ 1000 := by omega
              have hxn : x + 1 = -(m : Int) + ((j + 1 : Nat) : Int) := by omega
              have hxm : (m + 1 - (x + 1)).toNat < (m + 1 - x).toNat := by omega
              have HXN := Lib.hid hxn
              have HXM := Lib.hid hxm
              rw [hx] at hsX hjc ⊢
              have TA := fun W : World => Lib.hid (l1Abs_any x W (by omega) (by omega))
              have habs : 0 ≤ absI x ∧ absI x ≤ 1000 := by unfold absI; omega
              have TG := fun W : World => Lib.hid (common_any (absI x) ((k : Int) + 1) W (by omega) (by omega) (by omega) (by omega))
              simp only [gcdI_abs] at TG
              generalize absI x = ax at *
              have TX := fun W : World => Lib.hid (ptAtX_any A B x ((k : Int) + 1) W hA hB (by omega) (by omega))
              have HQN := Lib.hid (fun h => hvQ_no (A := A) (B := B) (x := x) (e := (k : Int) + 1) h)
              have HQY := Lib.hid (fun h => hvQ_yes (A := A) (B := B) (x := x) (e := (k : Int) + 1) h)
              have HOK := Lib.hid (fun (hg : gcdI x ((k : Int) + 1) = 1) (z : P3) (hz : z ∈ hvA A B x ((k : Int) + 1)) => hvA_ok (by omega) (by omega) hg hz)
              have hql : (hvA A B x ((k : Int) + 1)).length ≤ 2 := by unfold hvA; split; exact pm_len _; simp
              have HSX := Lib.hid hsX
              clear hx hsX hxn hxm
              by_cases hg : gcdI x ((k : Int) + 1) = 1
              · have HSX2 := HSX.out
                rw [HQY.out hg] at HSX2
                have HOK2 := Lib.hid (HOK.out hg)
                rw [hg] at TG
                obtain ⟨qs, hqs⟩ : ∃ q, hvA A B x ((k : Int) + 1) = q := ⟨_, rfl⟩
                rw [hqs] at HSX2 TX HOK2 hql
                have HSX3 := Lib.hid HSX2
                obtain ⟨l2, hl2⟩ : ∃ l, l1 ++ hvX A B m ((k : Int) + 1) (X, Y, E) j = l := ⟨_, rfl⟩
                rw [hl2] at HIN
                have HL2 := Lib.hid (show l1 ++ hvX A B m ((k : Int) + 1) (X, Y, E) (j + 1) = l2 ++ qs.filter (kp A (X, Y, E)) by rw [HSX3.out, ← hl2, List.append_assoc])
                clear HSX HSX2 HSX3 HQY HQN HOK hg hqs hl2
                go_wp2_with (first | (first | (go_at_call 14; (with_reducible refine ((TA _).out).mono ?_); rintro e w' ⟨rfl, rfl⟩) | (go_at_call 13; (with_reducible refine ((TG _).out).mono ?_); rintro e w' ⟨rfl, rfl⟩)) | (first | (have _t := tok3; go_at_call 15; (with_reducible refine ((TX _).out).mono ?_); rintro e w3 ⟨v3, rfl, hx3, hb3⟩; clear tok3 _t; have hz3 := hb3.size; (try simp only [World.size_alloc, World.size_setCell, World.size_drew, World.size_drewN'] at hz3); obtain ⟨a3, c3, rfl⟩ := hx3.shape)))
                have HIN3 := Lib.hid (HIN.out.via hb3)
                have HOZ := Lib.hid HIN.out.1
                have HX3 := Lib.hid hx3
                clear HIN hx3 q0 q1 TX
                go_loopw [8, 45] (fun ov iv wr => S3Rel w A B X Y E qs (.slice a3 qs.length c3) wz.heap.size l2 (k * 4002 + 2 * j) ov iv wr) (fun _ iv _ => (qs.length - intOf iv).toNat)
                case atStart =>
                  refine ⟨0, v, rfl, rfl, by omega, HX3.out, ?_, by rw [List.take_zero, List.filter_nil, List.append_nil]; exact HIN3.out.more (by omega)⟩
                  intro n hn hv
                  have h1 := HX3.out.apart n hn
                  have h2 := (HOZ.out.lt n hv.symm).2
                  omega
                case round =>
                  obtain ⟨i, v, rfl, rfl, hiq, hxs, hap, hin⟩ := hrel
                  have hbw := hin.2.2.2.2
                  have hs3 := hbw.size
                  have hC := hin.2.2.1
                  have hP := hin.2.2.2.1
                  have hlP := blk_lt' hP
                  have HIN := Lib.hid hin
                  have HXS := Lib.hid hxs
                  have HAP := Lib.hid hap
                  clear hin hap
                  by_cases hil : i < qs.length
                  · have hilc : (i : Int) < (qs.length : Int) := by omega
                    obtain ⟨hl3, hsh⟩ := hxs
                    rcases hsh with ⟨_, h0⟩ | ⟨g, cap, hv, hnc, hcm, hB2, hrow⟩
                    · exfalso; omega
                    · simp only [Value.slice.injEq] at hv
                      obtain ⟨rfl, h4, rfl⟩ := hv
                      unfold maxLen at hcm
                      obtain ⟨f0, f1, f2⟩ := flat3_at qs i hil
                      obtain ⟨x1, y1, e1, hq⟩ := pt3 (qs[i]?.getD (0, 0, 0))
                      have hok := HOK2.out _ (show qs[i]?.getD (0, 0, 0) ∈ qs by rw [List.getElem?_eq_getElem hil]; simp)
                      have hst := take_filter (kp A (X, Y, E)) qs hil
                      rw [hq] at f0 f1 f2 hok hst
                      have c0 := (hrow.2 (i * 3) (by omega)).1
                      have c1 := (hrow.2 (i * 3 + 1) (by omega)).1
                      have c2 := (hrow.2 (i * 3 + 2) (by omega)).1
                      rw [f0] at c0
                      rw [f1] at c1
                      rw [f2] at c2
                      simp only at c0 c1 c2 hok
                      have hgl := hrow.1
                      have TP := fun W : World => Lib.hid (ptAdd_any A B x1 y1 e1 x1 y1 e1 W hA hB hok hok)
                      obtain ⟨a, b, c, ok, hS⟩ := pt4' (ptS A x1 y1 e1 x1 y1 e1)
                      have hkp := kp_eq (X := X) (Y := Y) (E := E) hS
                      rw [hS] at TP
                      simp only at TP
                      rw [hkp] at hst
                      have HST := Lib.hid hst
                      clear hrow f0 f1 f2 hq hok hst hS hkp h4 hl3
                      go_upto_region 14 with fail
                      replace H_C_8 := H_C_8.out
                      replace H_P_8 := H_P_8.out
                      refine chk (fun W => Below w.heap.size w W ∧ W.heap[w.heap.size]? = some (.cells #[.int .i64 A, .int .i64 B] 29 (0, 0)) ∧ W.heap[w.heap.size + 1]? = some (.cells #[.int .i64 X, .int .i64 Y, .int .i64 E] 31 (0, 0)) ∧ W.heap[wr.heap.size]? = some (.cells #[.int .i64 x1, .int .i64 y1, .int .i64 e1] 31 (0, 0)) ∧ Below wr.heap.size wr W) (by refine ⟨?_, ?_, ?_, ?_, ?_⟩ <;> (repeat' first | (with_reducible first | assumption | (apply Ne.symm; assumption) | apply Nat.le_refl | apply Nat.le_add_right | apply zL | apply zRf | apply Wx.box | apply Wx.box4 | apply zWa | apply Wx.drew | apply zWn | apply bx_drew | apply bx_drewN | apply bx_set3 | apply bx_set2 | apply bx_set4 | apply bx_set1) | ((with_reducible apply bx_new); (focus (go_size; done))) | (with_reducible first | apply zOl | apply zFa | apply zDn | apply zDr | apply zAl | apply zSt | refine zVi (by assumption) ?_ ?_) | go_size | omega)) ?_
                      clear k_C_8_0 k_C_8_1 f_C_8 H_C_8
                      clear k_P_8_0 k_P_8_1 k_P_8_2 f_P_8 H_P_8
                      clear hB8
                      rintro w5 ⟨hB5, H_C_5, H_P_5, H_Q_5, hbr⟩
                      obtain ⟨k_C_5_0, k_C_5_1, f_C_5, l_C_5⟩ := bk2 H_C_5
                      replace H_C_5 := Lib.hid H_C_5
                      obtain ⟨k_P_5_0, k_P_5_1, k_P_5_2, f_P_5, l_P_5⟩ := bk3 H_P_5
                      replace H_P_5 := Lib.hid H_P_5
                      obtain ⟨k_Q_5_0, k_Q_5_1, k_Q_5_2, f_Q_5, l_Q_5⟩ := bk3 H_Q_5
                      replace H_Q_5 := Lib.hid H_Q_5
                      clear c0 c1 c2 hC hP
                      go_upto_region 15 with (first | (have _t := tok4; go_at_call 16; (with_reducible refine ((TP _).out).mono ?_); rintro e w4 ⟨rfl, hb4⟩; clear tok4 _t; have hz4 := hb4.size; (try simp only [World.size_alloc, World.size_setCell, World.size_drew, World.size_drewN'] at hz4)))
                      have hC4 := keepX hb4 H_C_5.out
                      have hP4 := keepX hb4 H_P_5.out
                      have hQ4 := keepX hb4 H_Q_5.out
                      have hbr4 := below_via hb4 hbr hbr.size
                      have hB4 := below_via hb4 hB5 hB5.size
                      have hs4 := hbr4.size
                      clear hb4 hbr
                      replace H_C_5 := H_C_5.out
                      replace H_P_5 := H_P_5.out
                      replace H_Q_5 := H_Q_5.out
                      refine chk (fun W => Below w.heap.size w W ∧ W.heap[w.heap.size]? = some (.cells #[.int .i64 A, .int .i64 B] 29 (0, 0)) ∧ W.heap[w.heap.size + 1]? = some (.cells #[.int .i64 X, .int .i64 Y, .int .i64 E] 31 (0, 0)) ∧ W.heap[wr.heap.size]? = some (.cells #[.int .i64 x1, .int .i64 y1, .int .i64 e1] 31 (0, 0)) ∧ W.heap[w4.heap.size]? = some (.cells #[.int .i64 a, .int .i64 b, .int .i64 c] 31 (0, 0)) ∧ Below wr.heap.size wr W) (by refine ⟨?_, ?_, ?_, ?_, ?_, ?_⟩ <;> (repeat' first | (with_reducible first | assumption | (apply Ne.symm; assumption) | apply Nat.le_refl | apply Nat.le_add_right | apply zL | apply zRf | apply Wx.box | apply Wx.box4 | apply zWa | apply Wx.drew | apply zWn | apply bx_drew | apply bx_drewN | apply bx_set3 | apply bx_set2 | apply bx_set4 | apply bx_set1) | ((with_reducible apply bx_new); (focus (go_size; done))) | (with_reducible first | apply zOl | apply zFa | apply zDn | apply zDr | apply zAl | apply zSt | refine zVi (by assumption) ?_ ?_) | go_size | omega)) ?_
                      clear k_C_5_0 k_C_5_1 f_C_5 H_C_5
                      clear k_P_5_0 k_P_5_1 k_P_5_2 f_P_5 H_P_5
                      clear k_Q_5_0 k_Q_5_1 k_Q_5_2 f_Q_5 H_Q_5
                      clear hB5
                      rintro w6 ⟨hB6, H_C_6, H_P_6, H_Q_6, H_S_6, hbr6⟩
                      obtain ⟨k_C_6_0, k_C_6_1, f_C_6, l_C_6⟩ := bk2 H_C_6
                      replace H_C_6 := Lib.hid H_C_6
                      obtain ⟨k_P_6_0, k_P_6_1, k_P_6_2, f_P_6, l_P_6⟩ := bk3 H_P_6
                      replace H_P_6 := Lib.hid H_P_6
                      obtain ⟨k_Q_6_0, k_Q_6_1, k_Q_6_2, f_Q_6, l_Q_6⟩ := bk3 H_Q_6
                      replace H_Q_6 := Lib.hid H_Q_6
                      obtain ⟨k_S_6_0, k_S_6_1, k_S_6_2, f_S_6, l_S_6⟩ := bk3 H_S_6
                      replace H_S_6 := Lib.hid H_S_6
                      have HIN6 := Lib.hid (HIN.out.via hbr6)
                      have HXS6 := Lib.hid (HXS.out.via hbr6)
                      clear HIN HXS hC4 hP4 hQ4 hbr4 hB4 TP
                      cases ok
                      · have hz := HST.out
                        rw [Bool.false_and, if_neg (by simp), List.append_nil] at hz
                        have HIN7 := Lib.hid (show HvIn w A B X Y E v (l2 ++ (qs.take (i + 1)).filter (kp A (X, Y, E))) (k * 4002 + 2 * j + (i + 1)) w6 from by rw [hz]; exact HIN6.out.more (by omega))
                        clear hz HST HIN6
                        go_wp2_with fail
                        go_roundw
                        case rel => exact ⟨i + 1, v, by go_num, rfl, by omega, HXS6.out, HAP.out, HIN7.out⟩
                        case measure => simp [intOf]; omega
                      · have heq := fun W : World => eqP3 a b c X Y E W
                        have hz := HST.out
                        rw [Bool.true_and] at hz
                        generalize (a == X && (b == Y && c == E)) = z at *
                        cases z
                        · rw [if_neg (by simp), List.append_nil] at hz
                          have HIN7 := Lib.hid (show HvIn w A B X Y E v (l2 ++ (qs.take (i + 1)).filter (kp A (X, Y, E))) (k * 4002 + 2 * j + (i + 1)) w6 from by rw [hz]; exact HIN6.out.more (by omega))
                          clear hz HST HIN6
                          go_wp2_with fail
                          go_roundw
                          case rel => exact ⟨i + 1, v, by go_num, rfl, by omega, HXS6.out, HAP.out, HIN7.out⟩
                          case measure => simp [intOf]; omega
                        · rw [if_pos rfl] at hz
                          have HZ := Lib.hid (show l2 ++ (qs.take (i + 1)).filter (kp A (X, Y, E)) = (l2 ++ (qs.take i).filter (kp A (X, Y, E))) ++ [(x1, y1, e1)] by rw [hz, List.append_assoc])
                          have HO6 := Lib.hid HIN6.out.1
                          have hle := HIN6.out.2.1
                          have hk2 : k * 4002 + 2 * j + i ≤ 100000 := by omega
                          clear hz HST
                          have hs6 := hB6.size
                          go_wp2_with (first | (at_builtin; refine wpList_append_own_at _ rfl _ _ 26 rfl (w.heap.size + 2) 31 i0 (.agg #[.int .i64 0, .int .i64 0, .int .i64 0]) 3 24 Try.underlying26 hi iz0 iz1 iz2 rfl (by decide) v _ _ rfl (HO6.out.alloc _) ⟨w6.heap.size, 0, none⟩ 1 1 [_, _, _] rfl rfl (cells3_new' _ _ _ _ _) (by simp [Value.oneCell']) (by unfold maxLen; omega) (by omega) (by simp; omega) ?_; intro v1 w7 hv1 hg1 _ hat))
                          go_roundw
                          case rel =>
                            have hlow : ∀ n, n < w.heap.size + 2 → some n ≠ v.ownBlock := fun n hn e => by have := (HO6.out.lt n e.symm).1; omega
                            have hc7 : w7.heap[w.heap.size]? = _ := (hg1.block _ (by simp; omega) (hlow _ (by omega))).trans (bx_old H_C_6.out _)
                            have hp7 : w7.heap[w.heap.size + 1]? = _ := (hg1.block _ (by simp; omega) (hlow _ (by omega))).trans (bx_old H_P_6.out _)
                            refine ⟨i + 1, v1, by go_num, rfl, by omega, ?_, ?_, ?_, ?_, hc7, hp7, ?_⟩
                            · exact HXS6.out.keep (Nat.le_trans (by simp) hg1.size) (fun n hn e => (hg1.block n (by simp; omega) (HAP.out n e)).trans (by have := Array.getElem?_eq_some_iff.1 (show w6.heap[n]? = some _ from Array.getElem?_eq_getElem hn); exact (bx_old (Array.getElem?_eq_getElem hn) _).trans (Array.getElem?_eq_getElem hn).symm))
                            · intro n hn hv
                              rcases hat with q | q
                              · rw [q] at hv; exact HAP.out n hn hv
                              · rw [q] at hv
                                have h1 := HXS6.out.lt n hn
                                have h2 : n = w6.heap.size + 1 := by simpa using hv
                                omega
                            · unfold OwnX
                              rw [HZ.out, flat3_append, ints_append, List.length_append]
                              simpa [ints, flat3] using hv1
                            · rw [HZ.out, List.length_append, List.length_singleton]; omega
                            · exact (Below.alloc hB6 (by omega) _).grown hg1 (by simp; omega) (fun n h => by have := (HO6.out.lt n h).1; omega)
                          case measure => simp [intOf]; omega
                  · obtain rfl : i = qs.length := by omega
                    have HX := HIN.out
                    rw [List.take_length, ← HL2.out] at HX
                    have HX2 := Lib.hid (HX.more (show _ ≤ k * 4002 + 2 * (j + 1) by omega))
                    clear HX HIN HXS HAP hxs hC hP
                    go_wp2_with fail
                    go_roundw
                    case rel =>
                      first
                      | exact ⟨j + 1, v, by rw [HXN.out], rfl, by omega, HX2.out⟩
                      | ((repeat (with_reducible apply Exists.intro)); exact ⟨⟨j + 1, v, by rw [HXN.out], rfl, by omega, HX2.out⟩, rfl⟩)
                    case measure => simpa [intOf] using HXM.out
              · obtain ⟨gg, hgg⟩ : ∃ gg, gcdI x ((k : Int) + 1) = gg := ⟨_, rfl⟩
                have HSX2 := HSX.out
                rw [HQN.out hg] at HSX2
                rw [hgg] at TG hg
                have hgn : (gg != 1) = true := by simpa using hg
                rw [List.filter_nil, List.append_nil] at HSX2
                have HX2 := Lib.hid (show HvIn w A B X Y E v (l1 ++ hvX A B m ((k : Int) + 1) (X, Y, E) (j + 1)) (k * 4002 + 2 * (j + 1)) wz from by rw [HSX2]; exact HIN.out.more (by omega))
                clear HSX HSX2 HQN HQY HOK hg hgg TX hql HIN
                go_wp2_with (first | (go_at_call 14; (with_reducible refine ((TA _).out).mono ?_); rintro e w' ⟨rfl, rfl⟩) | (go_at_call 13; (with_reducible refine ((TG _).out).mono ?_); rintro e w' ⟨rfl, rfl⟩))
                go_roundw
                case rel => exact ⟨j + 1, v, by rw [HXN.out], rfl, by omega, HX2.out⟩
                case measure => simpa [intOf] using HXM.out
            · have hje : j = 2 * m + 1 := by omega
              have HX := HIN.out
              rw [hje, ← HSE.out] at HX
              have HX2 := Lib.hid (HX.more (show _ ≤ (k + 1) * 4002 by omega))
              have hnc : ¬ (-(m : Int) + (j : Int) ≤ (m : Int)) := by omega
              obtain ⟨x, hx⟩ : ∃ x, -(m : Int) + (j : Int) = x := ⟨_, rfl⟩
              rw [hx] at hnc ⊢
              clear HX HIN hsX hx hje q0 q1 hj hjl
              go_wp2_with fail
              go_roundw
              case rel =>
                first
                | exact ⟨k + 1, v, by go_num, rfl, by omega, HX2.out⟩
                | ((repeat (with_reducible apply Exists.intro)); exact ⟨⟨k + 1, v, by go_num, rfl, by omega, HX2.out⟩, rfl⟩)
              case measure => simp [intOf]; omega
        · obtain rfl : k = 20 := by omega
          have hkc : ¬ (((20 : Nat) : Int) + 1 ≤ 20) := by omega
          have hC := hin.2.2.1
          have hP := hin.2.2.2.1
          have hbw := hin.2.2.2.2
          have p2 : wr.cell? ⟨w.heap.size + 1, 2, none⟩ = some (.int .i64 E) := blk_cell hP 2
          clear hin
          by_cases hE : E = 0
          · have hEE : (E == 0) = true := by simpa using hE
            have HFN2 := Lib.hid (show hvL A B m (X, Y, E) = hvE A B m (X, Y, E) 20 ++ [(0, 0, 0)] by rw [HFN.out, if_pos hE])
            have HO6 := Lib.hid HIN.out.1
            have hle := HIN.out.2.1
            generalize hvE A B m (X, Y, E) 20 = l0 at *
            clear hE HFN
            go_wp2_with (first | (at_builtin; refine wpList_append_own_at _ rfl _ _ 26 rfl (w.heap.size + 2) 31 i0 (.agg #[.int .i64 0, .int .i64 0, .int .i64 0]) 3 24 Try.underlying26 hi iz0 iz1 iz2 rfl (by decide) v _ _ rfl (HO6.out.alloc _) ⟨wr.heap.size, 0, none⟩ 1 1 [_, _, _] rfl rfl (cells3_new' _ _ _ _ _) (by simp [Value.oneCell']) (by unfold maxLen; omega) (by omega) (by simp; omega) ?_; intro v1 w7 hv1 hg1 _ hat))
            go_ret2
            have hbz : Below w.heap.size w w7 := (Below.alloc hbw (by omega) _).grown hg1 (by simp; omega) (fun n h => by have := (HO6.out.lt n h).1; omega)
            have hsl : SlX w7 (w.heap.size + 2) 3 v1 (hvL A B m (X, Y, E)).length (flat3 (hvL A B m (X, Y, E))) := by
              rw [HFN2.out]
              refine OwnX.toX ?_
              unfold OwnX
              rw [flat3_append, ints_append, List.length_append]
              simpa [ints, flat3] using hv1
            first | exact ⟨v1, w.heap.size + 2, rfl, hsl, by omega, hbz⟩ | exact ⟨v1, rfl, w.heap.size + 2, hsl, by omega, hbz⟩
          · have hEE : (E == 0) = false := by simpa using hE
            have HFN2 := Lib.hid (show hvL A B m (X, Y, E) = hvE A B m (X, Y, E) 20 by rw [HFN.out, if_neg hE, List.append_nil])
            have HO6 := Lib.hid HIN.out.1
            generalize hvE A B m (X, Y, E) 20 = l0 at *
            clear hE HFN
            go_wp2_with fail
            go_ret2
            have hsl : SlX wr (w.heap.size + 2) 3 v (hvL A B m (X, Y, E)).length (flat3 (hvL A B m (X, Y, E))) := by rw [HFN2.out]; exact HO6.out.toX
            first | exact ⟨v, w.heap.size + 2, rfl, hsl, by omega, hbw⟩ | exact ⟨v, rfl, w.heap.size + 2, hsl, by omega, hbw⟩
end Go.Proofs.Ytndmacieecmapaa
