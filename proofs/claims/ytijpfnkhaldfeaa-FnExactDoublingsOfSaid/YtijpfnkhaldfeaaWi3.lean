/- Products of whole numbers: the program. -/
import Derived.Test.YtijpfnkhaldfeaaWi1
namespace Go.Proofs.Ytijpfnkhaldfeaa
open Go.RowKit
set_option linter.unusedVariables false
set_option maxHeartbeats 1000000
set_option maxRecDepth 20000
set_option linter.unusedSimpArgs false
attribute [local go_sem] openAt openUpon
def PoRel (W0 : World) (g m : Nat) (zs ys : List Int) (iv : Value) (wr : World) : Prop := ∃ (i : Nat) (qs : List Int), iv = .int .i64 i ∧ i ≤ zs.length ∧ qs.length = m ∧ Dig qs ∧ val qs = val (zs.take i) * val ys ∧ RowW W0 wr g 3 qs
def PiRel (W0 : World) (g m i : Nat) (V x : Int) (ys : List Int) (cv kv : Value) (wr : World) : Prop := ∃ (k : Nat) (qs : List Int) (c : Int), kv = .int .i64 k ∧ cv = .int .i64 c ∧ i ≤ k ∧ k ≤ m ∧ qs.length = m ∧ Dig qs ∧ 0 ≤ c ∧ c ≤ 9999 ∧ val qs + 10000 ^ k * c = V + 10000 ^ i * (x * val (ys.take (k - i))) ∧ RowW W0 wr g 3 qs
theorem mulWholes_eq {b b2 : Bool} {a a2 : Option Addr} {n c n2 c2 : Nat} {x y v : Int} {w : World} (hs : Wx w b a n c x) (hs2 : Wx w b2 a2 n2 c2 y) (ev : x * y = v) (l1 : ln x ≤ 10000) (l2 : ln y ≤ 10000) :
    Calls Try.prog 68 #[.agg #[.bool b, .slice a n c], .agg #[.bool b2, .slice a2 n2 c2]] w (NewW w v) := by
  obtain ⟨i0, hi, hz0, hz1, hz2⟩ := info_parts infoInt
  have hl : n ≤ 10000 := by have := hs.ln; omega
  have hl2 : n2 ≤ 10000 := by have := hs2.ln; omega
  have EV := Lib.hid ev
  clear ev
  have tok1 : True := trivial
  go_enter Try.func68, Try.ntmps68
  go_wp2_with (first | (at_make; refine wpList_make_full _ rfl _ _ 24 rfl (w.heap.size + 3) 3 i0 (.int .i64 0) 1 Try.underlying24 hi hz0 hz1 .i64 .i64 _ _ (n + n2 + 1) rfl rfl rfl rfl (by rw [hz2]; omega) (by unfold maxLen; omega) (by simp) ?_; intro W0 hm0 hg0; have hr0 := RowW.start hm0; have hb0 := made_below (B := w.heap.size) (a := w) (by repeat' first | (with_reducible first | apply zRf | assumption | apply zDn | apply zDr | apply zAl | apply zSt | refine zVi (by assumption) ?_ ?_) | go_size) hg0 (by simp; try omega); have hz0s := hg0.size; have e0 := fun o => World.cell?_of_block (a := ⟨w.heap.size, o, none⟩) (made_at hg0 (by simp; try omega)); have e1 := fun o => World.cell?_of_block (a := ⟨w.heap.size + 1, o, none⟩) (made_at hg0 (by simp; try omega)); have e2 := fun o => World.cell?_of_block (a := ⟨w.heap.size + 1 + 1, o, none⟩) (made_at hg0 (by simp; try omega)); have f2 := fun o => World.frozen?_of_block (a := ⟨w.heap.size + 1 + 1, o, none⟩) (made_at hg0 (by simp; try omega)); have kA := e0 0; have kB := e0 1; have kC := e1 0; have kD := e1 1; have kE := e2 0; have kF := e2 1; clear e0 e1 e2 hm0 hg0; simp [go_sem] at kA kB kC kD kE kF f2; simp only [World.size_alloc] at hr0 hz0s))
  have hnm : n + n2 + 1 ≤ maxLen := by unfold maxLen; omega
  have hrow1 := hs.row
  have hrow2 := hs2.row
  have hd := limbs_dig (ab x)
  have hd2 := limbs_dig (ab y)
  have HX := Lib.hid (val_ab' x)
  have HY := Lib.hid (val_ab' y)
  have HN := Lib.hid hs.neg
  have HN2 := Lib.hid hs2.neg
  clear hs hs2
  generalize limbs (ab x) = zs at *
  generalize limbs (ab y) = ys at *
  have hL := hrow1.len
  have HL2 := Lib.hid hrow2.len
  have hsz0 := blk_lt' hr0.row
  have HL := Lib.hid hL
  have hsm : ∀ i, i ≤ n → val (zs.take i) * val ys < 10000 ^ (n + n2 + 1) := fun i hi' => by
    have h1 := val_lt (hd.take i)
    have h2 := val_lt hd2
    have h3 := val_nonneg hd2
    have h4 := p4_mono (show (zs.take i).length ≤ n by rw [List.length_take]; omega)
    rw [HL2.out] at h2
    have h5 := Int.mul_lt_mul' (show val (zs.take i) ≤ 10000 ^ n by omega) h2 h3 (p4_pos n)
    rw [← Int.pow_add] at h5
    have h6 := p4_mono (show n + n2 ≤ n + n2 + 1 by omega)
    omega
  have HSM := Lib.hid hsm
  clear hsm hL
  go_loopw [23] (fun iv wr => PoRel W0 (w.heap.size + 1 + 1 + 1) (n + n2 + 1) zs ys iv wr) (fun iv _ => n - (intOf iv).toNat)
  case atStart => exact ⟨0, List.replicate (n + n2 + 1) 0, rfl, by omega, by simp, Dig.zeros _, by simp [val_zeros, val], hr0⟩
  case round =>
    obtain ⟨i, qs, rfl, hi1, hql, hqd, hqv, hrow⟩ := hrel
    have kA1 := (hrow.only.cell (b := w.heap.size) (by omega) 0).trans kA
    have kC1 := (hrow.only.cell (b := w.heap.size + 1) (by omega) 0).trans kC
    have kD1 := (hrow.only.cell (b := w.heap.size + 1) (by omega) 1).trans kD
    have kE1 := (hrow.only.cell (b := w.heap.size + 1 + 1) (by omega) 0).trans kE
    have kF1 := (hrow.only.cell (b := w.heap.size + 1 + 1) (by omega) 1).trans kF
    have fE1 := fun o => (hrow.only.froz (b := w.heap.size + 1 + 1) (by omega) o).trans (f2 o)
    have HQV := Lib.hid hqv
    have HQL := Lib.hid hql
    have HQD := Lib.hid hqd
    replace hi1 : i ≤ n := by have := HL.out; omega
    clear hqv hql hqd
    by_cases h0 : i < n
    · obtain ⟨b1, off1, rfl, hb1, hcs⟩ := hrow1.at (by omega)
      have c1 := (hrow.only.cell (b := b1) (by omega) (off1 + i)).trans ((hb0.cell (p := ⟨b1, off1 + i, none⟩) hb1).trans (hcs i h0))
      have hlt : (i : Int) < (n : Int) := by omega
      have dz := hd.getD i
      have HS := Lib.hid (val_take_succ zs i)
      rw [List.getD_eq_getElem?_getD] at dz HS
      clear hcs kC1 fE1 kE1 kF1
      generalize zs[i]?.getD 0 = x1 at *
      go_wp2_with fail
      have HR0 := Lib.hid hrow
      clear c1 kA1 kD1
      go_loopw [8, 9] (fun cv kv wr2 => PiRel W0 (w.heap.size + 1 + 1 + 1) (n + n2 + 1) i (val (zs.take i) * val ys) x1 ys cv kv wr2) (fun _ kv _ => n + n2 + 1 - (intOf kv).toNat)
      case atStart => exact ⟨i, qs, 0, rfl, rfl, Nat.le_refl _, by omega, HQL.out, HQD.out, by omega, by omega, by rw [HQV.out, Nat.sub_self]; simp [val], HR0.out⟩
      case round =>
        obtain ⟨k, ps, cc, rfl, rfl, hik, hk1, hpl, hpd, hc0, hc1, hpv, hrow3⟩ := hrel
        have HPL := Lib.hid hpl
        have HPV := Lib.hid hpv
        have HPD := Lib.hid hpd
        clear hpl hpv hpd
        have kD3 := (hrow3.only.cell (b := w.heap.size + 1) (by omega) 1).trans kD
        by_cases h1 : k < n + n2 + 1
        · have hg1 := hrow3.cell (j := k) (by have := HPL.out; omega)
          have hg2 := hrow3.free k
          have hpk := HPD.out.getD k
          have hki : (0 : Int) ≤ (k : Int) - (i : Int) := by omega
          have hki2 : (i : Int) ≤ (k : Int) := by omega
          have eki : ((k : Int) - (i : Int)).toNat = k - i := by omega
          have hlk : (k : Int) < (n : Int) + (n2 : Int) + 1 := by omega
          have HST := Lib.hid (fun (r q b0 p0 : Int) (hp0 : ps.getD k 0 = p0) (hb0 : ys.getD (k - i) 0 = b0) (h3 : p0 + cc + x1 * b0 = r + 10000 * q) => mul_step (out := ps) (b := ys) (x := x1) (c := cc) (V := val (zs.take i) * val ys) (y := p0 + cc + x1 * b0) (r := r) (q := q) (i := i) (k := k) (by have := HPL.out; omega) hik HPV.out (by rw [hb0, hp0]) h3)
          have HPK := Lib.hid (List.getD_eq_getElem?_getD (l := ps) (i := k) (a := 0))
          rw [List.getD_eq_getElem?_getD] at hpk
          by_cases hB : k - i < n2
          · obtain ⟨b2', off2, rfl, hb2, hcs2⟩ := hrow2.at (by omega)
            have c2' := (hrow3.only.cell (b := b2') (by omega) (off2 + (k - i))).trans ((hb0.cell (p := ⟨b2', off2 + (k - i), none⟩) hb2).trans (hcs2 (k - i) hB))
            have dy := hd2.getD (k - i)
            have HZ := Lib.hid (List.getD_eq_getElem?_getD (l := ys) (i := k - i) (a := 0))
            rw [List.getD_eq_getElem?_getD] at dy
            have hB2 : (k : Int) - (i : Int) < (n2 : Int) := by omega
            clear hcs2
            generalize ys[k - i]?.getD 0 = y1 at *
            generalize ps[k]?.getD 0 = p0 at *
            have hxy := mul_bd (a := x1) (b := y1) (A := 9999) (B := 9999) (by omega) (by omega)
            have hxy0 := Int.mul_nonneg dz.1 dy.1
            go_wp2_with fail
            go_roundw
            case rel => exact ⟨k + 1, ps.set k _, _, by go_num, rfl, by omega, by omega, by simp [HPL.out], HPD.out.set k (by omega), by omega, by omega, HST.out _ _ y1 p0 HPK.out HZ.out (by omega), hrow3.set _ _⟩
            case measure => simp [intOf]; omega
          · have HZ := Lib.hid (show ys.getD (k - i) 0 = 0 from gD_ge (by have := HL2.out; omega))
            have hB2 : ¬ (k : Int) - (i : Int) < (n2 : Int) := by omega
            generalize ps[k]?.getD 0 = p0 at *
            go_wp2_with fail
            go_roundw
            case rel => exact ⟨k + 1, ps.set k _, _, by go_num, rfl, by omega, by omega, by simp [HPL.out], HPD.out.set k (by omega), by omega, by omega, HST.out _ _ 0 p0 HPK.out HZ.out (by omega), hrow3.set _ _⟩
            case measure => simp [intOf]; omega
        · obtain rfl : k = n + n2 + 1 := by omega
          have HE := Lib.hid (val_take_all ys (n + n2 + 1 - i) (by have := HL2.out; omega))
          have hV : val ps = val (zs.take (i + 1)) * val ys := by
            have h1 := HPV.out
            rw [HE.out] at h1
            have h2 : val (zs.take i) * val ys + 10000 ^ i * (x1 * val ys) = val (zs.take (i + 1)) * val ys := by rw [HS.out]; grind
            rw [h2] at h1
            exact sum_end HPD.out HPL.out h1 (Int.mul_nonneg (val_nonneg (hd.take _)) (val_nonneg hd2)) (HSM.out (i + 1) (by omega))
          have HV := Lib.hid hV
          clear hV
          go_wp2_with fail
          go_roundw
          case rel => exact ⟨i + 1, ps, by go_num, by have := HL.out; omega, HPL.out, HPD.out, HV.out, hrow3⟩
          case measure => simp [intOf]; omega
    · obtain rfl : i = n := by omega
      have HE := Lib.hid (val_take_all zs i (by have := HL.out; omega))
      have HV := Lib.hid (show val qs = ab x * ab y by rw [HQV.out, HE.out, HX.out, HY.out])
      have hbw := hrow.below hb0 (by omega)
      have hsz := hrow.size
      have T1 : ∀ W, Below wr.heap.size wr W → Calls Try.prog 65 #[.bool (!(b == b2)), .slice (some ⟨w.heap.size + 1 + 1 + 1, 0, none⟩) (i + n2 + 1) (i + n2 + 1)] W (NewW W v) := fun W hW => by
        have := trimmed_any (!(b == b2)) _ (i + n2 + 1) (i + n2 + 1) qs W ((hrow.sx HQL.out hnm).below hW) (by omega) HQD.out
        have e : mkW (!(b == b2)) (val qs) = v := by rw [HV.out, HN.out, HN2.out, ← EV.out]; exact mul_sign x y
        rw [e] at this
        exact this
      clear hrow
      go_wp2_with (first | (have _t := tok1; go_at_call 65; (with_reducible refine ((T1 _ (by repeat' first | (with_reducible first | apply zRf | assumption | apply zDn | apply zDr | apply zAl | apply zSt | refine zVi (by assumption) ?_ ?_) | go_size))).mono ?_); rintro e w1 ⟨b7, a7, n7, c7, rfl, h7, f7, hb1⟩; clear tok1 _t; have hz1 := hb1.size; (try simp only [World.size_alloc, World.size_setCell, World.size_drew, World.size_drewN'] at hz1); (try (have kq := cellAt hb1 (w.heap.size) (by go_size); have k1_w_0_0 := kq 0; have k1_w_0_1 := kq 1; clear kq; have f1_w_0 := frozAt hb1 (w.heap.size) (by go_size); simp [go_sem, *] at k1_w_0_0 k1_w_0_1 f1_w_0)); (try have l1_w_0 : w.heap.size < w1.heap.size := by omega); (try (have kq := cellAt hb1 (w.heap.size + 1) (by go_size); have k1_w_1_0 := kq 0; have k1_w_1_1 := kq 1; clear kq; have f1_w_1 := frozAt hb1 (w.heap.size + 1) (by go_size); simp [go_sem, *] at k1_w_1_0 k1_w_1_1 f1_w_1)); (try have l1_w_1 : w.heap.size + 1 < w1.heap.size := by omega); (try (have kq := cellAt hb1 (w.heap.size + 1 + 1) (by go_size); have k1_w_2_0 := kq 0; have k1_w_2_1 := kq 1; clear kq; have f1_w_2 := frozAt hb1 (w.heap.size + 1 + 1) (by go_size); simp [go_sem, *] at k1_w_2_0 k1_w_2_1 f1_w_2)); (try have l1_w_2 : w.heap.size + 1 + 1 < w1.heap.size := by omega)))
      refine bodyPost_ret (v := .agg #[.bool b7, .slice a7 n7 c7]) (by simp [results, Try.results68, go_sem, *]) rfl ⟨_, _, _, _, rfl, ⟨h7.neg, ?_⟩, ?_, ?_⟩
      · have hr7 := h7.row
        (repeat' first | exact hr7 | refine Sx.set ?_ ?_ _ _ | refine Sx.alloc ?_ _ | refine Sx.drew ?_ | (intro A e; have := f7 A e; (try simp only [World.size_alloc, World.size_setCell, World.size_drew, World.size_drewN'] at this); omega))
      · (intro A e; have := f7 A e; (try simp only [World.size_alloc, World.size_setCell, World.size_drew, World.size_drewN'] at this); omega)
      repeat' first | (with_reducible first | apply zRf | assumption | apply zDn | apply zDr | apply zAl | apply zSt | refine zVi (by assumption) ?_ ?_) | go_size
end Go.Proofs.Ytijpfnkhaldfeaa
