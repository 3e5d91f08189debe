/- Lemmas and contracts of functions. No condition. -/
import Derived.Test.YtgjppinjapdbeaaGreatPk3
import Derived.Test.YtgjppinjapdbeaaGreatPk4
import Derived.Test.YtgjppinjapdbeaaGreatPk6
import Derived.Test.YtgjppinjapdbeaaGreatPk8
namespace Go.Proofs.YtgjppinjapdbeaaGreat
section
open Go.RowKit
set_option linter.unusedVariables false
set_option maxHeartbeats 1000000
set_option maxRecDepth 20000
set_option linter.unusedSimpArgs false
attribute [local go_sem] openAt openUpon
def PoRel (W0 : World) (g m : Nat) (zs ys : List Int) (iv : Value) (wr : World) : Prop := ∃ (i : Nat) (qs : List Int), iv = .int .i64 i ∧ i ≤ zs.length ∧ qs.length = m ∧ Dig qs ∧ val qs = val (zs.take i) * val ys ∧ RowW W0 wr g 3 qs
def PiRel (W0 : World) (g m i : Nat) (V x : Int) (ys : List Int) (cv kv : Value) (wr : World) : Prop := ∃ (k : Nat) (qs : List Int) (c : Int), kv = .int .i64 k ∧ cv = .int .i64 c ∧ i ≤ k ∧ k ≤ m ∧ qs.length = m ∧ Dig qs ∧ 0 ≤ c ∧ c ≤ 9999 ∧ val qs + 10000 ^ k * c = V + 10000 ^ i * (x * val (ys.take (k - i))) ∧ RowW W0 wr g 3 qs
theorem mulWholes_eq {b b2 : Bool} {a a2 : Option Addr} {n c n2 c2 : Nat} {x y v : Int} {w : World} (hs : Wx w b a n c x) (hs2 : Wx w b2 a2 n2 c2 y) (ev : x * y = v) (l1 : ln x ≤ 10000) (l2 : ln y ≤ 10000) :
    Calls Tryz.prog 59 #[.agg #[.bool b, .slice a n c], .agg #[.bool b2, .slice a2 n2 c2]] w (NewW w v) := by
  obtain ⟨i0, hi, hz0, hz1, hz2⟩ := info_parts infoInt
  have hl : n ≤ 10000 := by have := hs.ln; omega
  have hl2 : n2 ≤ 10000 := by have := hs2.ln; omega
  have EV := Lib.hid ev
  clear ev
  have tok1 : True := trivial
  go_enter Tryz.func59, Tryz.ntmps59
  go_wp2_with (first | (at_make; refine wpList_make_full _ rfl _ _ 80 rfl (w.heap.size + 3) 3 i0 (.int .i64 0) 1 Tryz.underlying80 hi hz0 hz1 .i64 .i64 _ _ (n + n2 + 1) rfl rfl rfl rfl (by rw [hz2]; omega) (by unfold maxLen; omega) (by simp) ?_; intro W0 hm0 hg0; have hr0 := RowW.start hm0; have hb0 := made_below (B := w.heap.size) (a := w) (by repeat' first | (with_reducible first | apply zRf | assumption | apply zDn | apply zDr | apply zAl | apply zSt | refine zVi (by assumption) ?_ ?_) | go_size) hg0 (by simp; try omega); have hz0s := hg0.size; have e0 := fun o => World.cell?_of_block (a := ⟨w.heap.size, o, none⟩) (made_at hg0 (by simp; try omega)); have e1 := fun o => World.cell?_of_block (a := ⟨w.heap.size + 1, o, none⟩) (made_at hg0 (by simp; try omega)); have e2 := fun o => World.cell?_of_block (a := ⟨w.heap.size + 1 + 1, o, none⟩) (made_at hg0 (by simp; try omega)); have f2 := fun o => World.frozen?_of_block (a := ⟨w.heap.size + 1 + 1, o, none⟩) (made_at hg0 (by simp; try omega)); have kA := e0 0; have kB := e0 1; have kC := e1 0; have kD := e1 1; have kE := e2 0; have kF := e2 1; clear e0 e1 e2 hm0 hg0; simp [go_sem] at kA kB kC kD kE kF f2; simp only [World.size_alloc] at hr0 hz0s))
  have hnm : n + n2 + 1 ≤ maxLen := by unfold maxLen; omega
  have hrow1 := hs.row
  have hrow2 := hs2.row
  have hd := limbs_dig (ab x)
  have hd2 := limbs_dig (ab y)
  have HX := Lib.hid (val_ab' x)
  have HY := Lib.hid (val_ab' y)
  have HN := Lib.hid hs.neg
  have HN2 := Lib.hid hs2.neg
  clear hs hs2
  generalize limbs (ab x) = zs at *
  generalize limbs (ab y) = ys at *
  have hL := hrow1.len
  have HL2 := Lib.hid hrow2.len
  have hsz0 := blk_lt' hr0.row
  have HL := Lib.hid hL
  have hsm : ∀ i, i ≤ n → val (zs.take i) * val ys < 10000 ^ (n + n2 + 1) := fun i hi' => by
    have h1 := val_lt (hd.take i)
    have h2 := val_lt hd2
    have h3 := val_nonneg hd2
    have h4 := p4_mono (show (zs.take i).length ≤ n by rw [List.length_take]; omega)
    rw [HL2.out] at h2
    have h5 := Int.mul_lt_mul' (show val (zs.take i) ≤ 10000 ^ n by omega) h2 h3 (p4_pos n)
    rw [← Int.pow_add] at h5
    have h6 := p4_mono (show n + n2 ≤ n + n2 + 1 by omega)
    omega
  have HSM := Lib.hid hsm
  clear hsm hL
  go_loopw [23] (fun iv wr => PoRel W0 (w.heap.size + 1 + 1 + 1) (n + n2 + 1) zs ys iv wr) (fun iv _ => n - (intOf iv).toNat)
  case atStart => exact ⟨0, List.replicate (n + n2 + 1) 0, rfl, by omega, by simp, Dig.zeros _, by simp [val_zeros, val], hr0⟩
  case round =>
    obtain ⟨i, qs, rfl, hi1, hql, hqd, hqv, hrow⟩ := hrel
    have kA1 := (hrow.only.cell (b := w.heap.size) (by omega) 0).trans kA
    have kC1 := (hrow.only.cell (b := w.heap.size + 1) (by omega) 0).trans kC
    have kD1 := (hrow.only.cell (b := w.heap.size + 1) (by omega) 1).trans kD
    have kE1 := (hrow.only.cell (b := w.heap.size + 1 + 1) (by omega) 0).trans kE
    have kF1 := (hrow.only.cell (b := w.heap.size + 1 + 1) (by omega) 1).trans kF
    have fE1 := fun o => (hrow.only.froz (b := w.heap.size + 1 + 1) (by omega) o).trans (f2 o)
    have HQV := Lib.hid hqv
    have HQL := Lib.hid hql
    have HQD := Lib.hid hqd
    replace hi1 : i ≤ n := by have := HL.out; omega
    clear hqv hql hqd
    by_cases h0 : i < n
    · obtain ⟨b1, off1, rfl, hb1, hcs⟩ := hrow1.at (by omega)
      have c1 := (hrow.only.cell (b := b1) (by omega) (off1 + i)).trans ((hb0.cell (p := ⟨b1, off1 + i, none⟩) hb1).trans (hcs i h0))
      have hlt : (i : Int) < (n : Int) := by omega
      have dz := hd.getD i
      have HS := Lib.hid (val_take_succ zs i)
      rw [List.getD_eq_getElem?_getD] at dz HS
      clear hcs kC1 fE1 kE1 kF1
      generalize zs[i]?.getD 0 = x1 at *
      go_wp2_with fail
      have HR0 := Lib.hid hrow
      clear c1 kA1 kD1
      go_loopw [8, 9] (fun cv kv wr2 => PiRel W0 (w.heap.size + 1 + 1 + 1) (n + n2 + 1) i (val (zs.take i) * val ys) x1 ys cv kv wr2) (fun _ kv _ => n + n2 + 1 - (intOf kv).toNat)
      case atStart => exact ⟨i, qs, 0, rfl, rfl, Nat.le_refl _, by omega, HQL.out, HQD.out, by omega, by omega, by rw [HQV.out, Nat.sub_self]; simp [val], HR0.out⟩
      case round =>
        obtain ⟨k, ps, cc, rfl, rfl, hik, hk1, hpl, hpd, hc0, hc1, hpv, hrow3⟩ := hrel
        have HPL := Lib.hid hpl
        have HPV := Lib.hid hpv
        have HPD := Lib.hid hpd
        clear hpl hpv hpd
        have kD3 := (hrow3.only.cell (b := w.heap.size + 1) (by omega) 1).trans kD
        by_cases h1 : k < n + n2 + 1
        · have hg1 := hrow3.cell (j := k) (by have := HPL.out; omega)
          have hg2 := hrow3.free k
          have hpk := HPD.out.getD k
          have hki : (0 : Int) ≤ (k : Int) - (i : Int) := by omega
          have hki2 : (i : Int) ≤ (k : Int) := by omega
          have eki : ((k : Int) - (i : Int)).toNat = k - i := by omega
          have hlk : (k : Int) < (n : Int) + (n2 : Int) + 1 := by omega
          have HST := Lib.hid (fun (r q b0 p0 : Int) (hp0 : ps.getD k 0 = p0) (hb0 : ys.getD (k - i) 0 = b0) (h3 : p0 + cc + x1 * b0 = r + 10000 * q) => mul_step (out := ps) (b := ys) (x := x1) (c := cc) (V := val (zs.take i) * val ys) (y := p0 + cc + x1 * b0) (r := r) (q := q) (i := i) (k := k) (by have := HPL.out; omega) hik HPV.out (by rw [hb0, hp0]) h3)
          have HPK := Lib.hid (List.getD_eq_getElem?_getD (l := ps) (i := k) (a := 0))
          rw [List.getD_eq_getElem?_getD] at hpk
          by_cases hB : k - i < n2
          · obtain ⟨b2', off2, rfl, hb2, hcs2⟩ := hrow2.at (by omega)
            have c2' := (hrow3.only.cell (b := b2') (by omega) (off2 + (k - i))).trans ((hb0.cell (p := ⟨b2', off2 + (k - i), none⟩) hb2).trans (hcs2 (k - i) hB))
            have dy := hd2.getD (k - i)
            have HZ := Lib.hid (List.getD_eq_getElem?_getD (l := ys) (i := k - i) (a := 0))
            rw [List.getD_eq_getElem?_getD] at dy
            have hB2 : (k : Int) - (i : Int) < (n2 : Int) := by omega
            clear hcs2
            generalize ys[k - i]?.getD 0 = y1 at *
            generalize ps[k]?.getD 0 = p0 at *
            have hxy := mul_bd (a := x1) (b := y1) (A := 9999) (B := 9999) (by omega) (by omega)
            have hxy0 := Int.mul_nonneg dz.1 dy.1
            go_wp2_with fail
            go_roundw
            case rel => exact ⟨k + 1, ps.set k _, _, by go_num, rfl, by omega, by omega, by simp [HPL.out], HPD.out.set k (by omega), by omega, by omega, HST.out _ _ y1 p0 HPK.out HZ.out (by omega), hrow3.set _ _⟩
            case measure => simp [intOf]; omega
          · have HZ := Lib.hid (show ys.getD (k - i) 0 = 0 from gD_ge (by have := HL2.out; omega))
            have hB2 : ¬ (k : Int) - (i : Int) < (n2 : Int) := by omega
            generalize ps[k]?.getD 0 = p0 at *
            go_wp2_with fail
            go_roundw
            case rel => exact ⟨k + 1, ps.set k _, _, by go_num, rfl, by omega, by omega, by simp [HPL.out], HPD.out.set k (by omega), by omega, by omega, HST.out _ _ 0 p0 HPK.out HZ.out (by omega), hrow3.set _ _⟩
            case measure => simp [intOf]; omega
        · obtain rfl : k = n + n2 + 1 := by omega
          have HE := Lib.hid (val_take_all ys (n + n2 + 1 - i) (by have := HL2.out; omega))
          have hV : val ps = val (zs.take (i + 1)) * val ys := by
            have h1 := HPV.out
            rw [HE.out] at h1
            have h2 : val (zs.take i) * val ys + 10000 ^ i * (x1 * val ys) = val (zs.take (i + 1)) * val ys := by rw [HS.out]; grind
            rw [h2] at h1
            exact sum_end HPD.out HPL.out h1 (Int.mul_nonneg (val_nonneg (hd.take _)) (val_nonneg hd2)) (HSM.out (i + 1) (by omega))
          have HV := Lib.hid hV
          clear hV
          go_wp2_with fail
          go_roundw
          case rel => exact ⟨i + 1, ps, by go_num, by have := HL.out; omega, HPL.out, HPD.out, HV.out, hrow3⟩
          case measure => simp [intOf]; omega
    · obtain rfl : i = n := by omega
      have HE := Lib.hid (val_take_all zs i (by have := HL.out; omega))
      have HV := Lib.hid (show val qs = ab x * ab y by rw [HQV.out, HE.out, HX.out, HY.out])
      have hbw := hrow.below hb0 (by omega)
      have hsz := hrow.size
      have T1 : ∀ W, Below wr.heap.size wr W → Calls Tryz.prog 79 #[.bool (!(b == b2)), .slice (some ⟨w.heap.size + 1 + 1 + 1, 0, none⟩) (i + n2 + 1) (i + n2 + 1)] W (NewW W v) := fun W hW => by
        have := trimmed_any (!(b == b2)) _ (i + n2 + 1) (i + n2 + 1) qs W ((hrow.sx HQL.out hnm).below hW) (by omega) HQD.out
        have e : mkW (!(b == b2)) (val qs) = v := by rw [HV.out, HN.out, HN2.out, ← EV.out]; exact mul_sign x y
        rw [e] at this
        exact this
      clear hrow
      go_wp2_with (first | (have _t := tok1; go_at_call 79; (with_reducible refine ((T1 _ (by repeat' first | (with_reducible first | apply zRf | assumption | apply zDn | apply zDr | apply zAl | apply zSt | refine zVi (by assumption) ?_ ?_) | go_size))).mono ?_); rintro e w1 ⟨b7, a7, n7, c7, rfl, h7, f7, hb1⟩; clear tok1 _t; have hz1 := hb1.size; (try simp only [World.size_alloc, World.size_setCell, World.size_drew, World.size_drewN'] at hz1); (try (have kq := cellAt hb1 (w.heap.size) (by go_size); have k1_w_0_0 := kq 0; have k1_w_0_1 := kq 1; clear kq; have f1_w_0 := frozAt hb1 (w.heap.size) (by go_size); simp [go_sem, *] at k1_w_0_0 k1_w_0_1 f1_w_0)); (try have l1_w_0 : w.heap.size < w1.heap.size := by omega); (try (have kq := cellAt hb1 (w.heap.size + 1) (by go_size); have k1_w_1_0 := kq 0; have k1_w_1_1 := kq 1; clear kq; have f1_w_1 := frozAt hb1 (w.heap.size + 1) (by go_size); simp [go_sem, *] at k1_w_1_0 k1_w_1_1 f1_w_1)); (try have l1_w_1 : w.heap.size + 1 < w1.heap.size := by omega); (try (have kq := cellAt hb1 (w.heap.size + 1 + 1) (by go_size); have k1_w_2_0 := kq 0; have k1_w_2_1 := kq 1; clear kq; have f1_w_2 := frozAt hb1 (w.heap.size + 1 + 1) (by go_size); simp [go_sem, *] at k1_w_2_0 k1_w_2_1 f1_w_2)); (try have l1_w_2 : w.heap.size + 1 + 1 < w1.heap.size := by omega)))
      refine bodyPost_ret (v := .agg #[.bool b7, .slice a7 n7 c7]) (by simp [results, Tryz.results59, go_sem, *]) rfl ⟨_, _, _, _, rfl, ⟨h7.neg, ?_⟩, ?_, ?_⟩
      · have hr7 := h7.row
        (repeat' first | exact hr7 | refine Sx.set ?_ ?_ _ _ | refine Sx.alloc ?_ _ | refine Sx.drew ?_ | (intro A e; have := f7 A e; (try simp only [World.size_alloc, World.size_setCell, World.size_drew, World.size_drewN'] at this); omega))
      · (intro A e; have := f7 A e; (try simp only [World.size_alloc, World.size_setCell, World.size_drew, World.size_drewN'] at this); omega)
      repeat' first | (with_reducible first | apply zRf | assumption | apply zDn | apply zDr | apply zAl | apply zSt | refine zVi (by assumption) ?_ ?_) | go_size
end
section
open Go.RowKit
set_option linter.unusedVariables false
set_option linter.unusedSimpArgs false
/-- block g holds the whole numbers zs, two cells each -/
def LxAt (W : World) (g : Nat) (zs : List Int) : Prop := g < W.heap.size ∧ ∀ i, i < zs.length → ∃ b a n c, W.cell? ⟨g, i * 2, none⟩ = some (.bool b) ∧ W.cell? ⟨g, i * 2 + 1, none⟩ = some (.slice a n c) ∧ Wx W b a n c (zs.getD i 0)
theorem LxAt.below {W W2 : World} {g : Nat} {zs : List Int} (h : LxAt W g zs) (hb : Below W.heap.size W W2) : LxAt W2 g zs :=
  ⟨Nat.lt_of_lt_of_le h.1 hb.size, fun i hi => by
    obtain ⟨b, a, n, c, h1, h2, h3⟩ := h.2 i hi
    exact ⟨b, a, n, c, (hb.cell (p := ⟨g, i * 2, none⟩) h.1).trans h1, (hb.cell (p := ⟨g, i * 2 + 1, none⟩) h.1).trans h2, h3.below hb⟩⟩
theorem LxAt.new3 {W : World} {b1 b2 b3 : Bool} {a1 a2 a3 : Option Addr} {n1 n2 n3 c1 c2 c3 : Nat} {z1 z2 z3 : Int} {T : TypeId} (h1 : Wx W b1 a1 n1 c1 z1) (h2 : Wx W b2 a2 n2 c2 z2) (h3 : Wx W b3 a3 n3 c3 z3) :
    LxAt (W.alloc (.cells #[.bool b1, .slice a1 n1 c1, .bool b2, .slice a2 n2 c2, .bool b3, .slice a3 n3 c3] T)) W.heap.size [z1, z2, z3] :=
  ⟨by simp, fun i hi => by
    match i, hi with
    | 0, _ => exact ⟨b1, a1, n1, c1, by simp [go_sem], by simp [go_sem], h1.alloc _⟩
    | 1, _ => exact ⟨b2, a2, n2, c2, by simp [go_sem], by simp [go_sem], h2.alloc _⟩
    | 2, _ => exact ⟨b3, a3, n3, c3, by simp [go_sem], by simp [go_sem], h3.alloc _⟩⟩
theorem LxAt.new4 {W : World} {b1 b2 b3 b4 : Bool} {a1 a2 a3 a4 : Option Addr} {n1 n2 n3 n4 c1 c2 c3 c4 : Nat} {z1 z2 z3 z4 : Int} {T : TypeId} (h1 : Wx W b1 a1 n1 c1 z1) (h2 : Wx W b2 a2 n2 c2 z2) (h3 : Wx W b3 a3 n3 c3 z3) (h4 : Wx W b4 a4 n4 c4 z4) :
    LxAt (W.alloc (.cells #[.bool b1, .slice a1 n1 c1, .bool b2, .slice a2 n2 c2, .bool b3, .slice a3 n3 c3, .bool b4, .slice a4 n4 c4] T)) W.heap.size [z1, z2, z3, z4] :=
  ⟨by simp, fun i hi => by
    match i, hi with
    | 0, _ => exact ⟨b1, a1, n1, c1, by simp [go_sem], by simp [go_sem], h1.alloc _⟩
    | 1, _ => exact ⟨b2, a2, n2, c2, by simp [go_sem], by simp [go_sem], h2.alloc _⟩
    | 2, _ => exact ⟨b3, a3, n3, c3, by simp [go_sem], by simp [go_sem], h3.alloc _⟩
    | 3, _ => exact ⟨b4, a4, n4, c4, by simp [go_sem], by simp [go_sem], h4.alloc _⟩⟩
theorem LxAt.new5 {W : World} {b1 b2 b3 b4 b5 : Bool} {a1 a2 a3 a4 a5 : Option Addr} {n1 n2 n3 n4 n5 c1 c2 c3 c4 c5 : Nat} {z1 z2 z3 z4 z5 : Int} {T : TypeId} (h1 : Wx W b1 a1 n1 c1 z1) (h2 : Wx W b2 a2 n2 c2 z2) (h3 : Wx W b3 a3 n3 c3 z3) (h4 : Wx W b4 a4 n4 c4 z4) (h5 : Wx W b5 a5 n5 c5 z5) :
    LxAt (W.alloc (.cells #[.bool b1, .slice a1 n1 c1, .bool b2, .slice a2 n2 c2, .bool b3, .slice a3 n3 c3, .bool b4, .slice a4 n4 c4, .bool b5, .slice a5 n5 c5] T)) W.heap.size [z1, z2, z3, z4, z5] :=
  ⟨by simp, fun i hi => by
    match i, hi with
    | 0, _ => exact ⟨b1, a1, n1, c1, by simp [go_sem], by simp [go_sem], h1.alloc _⟩
    | 1, _ => exact ⟨b2, a2, n2, c2, by simp [go_sem], by simp [go_sem], h2.alloc _⟩
    | 2, _ => exact ⟨b3, a3, n3, c3, by simp [go_sem], by simp [go_sem], h3.alloc _⟩
    | 3, _ => exact ⟨b4, a4, n4, c4, by simp [go_sem], by simp [go_sem], h4.alloc _⟩
    | 4, _ => exact ⟨b5, a5, n5, c5, by simp [go_sem], by simp [go_sem], h5.alloc _⟩⟩
/-- a new row of whole numbers -/
def openL (n : Nat) (zs : List Int) : St where
  ok v W := ∃ g, v = .slice (some ⟨g, 0, none⟩) n n ∧ LxAt W g zs
  keep v W W2 h hb := by
    obtain ⟨g, h1, h2⟩ := h
    exact ⟨g, h1, h2.below hb⟩
def sumZ (zs : List Int) (k : Nat) : Int := (zs.take k).foldl (· + ·) 0
def prodZ (zs : List Int) (k : Nat) : Int := (zs.take k).foldl (· * ·) 1
theorem sumZ_succ {zs : List Int} {k : Nat} (h : k < zs.length) : sumZ zs (k + 1) = sumZ zs k + zs.getD k 0 := by
  unfold sumZ
  rw [List.take_succ_eq_append_getElem h, List.foldl_append, gD_lt h]; rfl
theorem prodZ_succ {zs : List Int} {k : Nat} (h : k < zs.length) : prodZ zs (k + 1) = prodZ zs k * zs.getD k 0 := by
  unfold prodZ
  rw [List.take_succ_eq_append_getElem h, List.foldl_append, gD_lt h]; rfl
theorem prodZ_ln {zs : List Int} {B : Nat} (h : ∀ z ∈ zs, ln z ≤ B) : ∀ k, ln (prodZ zs k) ≤ 5 + B * zs.length := by
  have hk : ∀ k, k ≤ zs.length → ln (prodZ zs k) ≤ 5 + B * k := fun k => by
    induction k with
    | zero => intro _; have := ln_small (a := 1) (by omega) (by omega); exact Nat.le_trans this (by omega)
    | succ k ih =>
      intro hk
      rw [prodZ_succ (by omega), Nat.mul_succ]
      have h2 : ln (zs.getD k 0) ≤ B := by rw [gD_lt (by omega)]; exact h _ (List.getElem_mem _)
      have := ln_mul_le (ih (by omega)) h2
      omega
  intro k
  rcases Nat.lt_or_ge zs.length k with h' | h'
  · have e : prodZ zs k = prodZ zs zs.length := by unfold prodZ; rw [List.take_of_length_le (by omega), List.take_of_length_le (Nat.le_refl _)]
    rw [e]; exact hk _ (Nat.le_refl _)
  · have := hk k h'
    have h3 : B * k ≤ B * zs.length := Nat.mul_le_mul_left _ h'
    omega
theorem sumZ_ln {zs : List Int} {B : Nat} (h : ∀ z ∈ zs, ln z ≤ B) : ∀ k, ln (sumZ zs k) ≤ B + zs.length := by
  have hk : ∀ k, k ≤ zs.length → ln (sumZ zs k) ≤ B + k := fun k => by
    induction k with
    | zero => intro _; have : ln 0 = 0 := ln_zero.2 rfl; show ln (sumZ zs 0) ≤ _; rw [show sumZ zs 0 = 0 from rfl, this]; omega
    | succ k ih =>
      intro hk
      rw [sumZ_succ (by omega)]
      have h2 : ln (zs.getD k 0) ≤ B := by rw [gD_lt (by omega)]; exact h _ (List.getElem_mem _)
      have := ln_add_le (ih (by omega)) (show ln (zs.getD k 0) ≤ B + k by omega)
      omega
  intro k
  rcases Nat.lt_or_ge zs.length k with h' | h'
  · have e : sumZ zs k = sumZ zs zs.length := by unfold sumZ; rw [List.take_of_length_le (by omega), List.take_of_length_le (Nat.le_refl _)]
    rw [e]; exact hk _ (Nat.le_refl _)
  · have := hk k h'
    omega
theorem getD_ln {zs : List Int} {B : Nat} (h : ∀ z ∈ zs, ln z ≤ B) : ∀ i, ln (zs.getD i 0) ≤ B := fun i => by
  rcases Nat.lt_or_ge i zs.length with h' | h'
  · rw [gD_lt h']; exact h _ (List.getElem_mem _)
  · rw [gD_ge h', ln_zero.2 rfl]; omega
theorem all5 {z1 z2 z3 z4 z5 : Int} {B : Nat} (h1 : ln z1 ≤ B) (h2 : ln z2 ≤ B) (h3 : ln z3 ≤ B) (h4 : ln z4 ≤ B) (h5 : ln z5 ≤ B) : ∀ z ∈ [z1, z2, z3, z4, z5], ln z ≤ B := fun z hz => by
  simp at hz; rcases hz with rfl | rfl | rfl | rfl | rfl <;> assumption
theorem all4 {z1 z2 z3 z4 : Int} {B : Nat} (h1 : ln z1 ≤ B) (h2 : ln z2 ≤ B) (h3 : ln z3 ≤ B) (h4 : ln z4 ≤ B) : ∀ z ∈ [z1, z2, z3, z4], ln z ≤ B := fun z hz => by
  simp at hz; rcases hz with rfl | rfl | rfl | rfl <;> assumption
theorem all3 {z1 z2 z3 : Int} {B : Nat} (h1 : ln z1 ≤ B) (h2 : ln z2 ≤ B) (h3 : ln z3 ≤ B) : ∀ z ∈ [z1, z2, z3], ln z ≤ B := fun z hz => by
  simp at hz; rcases hz with rfl | rfl | rfl <;> assumption
end
section
open Go.RowKit
set_option linter.unusedVariables false
set_option maxHeartbeats 1000000
set_option maxRecDepth 20000
set_option linter.unusedSimpArgs false
attribute [local go_sem] openAt openUpon
def SmRel (w : World) (gA : Nat) (f : Nat → Int) (m : Nat) (iv : Value) (wr : World) : Prop := ∃ (k : Nat) (b : Bool) (a : Option Addr) (n c : Nat), iv = .int .i64 k ∧ k ≤ m ∧ wr.heap[w.heap.size]? = some (.cells #[.bool false, .slice none 0 0] 82 (0, 0)) ∧ wr.heap[gA]? = some (.cells #[.bool b, .slice a n c] 82 (0, 0)) ∧ Wx wr b a n c (f k) ∧ Fr w.heap.size a ∧ Below w.heap.size w wr
theorem Wx.zero (W : World) : Wx W false none 0 0 0 := ⟨by decide, by rw [show limbs (ab 0) = [] by decide]; exact Sx.none W⟩
theorem sumWholes_any {g m : Nat} {zs : List Int} {v : Int} {w : World} (h : LxAt w g zs) (hm : zs.length = m) (hmb : m ≤ 100) (hv : sumZ zs m = v) (l1 : ∀ k, ln (sumZ zs k) ≤ 9000) (l2 : ∀ i, ln (zs.getD i 0) ≤ 9000) :
    Calls Tryz.prog 125 #[.slice (some ⟨g, 0, none⟩) m m] w (NewW w v) := by
  have HM := Lib.hid hm
  have HV := Lib.hid hv
  clear hm hv
  have hgw := h.1
  have tok1 : True := trivial
  go_enter Tryz.func125, Tryz.ntmps125
  go_wp2_with fail
  go_loopw [9] (fun iv wr => SmRel w (w.heap.size + 1) (sumZ zs) m iv wr) (fun iv _ => m - (intOf iv).toNat)
  case atStart => exact ⟨0, false, none, 0, 0, rfl, by omega, by (repeat' first | (with_reducible first | assumption | (apply Ne.symm; assumption) | apply Nat.le_refl | apply Nat.le_add_right | apply zL | apply zRf | apply Wx.box | apply Wx.box4 | apply zWa | apply Wx.drew | apply zWn | apply bx_drew | apply bx_drewN | apply bx_set3 | apply bx_set2 | apply bx_set4 | apply bx_set1) | ((with_reducible apply bx_new); (focus (go_size; done))) | (with_reducible first | apply zOl | apply zFa | apply zDn | apply zDr | apply zAl | apply zSt | refine zVi (by assumption) ?_ ?_) | go_size | omega), by (repeat' first | (with_reducible first | assumption | (apply Ne.symm; assumption) | apply Nat.le_refl | apply Nat.le_add_right | apply zL | apply zRf | apply Wx.box | apply Wx.box4 | apply zWa | apply Wx.drew | apply zWn | apply bx_drew | apply bx_drewN | apply bx_set3 | apply bx_set2 | apply bx_set4 | apply bx_set1) | ((with_reducible apply bx_new); (focus (go_size; done))) | (with_reducible first | apply zOl | apply zFa | apply zDn | apply zDr | apply zAl | apply zSt | refine zVi (by assumption) ?_ ?_) | go_size | omega), Wx.zero _, (fun A e => by cases e), by repeat' first | (with_reducible first | apply zRf | assumption | apply zDn | apply zDr | apply zAl | apply zSt | refine zVi (by assumption) ?_ ?_) | go_size⟩
  case round =>
    obtain ⟨k, b, a, n, c, rfl, hk, hR, hA, hx, hfr, hbw⟩ := hrel
    have kR0 : wr.cell? ⟨w.heap.size, 0, none⟩ = some (.bool false) := blk_cell hR 0
    have kR1 : wr.cell? ⟨w.heap.size, 1, none⟩ = some (.slice none 0 0) := blk_cell hR 1
    have fR := fun o => blk_frozen hR o
    have kA0 : wr.cell? ⟨w.heap.size + 1, 0, none⟩ = some (.bool b) := blk_cell hA 0
    have kA1 : wr.cell? ⟨w.heap.size + 1, 1, none⟩ = some (.slice a n c) := blk_cell hA 1
    have fA := fun o => blk_frozen hA o
    have lA := blk_lt' hA
    have HR := Lib.hid hR
    have HA := Lib.hid hA
    clear hR hA
    by_cases h0 : k < m
    · obtain ⟨b3, a3, n3, c3, d1, d2, hz⟩ := h.2 k (by rw [HM.out]; exact h0)
      have e1 := (hbw.cell (p := ⟨g, k * 2, none⟩) hgw).trans d1
      have e2 := (hbw.cell (p := ⟨g, k * 2 + 1, none⟩) hgw).trans d2
      have HZ := Lib.hid (show sumZ zs k + zs.getD k 0 = sumZ zs (k + 1) from (sumZ_succ (by rw [HM.out]; exact h0)).symm)
      have hzw := hz.below hbw
      have TA : ∀ W, Below wr.heap.size wr W → Calls Tryz.prog 61 #[.agg #[.bool b, .slice a n c], .agg #[.bool b3, .slice a3 n3 c3]] W (NewW W (sumZ zs (k + 1))) := fun W hW => addWholes_eq (hx.below hW) (hzw.below hW) HZ.out (by have := l1 k; omega) (by have := l2 k; omega)
      have hlt : (k : Int) < (m : Int) := by omega
      clear d1 d2
      go_wp2_with (first | (have _t := tok1; go_at_call 61; (with_reducible refine ((TA _ (by repeat' first | (with_reducible first | apply zRf | assumption | apply zDn | apply zDr | apply zAl | apply zSt | refine zVi (by assumption) ?_ ?_) | go_size))).mono ?_); rintro e w1 ⟨b7, a7, n7, c7, rfl, h7, f7, hb1⟩; clear tok1 _t; have hz1 := hb1.size; (try simp only [World.size_alloc, World.size_setCell, World.size_drew, World.size_drewN'] at hz1); (try (have kq := cellAt hb1 (w.heap.size) (by go_size); have k1_w_0_0 := kq 0; have k1_w_0_1 := kq 1; clear kq; have f1_w_0 := frozAt hb1 (w.heap.size) (by go_size); simp [go_sem, *] at k1_w_0_0 k1_w_0_1 f1_w_0)); (try have l1_w_0 : w.heap.size < w1.heap.size := by omega); have q0 := (cellAt hb1 (w.heap.size + 1) (by simp; omega) 0); have q1 := (cellAt hb1 (w.heap.size + 1) (by simp; omega) 1); have q2 := frozAt hb1 (w.heap.size + 1) (by simp; omega); simp [go_sem, *] at q0 q1 q2))
      have HR1 := (hb1.block (w.heap.size) (by simp; omega)).trans (bx_old HR.out _)
      have HA1 := (hb1.block (w.heap.size + 1) (by simp; omega)).trans (bx_old HA.out _)
      have h01 : w.heap.size ≠ w.heap.size + 1 := by omega
      go_roundw
      case rel => exact ⟨k + 1, b7, a7, n7, c7, by go_num, by omega, by (repeat' first | (with_reducible first | assumption | (apply Ne.symm; assumption) | apply Nat.le_refl | apply Nat.le_add_right | apply zL | apply zRf | apply Wx.box | apply Wx.box4 | apply zWa | apply Wx.drew | apply zWn | apply bx_drew | apply bx_drewN | apply bx_set3 | apply bx_set2 | apply bx_set4 | apply bx_set1) | ((with_reducible apply bx_new); (focus (go_size; done))) | (with_reducible first | apply zOl | apply zFa | apply zDn | apply zDr | apply zAl | apply zSt | refine zVi (by assumption) ?_ ?_) | go_size | omega), by (repeat' first | (with_reducible first | assumption | (apply Ne.symm; assumption) | apply Nat.le_refl | apply Nat.le_add_right | apply zL | apply zRf | apply Wx.box | apply Wx.box4 | apply zWa | apply Wx.drew | apply zWn | apply bx_drew | apply bx_drewN | apply bx_set3 | apply bx_set2 | apply bx_set4 | apply bx_set1) | ((with_reducible apply bx_new); (focus (go_size; done))) | (with_reducible first | apply zOl | apply zFa | apply zDn | apply zDr | apply zAl | apply zSt | refine zVi (by assumption) ?_ ?_) | go_size | omega), by (repeat' first | (with_reducible first | assumption | (apply Ne.symm; assumption) | apply Nat.le_refl | apply Nat.le_add_right | apply zL | apply zRf | apply Wx.box | apply Wx.box4 | apply zWa | apply Wx.drew | apply zWn | apply bx_drew | apply bx_drewN | apply bx_set3 | apply bx_set2 | apply bx_set4 | apply bx_set1) | ((with_reducible apply bx_new); (focus (go_size; done))) | (with_reducible first | apply zOl | apply zFa | apply zDn | apply zDr | apply zAl | apply zSt | refine zVi (by assumption) ?_ ?_) | go_size | omega), f7.mono (by simp; omega), by repeat' first | (with_reducible first | apply zRf | assumption | apply zDn | apply zDr | apply zAl | apply zSt | refine zVi (by assumption) ?_ ?_) | go_size⟩
      case measure => simp [intOf]; omega
    · obtain rfl : k = m := by omega
      go_wp2_with fail
      refine bodyPost_ret (v := .agg #[.bool b, .slice a n c]) (by simp [results, Tryz.results125, go_sem, kR0, kR1, kA0, kA1]) rfl ⟨_, _, _, _, rfl, ?_, ?_, ?_⟩
      · have HR1 := HR.out
        rw [← HV.out]
        (repeat' first | (with_reducible first | assumption | (apply Ne.symm; assumption) | apply Nat.le_refl | apply Nat.le_add_right | apply zL | apply zRf | apply Wx.box | apply Wx.box4 | apply zWa | apply Wx.drew | apply zWn | apply bx_drew | apply bx_drewN | apply bx_set3 | apply bx_set2 | apply bx_set4 | apply bx_set1) | ((with_reducible apply bx_new); (focus (go_size; done))) | (with_reducible first | apply zOl | apply zFa | apply zDn | apply zDr | apply zAl | apply zSt | refine zVi (by assumption) ?_ ?_) | go_size | omega)
      · exact hfr
      · repeat' first | (with_reducible first | apply zRf | assumption | apply zDn | apply zDr | apply zAl | apply zSt | refine zVi (by assumption) ?_ ?_) | go_size
theorem productWholes_any {g m : Nat} {zs : List Int} {v : Int} {w : World} (h : LxAt w g zs) (hm : zs.length = m) (hmb : m ≤ 100) (hv : prodZ zs m = v) (l1 : ∀ k, ln (prodZ zs k) ≤ 9000) (l2 : ∀ i, ln (zs.getD i 0) ≤ 9000) :
    Calls Tryz.prog 126 #[.slice (some ⟨g, 0, none⟩) m m] w (NewW w v) := by
  have HM := Lib.hid hm
  have HV := Lib.hid hv
  clear hm hv
  have hgw := h.1
  have tok1 : True := trivial
  have tok2 : True := trivial
  go_enter Tryz.func126, Tryz.ntmps126
  go_wp2_with (first | (have _t := tok2; go_at_call 60; refine (wholeOf_any 1 _ (by omega) (by omega)).mono ?_; rintro e w2 ⟨b0, a0, n0, c0, rfl, h0, f0, hb2⟩; clear tok2 _t; have hz2 := hb2.size; (try simp only [World.size_alloc, World.size_setCell, World.size_drew, World.size_drewN'] at hz2); (try (have kq := cellAt hb2 (w.heap.size) (by go_size); have k2_w_0_0 := kq 0; have k2_w_0_1 := kq 1; clear kq; have f2_w_0 := frozAt hb2 (w.heap.size) (by go_size); simp [go_sem, *] at k2_w_0_0 k2_w_0_1 f2_w_0)); (try have l2_w_0 : w.heap.size < w2.heap.size := by omega); (try clear k1_w_0_0 k1_w_0_1 f1_w_0); (try clear l1_w_0)))
  have hz2 := hb2.size
  simp only [World.size_alloc] at hz2
  have HR2 := (hb2.block (w.heap.size) (by simp)).trans (heap_alloc_new w _)
  have HBW : Below w.heap.size w w2 := by
    repeat' first | (with_reducible first | apply zRf | assumption | apply zDn | apply zDr | apply zAl | apply zSt | refine zVi (by assumption) ?_ ?_) | go_size
  generalize hgA : w2.heap.size = gA at *
  have hgA' := Lib.hid hgA
  go_loopw [9] (fun iv wr => SmRel w gA (prodZ zs) m iv wr) (fun iv _ => m - (intOf iv).toNat)
  case atStart => exact ⟨0, b0, a0, n0, c0, rfl, by omega, by (repeat' first | (with_reducible first | assumption | (apply Ne.symm; assumption) | apply Nat.le_refl | apply Nat.le_add_right | apply zL | apply zRf | apply Wx.box | apply Wx.box4 | apply zWa | apply Wx.drew | apply zWn | apply bx_drew | apply bx_drewN | apply bx_set3 | apply bx_set2 | apply bx_set4 | apply bx_set1) | ((with_reducible apply bx_new); (focus (go_size; done))) | (with_reducible first | apply zOl | apply zFa | apply zDn | apply zDr | apply zAl | apply zSt | refine zVi (by assumption) ?_ ?_) | go_size | omega), bx_new hgA'.out, (show Wx _ b0 a0 n0 c0 (prodZ zs 0) from h0.alloc _), f0.mono (by simp), HBW.alloc (by rw [hgA'.out]; omega) _⟩
  case round =>
    clear hb2 h0 HR2
    obtain ⟨k, b, a, n, c, rfl, hk, hR, hA, hx, hfr, hbw⟩ := hrel
    have kR0 : wr.cell? ⟨w.heap.size, 0, none⟩ = some (.bool false) := blk_cell hR 0
    have kR1 : wr.cell? ⟨w.heap.size, 1, none⟩ = some (.slice none 0 0) := blk_cell hR 1
    have fR := fun o => blk_frozen hR o
    have kA0 : wr.cell? ⟨gA, 0, none⟩ = some (.bool b) := blk_cell hA 0
    have kA1 : wr.cell? ⟨gA, 1, none⟩ = some (.slice a n c) := blk_cell hA 1
    have fA := fun o => blk_frozen hA o
    have lA := blk_lt' hA
    have HR := Lib.hid hR
    have HA := Lib.hid hA
    clear hR hA
    by_cases h0 : k < m
    · obtain ⟨b3, a3, n3, c3, d1, d2, hz⟩ := h.2 k (by rw [HM.out]; exact h0)
      have e1 := (hbw.cell (p := ⟨g, k * 2, none⟩) hgw).trans d1
      have e2 := (hbw.cell (p := ⟨g, k * 2 + 1, none⟩) hgw).trans d2
      have HZ := Lib.hid (show prodZ zs k * zs.getD k 0 = prodZ zs (k + 1) from (prodZ_succ (by rw [HM.out]; exact h0)).symm)
      have hzw := hz.below hbw
      have TA : ∀ W, Below wr.heap.size wr W → Calls Tryz.prog 59 #[.agg #[.bool b, .slice a n c], .agg #[.bool b3, .slice a3 n3 c3]] W (NewW W (prodZ zs (k + 1))) := fun W hW => mulWholes_eq (hx.below hW) (hzw.below hW) HZ.out (by have := l1 k; omega) (by have := l2 k; omega)
      have hlt : (k : Int) < (m : Int) := by omega
      clear d1 d2
      go_wp2_with (first | (have _t := tok1; go_at_call 59; (with_reducible refine ((TA _ (by repeat' first | (with_reducible first | apply zRf | assumption | apply zDn | apply zDr | apply zAl | apply zSt | refine zVi (by assumption) ?_ ?_) | go_size))).mono ?_); rintro e w1 ⟨b7, a7, n7, c7, rfl, h7, f7, hb1⟩; clear tok1 _t; have hz1 := hb1.size; (try simp only [World.size_alloc, World.size_setCell, World.size_drew, World.size_drewN'] at hz1); (try (have kq := cellAt hb1 (w.heap.size) (by go_size); have k1_w_0_0 := kq 0; have k1_w_0_1 := kq 1; clear kq; have f1_w_0 := frozAt hb1 (w.heap.size) (by go_size); simp [go_sem, *] at k1_w_0_0 k1_w_0_1 f1_w_0)); (try have l1_w_0 : w.heap.size < w1.heap.size := by omega); have q0 := (cellAt hb1 gA (by simp; omega) 0); have q1 := (cellAt hb1 gA (by simp; omega) 1); have q2 := frozAt hb1 gA (by simp; omega); simp [go_sem, *] at q0 q1 q2))
      have HR1 := (hb1.block (w.heap.size) (by simp; omega)).trans (bx_old HR.out _)
      have HA1 := (hb1.block gA (by simp; omega)).trans (bx_old HA.out _)
      have h01 : w.heap.size ≠ gA := by omega
      go_roundw
      case rel => exact ⟨k + 1, b7, a7, n7, c7, by go_num, by omega, by (repeat' first | (with_reducible first | assumption | (apply Ne.symm; assumption) | apply Nat.le_refl | apply Nat.le_add_right | apply zL | apply zRf | apply Wx.box | apply Wx.box4 | apply zWa | apply Wx.drew | apply zWn | apply bx_drew | apply bx_drewN | apply bx_set3 | apply bx_set2 | apply bx_set4 | apply bx_set1) | ((with_reducible apply bx_new); (focus (go_size; done))) | (with_reducible first | apply zOl | apply zFa | apply zDn | apply zDr | apply zAl | apply zSt | refine zVi (by assumption) ?_ ?_) | go_size | omega), by (repeat' first | (with_reducible first | assumption | (apply Ne.symm; assumption) | apply Nat.le_refl | apply Nat.le_add_right | apply zL | apply zRf | apply Wx.box | apply Wx.box4 | apply zWa | apply Wx.drew | apply zWn | apply bx_drew | apply bx_drewN | apply bx_set3 | apply bx_set2 | apply bx_set4 | apply bx_set1) | ((with_reducible apply bx_new); (focus (go_size; done))) | (with_reducible first | apply zOl | apply zFa | apply zDn | apply zDr | apply zAl | apply zSt | refine zVi (by assumption) ?_ ?_) | go_size | omega), by (repeat' first | (with_reducible first | assumption | (apply Ne.symm; assumption) | apply Nat.le_refl | apply Nat.le_add_right | apply zL | apply zRf | apply Wx.box | apply Wx.box4 | apply zWa | apply Wx.drew | apply zWn | apply bx_drew | apply bx_drewN | apply bx_set3 | apply bx_set2 | apply bx_set4 | apply bx_set1) | ((with_reducible apply bx_new); (focus (go_size; done))) | (with_reducible first | apply zOl | apply zFa | apply zDn | apply zDr | apply zAl | apply zSt | refine zVi (by assumption) ?_ ?_) | go_size | omega), f7.mono (by simp; omega), by repeat' first | (with_reducible first | apply zRf | assumption | apply zDn | apply zDr | apply zAl | apply zSt | refine zVi (by assumption) ?_ ?_) | go_size⟩
      case measure => simp [intOf]; omega
    · obtain rfl : k = m := by omega
      go_wp2_with fail
      refine bodyPost_ret (v := .agg #[.bool b, .slice a n c]) (by simp [results, Tryz.results126, go_sem, kR0, kR1, kA0, kA1]) rfl ⟨_, _, _, _, rfl, ?_, ?_, ?_⟩
      · have HR1 := HR.out
        rw [← HV.out]
        (repeat' first | (with_reducible first | assumption | (apply Ne.symm; assumption) | apply Nat.le_refl | apply Nat.le_add_right | apply zL | apply zRf | apply Wx.box | apply Wx.box4 | apply zWa | apply Wx.drew | apply zWn | apply bx_drew | apply bx_drewN | apply bx_set3 | apply bx_set2 | apply bx_set4 | apply bx_set1) | ((with_reducible apply bx_new); (focus (go_size; done))) | (with_reducible first | apply zOl | apply zFa | apply zDn | apply zDr | apply zAl | apply zSt | refine zVi (by assumption) ?_ ?_) | go_size | omega)
      · exact hfr
      · repeat' first | (with_reducible first | apply zRf | assumption | apply zDn | apply zDr | apply zAl | apply zSt | refine zVi (by assumption) ?_ ?_) | go_size
theorem productWholes_eq {g m : Nat} {zs : List Int} {v : Int} {w : World} (h : LxAt w g zs) (hm : zs.length = m) (hmb : m ≤ 5) (hv : prodZ zs m = v) (hl : ∀ z ∈ zs, ln z ≤ 1500) :
    Calls Tryz.prog 126 #[.slice (some ⟨g, 0, none⟩) m m] w (NewW w v) :=
  productWholes_any h hm (by omega) hv (fun k => by have := prodZ_ln hl k; omega) (fun i => Nat.le_trans (getD_ln hl i) (by omega))
theorem sumWholes_eq {g m : Nat} {zs : List Int} {v : Int} {w : World} (h : LxAt w g zs) (hm : zs.length = m) (hmb : m ≤ 5) (hv : sumZ zs m = v) (hl : ∀ z ∈ zs, ln z ≤ 1500) :
    Calls Tryz.prog 125 #[.slice (some ⟨g, 0, none⟩) m m] w (NewW w v) :=
  sumWholes_any h hm (by omega) hv (fun k => by have := sumZ_ln hl k; omega) (fun i => Nat.le_trans (getD_ln hl i) (by omega))
theorem wholeOf_eq {d v : Int} {W : World} (e : d = v) (h1 : -9223372036854775807 ≤ d) (h2 : d ≤ 9223372036854775807) : Calls Tryz.prog 60 #[.int .i64 d] W (NewW W v) := by subst e; exact wholeOf_any d W h1 h2
end
section
open Go.RowKit
set_option linter.unusedVariables false
set_option maxHeartbeats 1000000
set_option maxRecDepth 20000
set_option linter.unusedSimpArgs false
attribute [local go_sem] openAt openUpon
theorem pB {x y X Y : Int} (hx : 0 ≤ x ∧ x ≤ X) (hy : 0 ≤ y ∧ y ≤ Y) : 0 ≤ x * y ∧ x * y ≤ X * Y := by
  have h := mul_bd (a := x) (b := y) (A := X) (B := Y) (by omega) (by omega)
  have h2 : 0 ≤ x * y := Int.mul_nonneg hx.1 hy.1
  exact ⟨h2, h.2⟩
def coV (a b : Int) : Int := 4 * a * a * a + 27 * b * b
theorem coV_bd {a b : Int} (ha : -1000 ≤ a ∧ a ≤ 1000) (hb : -10000 ≤ b ∧ b ≤ 10000) : -6700000000 ≤ coV a b ∧ coV a b ≤ 6700000000 := by
  have m1 := mul_bd (a := 4 * a) (b := a) (A := 4000) (B := 1000) (by omega) (by omega)
  have m2 := mul_bd (a := 4 * a * a) (b := a) (A := 4000000) (B := 1000) (by omega) (by omega)
  have m3 := mul_bd (a := 27 * b) (b := b) (A := 270000) (B := 10000) (by omega) (by omega)
  unfold coV; omega
def cvB (a b : Int) : Bool := inB a (-1000) 1000 && (inB b (-10000) 10000 && decide (coV a b ≠ 0))
theorem cvB_cases (a b : Int) : (inB a (-1000) 1000 = false ∧ cvB a b = false) ∨ (inB a (-1000) 1000 = true ∧ ((inB b (-10000) 10000 = false ∧ cvB a b = false) ∨ (inB b (-10000) 10000 = true ∧ cvB a b = (coV a b != 0)))) := by
  cases h1 : inB a (-1000) 1000
  · left; simp [cvB, h1]
  · right; refine ⟨rfl, ?_⟩
    cases h2 : inB b (-10000) 10000
    · left; simp [cvB, h2]
    · right; refine ⟨rfl, ?_⟩
      simp [cvB, h1, h2, bne]
      by_cases h : coV a b = 0 <;> simp [h]
theorem cvB_bd {a b : Int} (h : cvB a b = true) : (-1000 ≤ a ∧ a ≤ 1000) ∧ (-10000 ≤ b ∧ b ≤ 10000) ∧ coV a b ≠ 0 := by
  simp [cvB, inB] at h; omega
theorem ecDisc_any (a b : Int) (w : World) (ha : -1000 ≤ a ∧ a ≤ 1000) (hb : -10000 ≤ b ∧ b ≤ 10000) : Calls Tryz.prog 70 #[.agg #[.int .i64 a, .int .i64 b]] w fun e w' => e = .returned (.int .i64 (coV a b)) ∧ Below w.heap.size w w' := by
  have m1 := mul_bd (a := 4 * a) (b := a) (A := 4000) (B := 1000) (by omega) (by omega)
  have m2 := mul_bd (a := 4 * a * a) (b := a) (A := 4000000) (B := 1000) (by omega) (by omega)
  have m3 := mul_bd (a := 27 * b) (b := b) (A := 270000) (B := 10000) (by omega) (by omega)
  go_enter Tryz.func70, Tryz.ntmps70
  go_wp2_with fail
  go_ret
  refine ⟨rfl, ?_⟩
  repeat' first | (with_reducible first | apply zRf | assumption | apply zDn | apply zDr | apply zAl | apply zSt | refine zVi (by assumption) ?_ ?_) | go_size
theorem core_any (a b : Int) (w : World) (ha : -1000 ≤ a ∧ a ≤ 1000) (hb : -10000 ≤ b ∧ b ≤ 10000) : Calls Tryz.prog 73 #[.agg #[.int .i64 a, .int .i64 b]] w fun e w' => e = .returned (.int .i64 (coV a b)) ∧ Below w.heap.size w w' := by
  have m1 := mul_bd (a := 4 * a) (b := a) (A := 4000) (B := 1000) (by omega) (by omega)
  have m2 := mul_bd (a := 4 * a * a) (b := a) (A := 4000000) (B := 1000) (by omega) (by omega)
  have m3 := mul_bd (a := 27 * b) (b := b) (A := 270000) (B := 10000) (by omega) (by omega)
  go_enter Tryz.func73, Tryz.ntmps73
  go_wp2_with fail
  go_ret
  refine ⟨rfl, ?_⟩
  repeat' first | (with_reducible first | apply zRf | assumption | apply zDn | apply zDr | apply zAl | apply zSt | refine zVi (by assumption) ?_ ?_) | go_size
theorem ecGood_any (a b : Int) (w : World) : Calls Tryz.prog 39 #[.agg #[.int .i64 a, .int .i64 b]] w fun e w' => e = .returned (.bool (cvB a b)) ∧ Below w.heap.size w w' := by
  have T1 := fun W : World => Lib.hid (l1In_any a (-1000) 1000 W)
  have T2 := fun W : World => Lib.hid (l1In_any b (-10000) 10000 W)
  rcases cvB_cases a b with ⟨h1, h⟩ | ⟨h1, ⟨h2, h⟩ | ⟨h2, h⟩⟩
  · rw [h]
    rw [h1] at T1
    have T3 := T1
    clear h h1
    have tok1 : True := trivial
    go_enter Tryz.func39, Tryz.ntmps39
    go_wp2_with (first | (go_at_call 54; (with_reducible refine ((T1 _).out).mono ?_); rintro e w' ⟨rfl, rfl⟩) | (go_at_call 54; (with_reducible refine ((T2 _).out).mono ?_); rintro e w' ⟨rfl, rfl⟩) | (have _t := tok1; go_at_call 70; (with_reducible refine ((T3 _).out).mono ?_); rintro e w1 ⟨rfl, hb1⟩; clear tok1 _t; have hz1 := hb1.size; (try simp only [World.size_alloc, World.size_setCell, World.size_drew, World.size_drewN'] at hz1); (try (have kq := cellAt hb1 (w.heap.size) (by go_size); have k1_w_0_0 := kq 0; have k1_w_0_1 := kq 1; clear kq; have f1_w_0 := frozAt hb1 (w.heap.size) (by go_size); simp [go_sem, *] at k1_w_0_0 k1_w_0_1 f1_w_0)); (try have l1_w_0 : w.heap.size < w1.heap.size := by omega)))
    go_ret
    refine ⟨rfl, ?_⟩
    repeat' first | (with_reducible first | apply zRf | assumption | apply zDn | apply zDr | apply zAl | apply zSt | refine zVi (by assumption) ?_ ?_) | go_size
  · rw [h]
    rw [h1] at T1
    rw [h2] at T2
    have T3 := T1
    clear h h1 h2
    have tok1 : True := trivial
    go_enter Tryz.func39, Tryz.ntmps39
    go_wp2_with (first | (go_at_call 54; (with_reducible refine ((T1 _).out).mono ?_); rintro e w' ⟨rfl, rfl⟩) | (go_at_call 54; (with_reducible refine ((T2 _).out).mono ?_); rintro e w' ⟨rfl, rfl⟩) | (have _t := tok1; go_at_call 70; (with_reducible refine ((T3 _).out).mono ?_); rintro e w1 ⟨rfl, hb1⟩; clear tok1 _t; have hz1 := hb1.size; (try simp only [World.size_alloc, World.size_setCell, World.size_drew, World.size_drewN'] at hz1); (try (have kq := cellAt hb1 (w.heap.size) (by go_size); have k1_w_0_0 := kq 0; have k1_w_0_1 := kq 1; clear kq; have f1_w_0 := frozAt hb1 (w.heap.size) (by go_size); simp [go_sem, *] at k1_w_0_0 k1_w_0_1 f1_w_0)); (try have l1_w_0 : w.heap.size < w1.heap.size := by omega)))
    go_ret
    refine ⟨rfl, ?_⟩
    repeat' first | (with_reducible first | apply zRf | assumption | apply zDn | apply zDr | apply zAl | apply zSt | refine zVi (by assumption) ?_ ?_) | go_size
  · rw [h]
    have T3 := fun W : World => Lib.hid (ecDisc_any a b W (inB_iff.1 h1) (inB_iff.1 h2))
    rw [h1] at T1
    rw [h2] at T2
    clear h h1 h2
    generalize coV a b = v at *
    have tok1 : True := trivial
    go_enter Tryz.func39, Tryz.ntmps39
    go_wp2_with (first | (go_at_call 54; (with_reducible refine ((T1 _).out).mono ?_); rintro e w' ⟨rfl, rfl⟩) | (go_at_call 54; (with_reducible refine ((T2 _).out).mono ?_); rintro e w' ⟨rfl, rfl⟩) | (have _t := tok1; go_at_call 70; (with_reducible refine ((T3 _).out).mono ?_); rintro e w1 ⟨rfl, hb1⟩; clear tok1 _t; have hz1 := hb1.size; (try simp only [World.size_alloc, World.size_setCell, World.size_drew, World.size_drewN'] at hz1); (try (have kq := cellAt hb1 (w.heap.size) (by go_size); have k1_w_0_0 := kq 0; have k1_w_0_1 := kq 1; clear kq; have f1_w_0 := frozAt hb1 (w.heap.size) (by go_size); simp [go_sem, *] at k1_w_0_0 k1_w_0_1 f1_w_0)); (try have l1_w_0 : w.heap.size < w1.heap.size := by omega)))
    go_ret
    refine ⟨rfl, ?_⟩
    repeat' first | (with_reducible first | apply zRf | assumption | apply zDn | apply zDr | apply zAl | apply zSt | refine zVi (by assumption) ?_ ?_) | go_size
theorem isCurve_any (a b : Int) (w : World) : Calls Tryz.prog 41 #[.agg #[.int .i64 a, .int .i64 b]] w fun e w' => e = .returned (.bool (cvB a b)) ∧ Below w.heap.size w w' := by
  have T1 := fun W : World => Lib.hid (inside_any a (-1000) 1000 W)
  have T2 := fun W : World => Lib.hid (inside_any b (-10000) 10000 W)
  rcases cvB_cases a b with ⟨h1, h⟩ | ⟨h1, ⟨h2, h⟩ | ⟨h2, h⟩⟩
  · rw [h]
    rw [h1] at T1
    have T3 := T1
    clear h h1
    have tok1 : True := trivial
    go_enter Tryz.func41, Tryz.ntmps41
    go_wp2_with (first | (go_at_call 42; (with_reducible refine ((T1 _).out).mono ?_); rintro e w' ⟨rfl, rfl⟩) | (go_at_call 42; (with_reducible refine ((T2 _).out).mono ?_); rintro e w' ⟨rfl, rfl⟩) | (have _t := tok1; go_at_call 73; (with_reducible refine ((T3 _).out).mono ?_); rintro e w1 ⟨rfl, hb1⟩; clear tok1 _t; have hz1 := hb1.size; (try simp only [World.size_alloc, World.size_setCell, World.size_drew, World.size_drewN'] at hz1); (try (have kq := cellAt hb1 (w.heap.size) (by go_size); have k1_w_0_0 := kq 0; have k1_w_0_1 := kq 1; clear kq; have f1_w_0 := frozAt hb1 (w.heap.size) (by go_size); simp [go_sem, *] at k1_w_0_0 k1_w_0_1 f1_w_0)); (try have l1_w_0 : w.heap.size < w1.heap.size := by omega)))
    go_ret
    refine ⟨rfl, ?_⟩
    repeat' first | (with_reducible first | apply zRf | assumption | apply zDn | apply zDr | apply zAl | apply zSt | refine zVi (by assumption) ?_ ?_) | go_size
  · rw [h]
    rw [h1] at T1
    rw [h2] at T2
    have T3 := T1
    clear h h1 h2
    have tok1 : True := trivial
    go_enter Tryz.func41, Tryz.ntmps41
    go_wp2_with (first | (go_at_call 42; (with_reducible refine ((T1 _).out).mono ?_); rintro e w' ⟨rfl, rfl⟩) | (go_at_call 42; (with_reducible refine ((T2 _).out).mono ?_); rintro e w' ⟨rfl, rfl⟩) | (have _t := tok1; go_at_call 73; (with_reducible refine ((T3 _).out).mono ?_); rintro e w1 ⟨rfl, hb1⟩; clear tok1 _t; have hz1 := hb1.size; (try simp only [World.size_alloc, World.size_setCell, World.size_drew, World.size_drewN'] at hz1); (try (have kq := cellAt hb1 (w.heap.size) (by go_size); have k1_w_0_0 := kq 0; have k1_w_0_1 := kq 1; clear kq; have f1_w_0 := frozAt hb1 (w.heap.size) (by go_size); simp [go_sem, *] at k1_w_0_0 k1_w_0_1 f1_w_0)); (try have l1_w_0 : w.heap.size < w1.heap.size := by omega)))
    go_ret
    refine ⟨rfl, ?_⟩
    repeat' first | (with_reducible first | apply zRf | assumption | apply zDn | apply zDr | apply zAl | apply zSt | refine zVi (by assumption) ?_ ?_) | go_size
  · rw [h]
    have T3 := fun W : World => Lib.hid (core_any a b W (inB_iff.1 h1) (inB_iff.1 h2))
    rw [h1] at T1
    rw [h2] at T2
    clear h h1 h2
    generalize coV a b = v at *
    have tok1 : True := trivial
    go_enter Tryz.func41, Tryz.ntmps41
    go_wp2_with (first | (go_at_call 42; (with_reducible refine ((T1 _).out).mono ?_); rintro e w' ⟨rfl, rfl⟩) | (go_at_call 42; (with_reducible refine ((T2 _).out).mono ?_); rintro e w' ⟨rfl, rfl⟩) | (have _t := tok1; go_at_call 73; (with_reducible refine ((T3 _).out).mono ?_); rintro e w1 ⟨rfl, hb1⟩; clear tok1 _t; have hz1 := hb1.size; (try simp only [World.size_alloc, World.size_setCell, World.size_drew, World.size_drewN'] at hz1); (try (have kq := cellAt hb1 (w.heap.size) (by go_size); have k1_w_0_0 := kq 0; have k1_w_0_1 := kq 1; clear kq; have f1_w_0 := frozAt hb1 (w.heap.size) (by go_size); simp [go_sem, *] at k1_w_0_0 k1_w_0_1 f1_w_0)); (try have l1_w_0 : w.heap.size < w1.heap.size := by omega)))
    go_ret
    refine ⟨rfl, ?_⟩
    repeat' first | (with_reducible first | apply zRf | assumption | apply zDn | apply zDr | apply zAl | apply zSt | refine zVi (by assumption) ?_ ?_) | go_size
end
end Go.Proofs.YtgjppinjapdbeaaGreat
