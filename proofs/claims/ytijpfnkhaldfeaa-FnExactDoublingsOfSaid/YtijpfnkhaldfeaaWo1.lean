/- Whole numbers that a call has made in a row of its own: copies, turned signs, quotients. The program. -/
import Derived.Test.YtijpfnkhaldfeaaBg3
import Derived.Test.YtijpfnkhaldfeaaWoP
import Derived.Test.YtijpfnkhaldfeaaWi2
namespace Go.Proofs.Ytijpfnkhaldfeaa
open Go.RowKit
set_option linter.unusedVariables false
set_option maxHeartbeats 4000000
set_option maxRecDepth 20000
set_option linter.unusedSimpArgs false
/-- a contract whose value is a slice of numbers in a row of its own -/
def NewSO (w : World) (zs : List Int) (e : Ending) (w' : World) : Prop := ∃ a n c, e = .returned (.slice a n c) ∧ Sx w' a n c zs ∧ OwS w' w.heap.size a n c zs ∧ Fr w.heap.size a ∧ Below w.heap.size w w'
/-- a contract whose value is a whole number in a row of its own -/
def NewWO (w : World) (z : Int) (e : Ending) (w' : World) : Prop := ∃ b a n c, e = .returned (.agg #[.bool b, .slice a n c]) ∧ Wx w' b a n c z ∧ OwS w' w.heap.size a n c (limbs (ab z)) ∧ Fr w.heap.size a ∧ Below w.heap.size w w'
/-- a quotient in a row of its own, and a rest -/
def NewQO (w : World) (p : Int) (e : Ending) (w' : World) : Prop := ∃ b a n c r, e = .returned (.tuple #[.agg #[.bool b, .slice a n c], .int .i64 r]) ∧ Wx w' b a n c p ∧ OwS w' w.heap.size a n c (limbs (ab p)) ∧ Fr w.heap.size a ∧ Below w.heap.size w w'
theorem clone_own (a : Option Addr) (n c : Nat) (zs : List Int) (w : World) (hs : Sx w a n c zs) (hl : n ≤ 1000000) :
    Calls Try.prog 71 #[.slice a n c] w (NewSO w zs) := by
  obtain ⟨i0, hi, hz0, hz1, hz2⟩ := info_parts infoInt
  have hnl := fun (W : World) (a : Option Addr) (n c : Nat) => Lib.run_eql_slice_nil (P := Try.prog) W 24 3 a n c 0 0 Try.underlying24
  cases a with
  | none =>
    have h0 := hs.nil rfl
    have h1 := hs.cap
    have h2 := hs.len
    have : zs = [] := List.length_eq_zero_iff.1 (by omega)
    subst this
    obtain rfl : n = 0 := by omega
    subst h0
    clear hs h1 h2
    go_enter Try.func71, Try.ntmps71
    go_wp2_with fail
    go_ret
    exact ⟨_, _, _, rfl, Sx.none _, World.ownsRow_nil _ _ _ _, (fun A e => by cases e), Below.refl _ _⟩
  | some A =>
    have HO := Lib.hid (World.ownsRow_made w #[] 0 (e := 3) (base := w.heap.size) (size := 1) (Nat.le_refl _) (Nat.zero_le _) (by simp))
    have HS := Lib.hid ((hs.below ((Below.refl _ _).alloc (Nat.le_refl _) (.cells #[] 3))).row.src)
    have HL := Lib.hid hs.len
    clear hs
    go_enter Try.func71, Try.ntmps71
    go_wp2_with (first | (at_builtin; refine wpList_append_own _ rfl _ _ 24 rfl w.heap.size 3 i0 (.int .i64 0) 1 8 Try.underlying24 hi hz0 hz1 hz2 rfl (by decide) _ _ _ rfl HO.out A n c (ints zs) rfl (by simp [ints, HL.out]) HS.out ints_cell (by unfold maxLen; omega) (by omega) (by simp) ?_; intro v1 w1 hv1 hg1 _))
    go_ret
    have hv0 : w1.ownsRow w.heap.size 3 1 v1 n (ints zs) := by simpa using hv1
    have hv2 := Sx.of_owns (n := n) (zs := zs) hv0
    obtain ⟨a1, c1, rfl, h5, h6⟩ := hv2
    refine ⟨_, _, _, rfl, h5, by unfold OwS OwnI; rw [h5.len]; exact hv0, h6, ?_⟩
    refine Below.grown ((Below.refl _ w).alloc (Nat.le_refl _) _) hg1 (by simp) (fun k e => ?_)
    have e2 : some w.heap.size = some k := e
    obtain rfl := Option.some.inj e2
    exact Nat.le_refl _
theorem trimmed_own (neg : Bool) (a : Option Addr) (n c : Nat) (zs : List Int) (w : World) (hs : Sx w a n c zs) (hl : n ≤ 1000000) (hd : Dig zs) :
    Calls Try.prog 65 #[.bool neg, .slice a n c] w (NewWO w (mkW neg (val zs))) := by
  have T0 : ∀ (k : Nat) (W : World), k ≤ n → Below w.heap.size w W → Calls Try.prog 71 #[.slice a k c] W (NewSO W (zs.take k)) := fun k W hk hW => clone_own a k c (zs.take k) W ((hs.below hW).take hk) (by omega)
  have HR : ∀ (neg : Bool) (k : Nat), k ≤ n → (∀ j, k ≤ j → j < n → zs.getD j 0 = 0) → (k = 0 ∨ zs[k - 1]?.getD 0 ≠ 0) → zs.take k = limbs (ab (mkW neg (val zs))) ∧ ngB (mkW neg (val zs)) = (neg && decide (0 < k)) := fun neg k hk hz h0 => by
    rw [← hs.len] at hk hz
    exact trim_res hd hk hz (by rwa [List.getD_eq_getElem?_getD])
  have HC := hs.cap
  have HH := Lib.hid HR
  clear hd HR
  obtain ⟨nb, hnb⟩ : ∃ nb : Bool, nb = neg := ⟨_, rfl⟩
  cases neg
  all_goals
    have tok1 : True := trivial
    go_enter Try.func65, Try.ntmps65
    go_wp2_with fail
    go_loop [1] (fun v => TrRel a c n zs v) (fun v => lenOf v)
    case atStart => exact ⟨n, Nat.le_refl _, rfl, fun j h1 h2 => by omega⟩
    case round =>
      obtain ⟨k, hk, rfl, hzz⟩ := hrel
      have HZ := Lib.hid hzz
      clear hzz
      by_cases h0 : k = 0
      · subst h0
        have T1 := fun W hW => T0 0 W hk hW
        clear T0
        go_wp2_with (first | (have _t := tok1; go_at_call 71; (with_reducible refine ((T1 _ (by repeat' first | (with_reducible first | apply zRf | assumption | apply zDn | apply zDr | apply zAl | apply zSt | refine zVi (by assumption) ?_ ?_) | go_size))).mono ?_); rintro e w1 ⟨a1, n1, c1, rfl, hv1, ho1, hf1, hb1⟩; clear tok1 _t; have hz1 := hb1.size; (try simp only [World.size_alloc, World.size_setCell, World.size_drew, World.size_drewN'] at hz1); (try (have kq := cellAt hb1 (w.heap.size) (by go_size); have k1_w_0_0 := kq 0; have k1_w_0_1 := kq 1; clear kq; have f1_w_0 := frozAt hb1 (w.heap.size) (by go_size); simp [go_sem, *] at k1_w_0_0 k1_w_0_1 f1_w_0)); (try have l1_w_0 : w.heap.size < w1.heap.size := by omega)))
        refine bodyPost_ret (v := .agg #[.bool false, .slice a1 n1 c1]) (by simp [results, Try.results65, go_sem, *]) rfl ⟨_, _, _, _, rfl, ⟨?_, ?_⟩, ?_, ?_, ?_⟩
        · rw [(HH.out _ 0 hk HZ.out (.inl rfl)).2]; rfl
        · rw [← (HH.out _ 0 hk HZ.out (.inl rfl)).1]
          (repeat' first | exact hv1 | refine Sx.set ?_ ?_ _ _ | refine Sx.alloc ?_ _ | refine Sx.drew ?_ | (intro A e; have := hf1 A e; (try simp only [World.size_alloc, World.size_setCell, World.size_drew, World.size_drewN'] at this); omega))
        · rw [← (HH.out _ 0 hk HZ.out (.inl rfl)).1]
          (apply OwS.low; (iterate 9 (first | (with_reducible exact ho1) | (with_reducible apply OwS.setLow) | (with_reducible apply OwS.alloc) | skip)); (all_goals go_size))
        · (intro A e; have := hf1 A e; (try simp only [World.size_alloc, World.size_setCell, World.size_drew, World.size_drewN'] at this); omega)
        repeat' first | (with_reducible first | apply zRf | assumption | apply zDn | apply zDr | apply zAl | apply zSt | refine zVi (by assumption) ?_ ?_) | go_size
      · obtain ⟨b, off, rfl, hb, hcs⟩ := hs.at (by omega)
        have hcell := hcs (k - 1) (by omega)
        clear hcs
        by_cases hzk : zs[k - 1]?.getD 0 = 0
        · have hzk' : (zs[k - 1]?.getD 0 == 0) = true := by simp [hzk]
          have HK := Lib.hid (tr_next HZ.out hzk)
          clear hzk
          generalize zs[k - 1]?.getD 0 = z at *
          go_wp2_with fail
          go_round
          case rel => exact ⟨k - 1, by omega, by simp, HK.out⟩
          case measure => simp [lenOf]; omega
        · have hzk' : (zs[k - 1]?.getD 0 == 0) = false := by simp [hzk]
          have T1 := fun W hW => T0 k W hk hW
          have HK := Lib.hid (fun neg => HH.out neg k hk HZ.out (.inr hzk))
          clear hzk T0
          generalize zs[k - 1]?.getD 0 = z at *
          go_wp2_with (first | (have _t := tok1; go_at_call 71; (with_reducible refine ((T1 _ (by repeat' first | (with_reducible first | apply zRf | assumption | apply zDn | apply zDr | apply zAl | apply zSt | refine zVi (by assumption) ?_ ?_) | go_size))).mono ?_); rintro e w1 ⟨a1, n1, c1, rfl, hv1, ho1, hf1, hb1⟩; clear tok1 _t; have hz1 := hb1.size; (try simp only [World.size_alloc, World.size_setCell, World.size_drew, World.size_drewN'] at hz1); (try (have kq := cellAt hb1 (w.heap.size) (by go_size); have k1_w_0_0 := kq 0; have k1_w_0_1 := kq 1; clear kq; have f1_w_0 := frozAt hb1 (w.heap.size) (by go_size); simp [go_sem, *] at k1_w_0_0 k1_w_0_1 f1_w_0)); (try have l1_w_0 : w.heap.size < w1.heap.size := by omega)))
          refine bodyPost_ret (v := .agg #[.bool nb, .slice a1 n1 c1]) (by simp [results, Try.results65, go_sem, *]) rfl ⟨_, _, _, _, rfl, ⟨?_, ?_⟩, ?_, ?_, ?_⟩
          · rw [hnb, (HK.out _).2]; simp; try omega
          · rw [← (HK.out _).1]
            (repeat' first | exact hv1 | refine Sx.set ?_ ?_ _ _ | refine Sx.alloc ?_ _ | refine Sx.drew ?_ | (intro A e; have := hf1 A e; (try simp only [World.size_alloc, World.size_setCell, World.size_drew, World.size_drewN'] at this); omega))
          · rw [← (HK.out _).1]
            (apply OwS.low; (iterate 9 (first | (with_reducible exact ho1) | (with_reducible apply OwS.setLow) | (with_reducible apply OwS.alloc) | skip)); (all_goals go_size))
          · (intro A e; have := hf1 A e; (try simp only [World.size_alloc, World.size_setCell, World.size_drew, World.size_drewN'] at this); omega)
          repeat' first | (with_reducible first | apply zRf | assumption | apply zDn | apply zDr | apply zAl | apply zSt | refine zVi (by assumption) ?_ ?_) | go_size
theorem negated_own (b : Bool) (a : Option Addr) (n c : Nat) (z : Int) (w : World) (hs : Wx w b a n c z) (hl : n ≤ 1000000) :
    Calls Try.prog 55 #[.agg #[.bool b, .slice a n c]] w (NewWO w (-z)) := by
  have T1 : ∀ W, Below w.heap.size w W → Calls Try.prog 65 #[.bool (!b), .slice a n c] W (NewWO W (-z)) := fun W hW => by
    have := trimmed_own (!b) a n c (limbs (ab z)) W (hs.row.below hW) hl (limbs_dig _)
    have e : mkW (!b) (ab z) = -z := by rw [hs.neg, mkW_neg]
    rw [limbs_val (ab_nonneg z), e] at this
    exact this
  cases b
  all_goals
    simp only [Bool.not_true, Bool.not_false] at T1
    have tok1 : True := trivial
    go_enter Try.func55, Try.ntmps55
    go_wp2_with (first | (have _t := tok1; go_at_call 65; (with_reducible refine ((T1 _ (by repeat' first | (with_reducible first | apply zRf | assumption | apply zDn | apply zDr | apply zAl | apply zSt | refine zVi (by assumption) ?_ ?_) | go_size))).mono ?_); rintro e w1 ⟨b1, a1, n1, c1, rfl, hv1, ho1, hf1, hb1⟩; clear tok1 _t; have hz1 := hb1.size; (try simp only [World.size_alloc, World.size_setCell, World.size_drew, World.size_drewN'] at hz1); (try (have kq := cellAt hb1 (w.heap.size) (by go_size); have k1_w_0_0 := kq 0; have k1_w_0_1 := kq 1; clear kq; have f1_w_0 := frozAt hb1 (w.heap.size) (by go_size); simp [go_sem, *] at k1_w_0_0 k1_w_0_1 f1_w_0)); (try have l1_w_0 : w.heap.size < w1.heap.size := by omega); (try (have kq := cellAt hb1 (w.heap.size + 1) (by go_size); have k1_w_1_0 := kq 0; have k1_w_1_1 := kq 1; clear kq; have f1_w_1 := frozAt hb1 (w.heap.size + 1) (by go_size); simp [go_sem, *] at k1_w_1_0 k1_w_1_1 f1_w_1)); (try have l1_w_1 : w.heap.size + 1 < w1.heap.size := by omega)))
    refine bodyPost_ret (v := .agg #[.bool b1, .slice a1 n1 c1]) (by simp [results, Try.results55, go_sem, *]) rfl ⟨_, _, _, _, rfl, ⟨hv1.neg, ?_⟩, ?_, ?_, ?_⟩
    · have hr1 := hv1.row
      (repeat' first | exact hr1 | refine Sx.set ?_ ?_ _ _ | refine Sx.alloc ?_ _ | refine Sx.drew ?_ | (intro A e; have := hf1 A e; (try simp only [World.size_alloc, World.size_setCell, World.size_drew, World.size_drewN'] at this); omega))
    · (apply OwS.low; (iterate 9 (first | (with_reducible exact ho1) | (with_reducible apply OwS.setLow) | (with_reducible apply OwS.alloc) | skip)); (all_goals go_size))
    · (intro A e; have := hf1 A e; (try simp only [World.size_alloc, World.size_setCell, World.size_drew, World.size_drewN'] at this); omega)
    repeat' first | (with_reducible first | apply zRf | assumption | apply zDn | apply zDr | apply zAl | apply zSt | refine zVi (by assumption) ?_ ?_) | go_size
theorem divWhole_poso (a : Option Addr) (n c : Nat) (z d : Int) (w : World) (hs : Wx w false a n c z) (hl : n ≤ 100000) (hd : 1 ≤ d) (hd2 : d ≤ 100000000000000) (hdz0 : d ∣ z) :
    Calls Try.prog 53 #[.agg #[.bool false, .slice a n c], .int .i64 d] w (NewQO w (z / d)) := by
  obtain ⟨i0, hi, hz0, hz1, hz2⟩ := info_parts infoInt
  have tok1 : True := trivial
  have tok2 : True := trivial
  go_enter Try.func53, Try.ntmps53
  go_wp2_with (first | (at_make; refine wpList_make_full _ rfl _ _ 24 rfl (w.heap.size + 2) 3 i0 (.int .i64 0) 1 Try.underlying24 hi hz0 hz1 .i64 .i64 _ _ n rfl rfl rfl rfl (by rw [hz2]; omega) (by unfold maxLen; omega) (by simp) ?_; intro W0 hm0 hg0; have hr0 := RowW.start hm0; have hb0 := made_below (B := w.heap.size) (a := w) (by repeat' first | (with_reducible first | apply zRf | assumption | apply zDn | apply zDr | apply zAl | apply zSt | refine zVi (by assumption) ?_ ?_) | go_size) hg0 (by simp; try omega); have hz0s := hg0.size; have e0 := fun o => World.cell?_of_block (a := ⟨w.heap.size, o, none⟩) (made_at hg0 (by simp; try omega)); have e1 := fun o => World.cell?_of_block (a := ⟨w.heap.size + 1, o, none⟩) (made_at hg0 (by simp; try omega)); have f0 := fun o => World.frozen?_of_block (a := ⟨w.heap.size, o, none⟩) (made_at hg0 (by simp; try omega)); have f1 := fun o => World.frozen?_of_block (a := ⟨w.heap.size + 1, o, none⟩) (made_at hg0 (by simp; try omega)); have kA := e0 0; have kB := e0 1; have kC := e1 0; have kD := e1 1; clear e0 e1 hm0 hg0; simp [go_sem] at kA kB kC kD f0 f1; simp only [World.size_alloc] at hr0 hz0s))
  have hnm : n ≤ maxLen := by unfold maxLen; omega
  have hln := Lib.hid hs.row.len
  have hng := Lib.hid hs.neg.symm
  go_loopw [7, 8] (fun rv iv wr => OvRel W0 (w.heap.size + 1 + 1) d (limbs (ab z)) n rv iv wr) (fun _ iv _ => (intOf iv + 1).toNat)
  case atStart => exact ⟨n, 0, List.replicate n 0, rfl, rfl, Nat.le_refl _, by omega, by omega, by simp, Dig.zeros n, by rw [List.drop_eq_nil_of_le (by have := hln.out; omega), List.drop_eq_nil_of_le (by simp)]; simp [val], hr0⟩
  case round =>
    obtain ⟨k, rest, qs, rfl, rfl, hk, hr1, hr2, hqn, hqd, hqv, hrow⟩ := hrel
    have kA1 := (hrow.only.cell (b := w.heap.size) (by omega) 0).trans kA
    have kB1 := (hrow.only.cell (b := w.heap.size) (by omega) 1).trans kB
    have HQ := Lib.hid hqv
    have HL := Lib.hid hqn
    by_cases h0 : 0 < k
    · obtain ⟨b, off, rfl, hb, hcs⟩ := hs.row.at (by omega)
      have hcell := (hrow.only.cell (b := b) (by omega) (off + (k - 1))).trans ((hb0.cell (p := ⟨b, off + (k - 1), none⟩) hb).trans (hcs (k - 1) (by omega)))
      have hdz := (limbs_dig (ab z)).getD (k - 1)
      have hg1 := hrow.cell (j := k - 1) (by omega)
      have hg2 := hrow.free (k - 1)
      have HS := Lib.hid (fun (y x : Int) (e : rest * 10000 + (limbs (ab z)).getD (k - 1) 0 = d * y + x) => div_step (a := limbs (ab z)) (q := qs) (n := d) (rest := rest) (x := x) (y := y) (i := k - 1) (by have := hln.out; omega) (by have := hln.out; have := HL.out; omega) (by rw [show k - 1 + 1 = k by omega]; exact HQ.out) e)
      rw [List.getD_eq_getElem?_getD] at hdz HS
      have hdd := div_digit hd ⟨hr1, hr2⟩ hdz
      have hmm := Int.emod_nonneg (rest * 10000 + (limbs (ab z))[k - 1]?.getD 0) (b := d) (by omega)
      have hml := Int.emod_lt_of_pos (rest * 10000 + (limbs (ab z))[k - 1]?.getD 0) (b := d) (by omega)
      have HE := Lib.hid (show rest * 10000 + (limbs (ab z))[k - 1]?.getD 0 = d * ((rest * 10000 + (limbs (ab z))[k - 1]?.getD 0) / d) + (rest * 10000 + (limbs (ab z))[k - 1]?.getD 0) % d by have := Int.emod_add_mul_ediv (rest * 10000 + (limbs (ab z))[k - 1]?.getD 0) d; omega)
      clear hcs hqv hqn
      go_wp2_with fail
      go_roundw
      case rel => exact ⟨k - 1, _, qs.set (k - 1) _, rfl, by congr 1; omega, by omega, hmm, hml, by simp [HL.out], hqd.set _ hdd, HS.out _ _ HE.out, hrow.set _ _⟩
      case measure => simp [intOf]; omega
    · obtain rfl : k = 0 := by omega
      have HA := Lib.hid (div_all hd hng.out ⟨hr1, hr2⟩ HQ.out)
      have T1 : ∀ W, Below wr.heap.size wr W → Calls Try.prog 65 #[.bool false, .slice (some ⟨w.heap.size + 1 + 1, 0, none⟩) n n] W (NewWO W (z / d)) := fun W hW => by
        have := trimmed_own false _ n n qs W ((hrow.sx hqn hnm).below hW) (by omega) hqd
        rw [HA.out.1] at this
        exact this
      have hbw := hrow.below hb0 (by omega)
      have hsz := hrow.size
      have kC1 := (hrow.only.cell (b := w.heap.size + 1) (by omega) 0).trans kC
      have kD1 := (hrow.only.cell (b := w.heap.size + 1) (by omega) 1).trans kD
      have fC1 := fun o => (hrow.only.froz (b := w.heap.size + 1) (by omega) o).trans (f1 o)
      clear hqv hqn hrow
      go_wp2_with (first | (have _t := tok1; go_at_call 65; (with_reducible refine ((T1 _ (by repeat' first | (with_reducible first | apply zRf | assumption | apply zDn | apply zDr | apply zAl | apply zSt | refine zVi (by assumption) ?_ ?_) | go_size))).mono ?_); rintro e w1 ⟨b1, a1, n1, c1, rfl, hv1, ho1, hf1, hb1⟩; clear tok1 _t; have hz1 := hb1.size; (try simp only [World.size_alloc, World.size_setCell, World.size_drew, World.size_drewN'] at hz1); (try (have kq := cellAt hb1 (w.heap.size) (by go_size); have k1_w_0_0 := kq 0; have k1_w_0_1 := kq 1; clear kq; have f1_w_0 := frozAt hb1 (w.heap.size) (by go_size); simp [go_sem, *] at k1_w_0_0 k1_w_0_1 f1_w_0)); (try have l1_w_0 : w.heap.size < w1.heap.size := by omega); (try (have kq := cellAt hb1 (w.heap.size + 1) (by go_size); have k1_w_1_0 := kq 0; have k1_w_1_1 := kq 1; clear kq; have f1_w_1 := frozAt hb1 (w.heap.size + 1) (by go_size); simp [go_sem, *] at k1_w_1_0 k1_w_1_1 f1_w_1)); (try have l1_w_1 : w.heap.size + 1 < w1.heap.size := by omega)))
      refine bodyPost_ret (v := .tuple #[.agg #[.bool b1, .slice a1 n1 c1], .int .i64 rest]) (by simp [results, Try.results53, go_sem, *]) rfl ⟨_, _, _, _, _, rfl, ⟨hv1.neg, ?_⟩, ?_, ?_, ?_⟩
      · have hr1 := hv1.row
        (repeat' first | exact hr1 | refine Sx.set ?_ ?_ _ _ | refine Sx.alloc ?_ _ | refine Sx.drew ?_ | (intro A e; have := hf1 A e; (try simp only [World.size_alloc, World.size_setCell, World.size_drew, World.size_drewN'] at this); omega))
      · (apply OwS.low; (iterate 9 (first | (with_reducible exact ho1) | (with_reducible apply OwS.setLow) | (with_reducible apply OwS.alloc) | skip)); (all_goals go_size))
      · (intro A e; have := hf1 A e; (try simp only [World.size_alloc, World.size_setCell, World.size_drew, World.size_drewN'] at this); omega)
      repeat' first | (with_reducible first | apply zRf | assumption | apply zDn | apply zDr | apply zAl | apply zSt | refine zVi (by assumption) ?_ ?_) | go_size
theorem divWhole_nego (a : Option Addr) (n c : Nat) (z d : Int) (w : World) (hs : Wx w true a n c z) (hl : n ≤ 9000) (hd : 1 ≤ d) (hd2 : d ≤ 100000000000000) (hdz0 : d ∣ z) :
    Calls Try.prog 53 #[.agg #[.bool true, .slice a n c], .int .i64 d] w (NewQO w (z / d)) := by
  obtain ⟨i0, hi, hz0, hz1, hz2⟩ := info_parts infoInt
  have tok1 : True := trivial
  have tok2 : True := trivial
  have tok3 : True := trivial
  go_enter Try.func53, Try.ntmps53
  go_wp2_with (first | (at_make; refine wpList_make_full _ rfl _ _ 24 rfl (w.heap.size + 2) 3 i0 (.int .i64 0) 1 Try.underlying24 hi hz0 hz1 .i64 .i64 _ _ n rfl rfl rfl rfl (by rw [hz2]; omega) (by unfold maxLen; omega) (by simp) ?_; intro W0 hm0 hg0; have hr0 := RowW.start hm0; have hb0 := made_below (B := w.heap.size) (a := w) (by repeat' first | (with_reducible first | apply zRf | assumption | apply zDn | apply zDr | apply zAl | apply zSt | refine zVi (by assumption) ?_ ?_) | go_size) hg0 (by simp; try omega); have hz0s := hg0.size; have e0 := fun o => World.cell?_of_block (a := ⟨w.heap.size, o, none⟩) (made_at hg0 (by simp; try omega)); have e1 := fun o => World.cell?_of_block (a := ⟨w.heap.size + 1, o, none⟩) (made_at hg0 (by simp; try omega)); have f0 := fun o => World.frozen?_of_block (a := ⟨w.heap.size, o, none⟩) (made_at hg0 (by simp; try omega)); have f1 := fun o => World.frozen?_of_block (a := ⟨w.heap.size + 1, o, none⟩) (made_at hg0 (by simp; try omega)); have kA := e0 0; have kB := e0 1; have kC := e1 0; have kD := e1 1; clear e0 e1 hm0 hg0; simp [go_sem] at kA kB kC kD f0 f1; simp only [World.size_alloc] at hr0 hz0s))
  have hnm : n ≤ maxLen := by unfold maxLen; omega
  have hln := Lib.hid hs.row.len
  have hng := Lib.hid hs.neg.symm
  have hneg : z < 0 := by have := hs.neg; simpa [ngB] using this.symm
  go_loopw [7, 8] (fun rv iv wr => OvRel W0 (w.heap.size + 1 + 1) d (limbs (ab z)) n rv iv wr) (fun _ iv _ => (intOf iv + 1).toNat)
  case atStart => exact ⟨n, 0, List.replicate n 0, rfl, rfl, Nat.le_refl _, by omega, by omega, by simp, Dig.zeros n, by rw [List.drop_eq_nil_of_le (by have := hln.out; omega), List.drop_eq_nil_of_le (by simp)]; simp [val], hr0⟩
  case round =>
    obtain ⟨k, rest, qs, rfl, rfl, hk, hr1, hr2, hqn, hqd, hqv, hrow⟩ := hrel
    have kA1 := (hrow.only.cell (b := w.heap.size) (by omega) 0).trans kA
    have kB1 := (hrow.only.cell (b := w.heap.size) (by omega) 1).trans kB
    have HQ := Lib.hid hqv
    have HL := Lib.hid hqn
    by_cases h0 : 0 < k
    · obtain ⟨b, off, rfl, hb, hcs⟩ := hs.row.at (by omega)
      have hcell := (hrow.only.cell (b := b) (by omega) (off + (k - 1))).trans ((hb0.cell (p := ⟨b, off + (k - 1), none⟩) hb).trans (hcs (k - 1) (by omega)))
      have hdz := (limbs_dig (ab z)).getD (k - 1)
      have hg1 := hrow.cell (j := k - 1) (by omega)
      have hg2 := hrow.free (k - 1)
      have HS := Lib.hid (fun (y x : Int) (e : rest * 10000 + (limbs (ab z)).getD (k - 1) 0 = d * y + x) => div_step (a := limbs (ab z)) (q := qs) (n := d) (rest := rest) (x := x) (y := y) (i := k - 1) (by have := hln.out; omega) (by have := hln.out; have := HL.out; omega) (by rw [show k - 1 + 1 = k by omega]; exact HQ.out) e)
      rw [List.getD_eq_getElem?_getD] at hdz HS
      have hdd := div_digit hd ⟨hr1, hr2⟩ hdz
      have hmm := Int.emod_nonneg (rest * 10000 + (limbs (ab z))[k - 1]?.getD 0) (b := d) (by omega)
      have hml := Int.emod_lt_of_pos (rest * 10000 + (limbs (ab z))[k - 1]?.getD 0) (b := d) (by omega)
      have HE := Lib.hid (show rest * 10000 + (limbs (ab z))[k - 1]?.getD 0 = d * ((rest * 10000 + (limbs (ab z))[k - 1]?.getD 0) / d) + (rest * 10000 + (limbs (ab z))[k - 1]?.getD 0) % d by have := Int.emod_add_mul_ediv (rest * 10000 + (limbs (ab z))[k - 1]?.getD 0) d; omega)
      clear hcs hqv hqn
      go_wp2_with fail
      go_roundw
      case rel => exact ⟨k - 1, _, qs.set (k - 1) _, rfl, by congr 1; omega, by omega, hmm, hml, by simp [HL.out], hqd.set _ hdd, HS.out _ _ HE.out, hrow.set _ _⟩
      case measure => simp [intOf]; omega
    · obtain rfl : k = 0 := by omega
      have HA := Lib.hid (show ab z = d * val qs + rest by have := HQ.out; rw [List.drop_zero, List.drop_zero, val_ab'] at this; exact this)
      have hbw := hrow.below hb0 (by omega)
      have hsz := hrow.size
      have kC1 := (hrow.only.cell (b := w.heap.size + 1) (by omega) 0).trans kC
      have kD1 := (hrow.only.cell (b := w.heap.size + 1) (by omega) 1).trans kD
      have fC1 := fun o => (hrow.only.froz (b := w.heap.size + 1) (by omega) o).trans (f1 o)
      have hlz : val qs < 10000 ^ n := by have := val_lt hqd; rwa [HL.out] at this
      have hlq : ln (mkW true (val qs)) ≤ n := by rw [ln_le, mkW_ab (val_nonneg hqd)]; exact hlz
      have T0 : ∀ W, Below wr.heap.size wr W → Calls Try.prog 65 #[.bool true, .slice (some ⟨w.heap.size + 1 + 1, 0, none⟩) n n] W (NewWO W (mkW true (val qs))) := fun W hW => trimmed_own true _ n n qs W ((hrow.sx hqn hnm).below hW) (by omega) hqd
      have hqn0 := val_nonneg hqd
      have hngz : ngB z = true := by simp [ngB, hneg]
      by_cases hrest : 0 < rest
      · exfalso
        have hdn := div_neg (a := z) (n := d) (q := val qs) (r := rest) (by omega) HA.out ⟨hrest, hr2⟩ hneg
        have := Int.emod_eq_zero_of_dvd hdz0
        omega
      · obtain rfl : rest = 0 := by omega
        have hdp := div_pos (a := z) (n := d) (q := val qs) (r := 0) (by omega) HA.out ⟨by omega, by omega⟩ (.inr rfl)
        rw [hngz] at hdp
        have HD := Lib.hid hdp
        have T1 : ∀ W, Below wr.heap.size wr W → Calls Try.prog 65 #[.bool true, .slice (some ⟨w.heap.size + 1 + 1, 0, none⟩) n n] W (NewWO W (z / d)) := fun W hW => by
          have := T0 W hW
          rw [HD.out.1] at this
          exact this
        clear hqv hqn hrow hlz hlq hqn0 hdp T0
        go_wp2_with (first | (have _t := tok1; go_at_call 65; (with_reducible refine ((T1 _ (by repeat' first | (with_reducible first | apply zRf | assumption | apply zDn | apply zDr | apply zAl | apply zSt | refine zVi (by assumption) ?_ ?_) | go_size))).mono ?_); rintro e w1 ⟨b1, a1, n1, c1, rfl, hv1, ho1, hf1, hb1⟩; clear tok1 _t; have hz1 := hb1.size; (try simp only [World.size_alloc, World.size_setCell, World.size_drew, World.size_drewN'] at hz1); (try (have kq := cellAt hb1 (w.heap.size) (by go_size); have k1_w_0_0 := kq 0; have k1_w_0_1 := kq 1; clear kq; have f1_w_0 := frozAt hb1 (w.heap.size) (by go_size); simp [go_sem, *] at k1_w_0_0 k1_w_0_1 f1_w_0)); (try have l1_w_0 : w.heap.size < w1.heap.size := by omega); (try (have kq := cellAt hb1 (w.heap.size + 1) (by go_size); have k1_w_1_0 := kq 0; have k1_w_1_1 := kq 1; clear kq; have f1_w_1 := frozAt hb1 (w.heap.size + 1) (by go_size); simp [go_sem, *] at k1_w_1_0 k1_w_1_1 f1_w_1)); (try have l1_w_1 : w.heap.size + 1 < w1.heap.size := by omega)))
        refine bodyPost_ret (v := .tuple #[.agg #[.bool b1, .slice a1 n1 c1], .int .i64 0]) (by simp [results, Try.results53, go_sem, *]) rfl ⟨_, _, _, _, _, rfl, ⟨hv1.neg, ?_⟩, ?_, ?_, ?_⟩
        · have hr1 := hv1.row
          (repeat' first | exact hr1 | refine Sx.set ?_ ?_ _ _ | refine Sx.alloc ?_ _ | refine Sx.drew ?_ | (intro A e; have := hf1 A e; (try simp only [World.size_alloc, World.size_setCell, World.size_drew, World.size_drewN'] at this); omega))
        · (apply OwS.low; (iterate 9 (first | (with_reducible exact ho1) | (with_reducible apply OwS.setLow) | (with_reducible apply OwS.alloc) | skip)); (all_goals go_size))
        · (intro A e; have := hf1 A e; (try simp only [World.size_alloc, World.size_setCell, World.size_drew, World.size_drewN'] at this); omega)
        repeat' first | (with_reducible first | apply zRf | assumption | apply zDn | apply zDr | apply zAl | apply zSt | refine zVi (by assumption) ?_ ?_) | go_size
theorem divWhole_own {b : Bool} {a : Option Addr} {n c : Nat} {z d : Int} {w : World} (hs : Wx w b a n c z) (hl : ln z ≤ 9000) (hd : 1 ≤ d) (hd2 : d ≤ 100000000000000) (hdz0 : d ∣ z) :
    Calls Try.prog 53 #[.agg #[.bool b, .slice a n c], .int .i64 d] w (NewQO w (z / d)) := by
  have hn := hs.ln
  cases b
  · exact divWhole_poso a n c z d w hs (by omega) hd hd2 hdz0
  · exact divWhole_nego a n c z d w hs (by omega) hd hd2 hdz0
end Go.Proofs.Ytijpfnkhaldfeaa
