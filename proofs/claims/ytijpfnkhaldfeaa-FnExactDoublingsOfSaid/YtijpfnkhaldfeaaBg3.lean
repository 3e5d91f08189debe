/- Whole numbers in memory: integers as whole numbers, turned signs; both sides. -/
import Derived.Test.YtijpfnkhaldfeaaBg2
namespace Go.Proofs.Ytijpfnkhaldfeaa
open Go.RowKit
set_option linter.unusedVariables false
set_option maxHeartbeats 1000000
set_option maxRecDepth 20000
set_option linter.unusedSimpArgs false
theorem negated_any (b : Bool) (a : Option Addr) (n c : Nat) (z : Int) (w : World) (hs : Wx w b a n c z) (hl : n ≤ 1000000) :
    Calls Try.prog 55 #[.agg #[.bool b, .slice a n c]] w (NewW w (-z)) := by
  have T1 : ∀ W, Below w.heap.size w W → Calls Try.prog 65 #[.bool (!b), .slice a n c] W (NewW W (-z)) := fun W hW => by
    have := trimmed_any (!b) a n c (limbs (ab z)) W (hs.row.below hW) hl (limbs_dig _)
    have e : mkW (!b) (ab z) = -z := by rw [hs.neg, mkW_neg]
    rw [limbs_val (ab_nonneg z), e] at this
    exact this
  cases b
  all_goals
    simp only [Bool.not_true, Bool.not_false] at T1
    have tok1 : True := trivial
    go_enter Try.func55, Try.ntmps55
    go_wp2_with (first | (have _t := tok1; go_at_call 65; (with_reducible refine ((T1 _ (by repeat' first | (with_reducible first | apply zRf | assumption | apply zDn | apply zDr | apply zAl | apply zSt | refine zVi (by assumption) ?_ ?_) | go_size))).mono ?_); rintro e w1 ⟨b1, a1, n1, c1, rfl, hv1, hf1, hb1⟩; clear tok1 _t; have hz1 := hb1.size; (try simp only [World.size_alloc, World.size_setCell, World.size_drew, World.size_drewN'] at hz1); (try (have kq := cellAt hb1 (w.heap.size) (by go_size); have k1_w_0_0 := kq 0; have k1_w_0_1 := kq 1; clear kq; have f1_w_0 := frozAt hb1 (w.heap.size) (by go_size); simp [go_sem, *] at k1_w_0_0 k1_w_0_1 f1_w_0)); (try have l1_w_0 : w.heap.size < w1.heap.size := by omega); (try (have kq := cellAt hb1 (w.heap.size + 1) (by go_size); have k1_w_1_0 := kq 0; have k1_w_1_1 := kq 1; clear kq; have f1_w_1 := frozAt hb1 (w.heap.size + 1) (by go_size); simp [go_sem, *] at k1_w_1_0 k1_w_1_1 f1_w_1)); (try have l1_w_1 : w.heap.size + 1 < w1.heap.size := by omega)))
    refine bodyPost_ret (v := .agg #[.bool b1, .slice a1 n1 c1]) (by simp [results, Try.results55, go_sem, *]) rfl ⟨_, _, _, _, rfl, ⟨hv1.neg, ?_⟩, ?_, ?_⟩
    · have hr1 := hv1.row
      (repeat' first | exact hr1 | refine Sx.set ?_ ?_ _ _ | refine Sx.alloc ?_ _ | refine Sx.drew ?_ | (intro A e; have := hf1 A e; (try simp only [World.size_alloc, World.size_setCell, World.size_drew, World.size_drewN'] at this); omega))
    · (intro A e; have := hf1 A e; (try simp only [World.size_alloc, World.size_setCell, World.size_drew, World.size_drewN'] at this); omega)
    repeat' first | (with_reducible first | apply zRf | assumption | apply zDn | apply zDr | apply zAl | apply zSt | refine zVi (by assumption) ?_ ?_) | go_size
theorem absolute_any (b : Bool) (a : Option Addr) (n c : Nat) (z : Int) (w : World) (hs : Wx w b a n c z) (hl : n ≤ 1000000) :
    Calls Try.prog 69 #[.agg #[.bool b, .slice a n c]] w (NewW w (ab z)) := by
  have T1 : ∀ W, Below w.heap.size w W → Calls Try.prog 65 #[.bool false, .slice a n c] W (NewW W (ab z)) := fun W hW => by
    have := trimmed_any false a n c (limbs (ab z)) W (hs.row.below hW) hl (limbs_dig _)
    rwa [limbs_val (ab_nonneg z), mkW_abs] at this
  have tok1 : True := trivial
  go_enter Try.func69, Try.ntmps69
  go_wp2_with (first | (have _t := tok1; go_at_call 65; (with_reducible refine ((T1 _ (by repeat' first | (with_reducible first | apply zRf | assumption | apply zDn | apply zDr | apply zAl | apply zSt | refine zVi (by assumption) ?_ ?_) | go_size))).mono ?_); rintro e w1 ⟨b1, a1, n1, c1, rfl, hv1, hf1, hb1⟩; clear tok1 _t; have hz1 := hb1.size; (try simp only [World.size_alloc, World.size_setCell, World.size_drew, World.size_drewN'] at hz1); (try (have kq := cellAt hb1 (w.heap.size) (by go_size); have k1_w_0_0 := kq 0; have k1_w_0_1 := kq 1; clear kq; have f1_w_0 := frozAt hb1 (w.heap.size) (by go_size); simp [go_sem, *] at k1_w_0_0 k1_w_0_1 f1_w_0)); (try have l1_w_0 : w.heap.size < w1.heap.size := by omega); (try (have kq := cellAt hb1 (w.heap.size + 1) (by go_size); have k1_w_1_0 := kq 0; have k1_w_1_1 := kq 1; clear kq; have f1_w_1 := frozAt hb1 (w.heap.size + 1) (by go_size); simp [go_sem, *] at k1_w_1_0 k1_w_1_1 f1_w_1)); (try have l1_w_1 : w.heap.size + 1 < w1.heap.size := by omega)))
  refine bodyPost_ret (v := .agg #[.bool b1, .slice a1 n1 c1]) (by simp [results, Try.results69, go_sem, *]) rfl ⟨_, _, _, _, rfl, ⟨hv1.neg, ?_⟩, ?_, ?_⟩
  · have hr1 := hv1.row
    (repeat' first | exact hr1 | refine Sx.set ?_ ?_ _ _ | refine Sx.alloc ?_ _ | refine Sx.drew ?_ | (intro A e; have := hf1 A e; (try simp only [World.size_alloc, World.size_setCell, World.size_drew, World.size_drewN'] at this); omega))
  · (intro A e; have := hf1 A e; (try simp only [World.size_alloc, World.size_setCell, World.size_drew, World.size_drewN'] at this); omega)
  repeat' first | (with_reducible first | apply zRf | assumption | apply zDn | apply zDr | apply zAl | apply zSt | refine zVi (by assumption) ?_ ?_) | go_size
theorem bgMinus_any (b : Bool) (a : Option Addr) (n c : Nat) (z : Int) (w : World) (hs : Wx w b a n c z) (hl : n ≤ 1000000) :
    Calls Try.prog 32 #[.agg #[.bool b, .slice a n c]] w (NewW w (-z)) := by
  have T1 : ∀ W, Below w.heap.size w W → Calls Try.prog 47 #[.bool (!b), .slice a n c] W (NewW W (-z)) := fun W hW => by
    have := bgMake_any (!b) a n c (limbs (ab z)) W (hs.row.below hW) hl (limbs_dig _)
    have e : mkW (!b) (ab z) = -z := by rw [hs.neg, mkW_neg]
    rw [limbs_val (ab_nonneg z), e] at this
    exact this
  cases b
  all_goals
    simp only [Bool.not_true, Bool.not_false] at T1
    have tok1 : True := trivial
    go_enter Try.func32, Try.ntmps32
    go_wp2_with (first | (have _t := tok1; go_at_call 47; (with_reducible refine ((T1 _ (by repeat' first | (with_reducible first | apply zRf | assumption | apply zDn | apply zDr | apply zAl | apply zSt | refine zVi (by assumption) ?_ ?_) | go_size))).mono ?_); rintro e w1 ⟨b1, a1, n1, c1, rfl, hv1, hf1, hb1⟩; clear tok1 _t; have hz1 := hb1.size; (try simp only [World.size_alloc, World.size_setCell, World.size_drew, World.size_drewN'] at hz1); (try (have kq := cellAt hb1 (w.heap.size) (by go_size); have k1_w_0_0 := kq 0; have k1_w_0_1 := kq 1; clear kq; have f1_w_0 := frozAt hb1 (w.heap.size) (by go_size); simp [go_sem, *] at k1_w_0_0 k1_w_0_1 f1_w_0)); (try have l1_w_0 : w.heap.size < w1.heap.size := by omega); (try (have kq := cellAt hb1 (w.heap.size + 1) (by go_size); have k1_w_1_0 := kq 0; have k1_w_1_1 := kq 1; clear kq; have f1_w_1 := frozAt hb1 (w.heap.size + 1) (by go_size); simp [go_sem, *] at k1_w_1_0 k1_w_1_1 f1_w_1)); (try have l1_w_1 : w.heap.size + 1 < w1.heap.size := by omega)))
    refine bodyPost_ret (v := .agg #[.bool b1, .slice a1 n1 c1]) (by simp [results, Try.results32, go_sem, *]) rfl ⟨_, _, _, _, rfl, ⟨hv1.neg, ?_⟩, ?_, ?_⟩
    · have hr1 := hv1.row
      (repeat' first | exact hr1 | refine Sx.set ?_ ?_ _ _ | refine Sx.alloc ?_ _ | refine Sx.drew ?_ | (intro A e; have := hf1 A e; (try simp only [World.size_alloc, World.size_setCell, World.size_drew, World.size_drewN'] at this); omega))
    · (intro A e; have := hf1 A e; (try simp only [World.size_alloc, World.size_setCell, World.size_drew, World.size_drewN'] at this); omega)
    repeat' first | (with_reducible first | apply zRf | assumption | apply zDn | apply zDr | apply zAl | apply zSt | refine zVi (by assumption) ?_ ?_) | go_size
def OfRel (B : Nat) (w : World) (N : Int) (nv sv : Value) (wr : World) : Prop := ∃ (m : Int) (ys : List Int), nv = .int .i64 m ∧ 0 ≤ m ∧ m ≤ 9223372036854775807 ∧ Dig ys ∧ val ys + 10000 ^ ys.length * m = N ∧ wr.ownsRow (B + 1) 3 1 sv ys.length (ints ys) ∧
  Below B w wr ∧ B < wr.heap.size ∧ (∀ o, wr.cell? ⟨B, o, none⟩ = (w.alloc (.cells #[.bool false, .slice none 0 0] 35)).cell? ⟨B, o, none⟩) ∧ (∀ o, wr.frozen? ⟨B, o, none⟩ = false) ∧ ys.length ≤ 5
theorem wholeOf_any (n : Int) (w : World) (h1 : -9223372036854775807 ≤ n) (h2 : n ≤ 9223372036854775807) :
    Calls Try.prog 63 #[.int .i64 n] w (NewW w n) := by
  obtain ⟨i0, hi, hz0, hz1, hz2⟩ := info_parts infoInt
  have hab : (n < 0 ∧ ab n = -n ∧ ngB n = true) ∨ (¬ n < 0 ∧ ab n = n ∧ ngB n = false) := by unfold ab ngB; by_cases h : n < 0 <;> simp [h] <;> omega
  obtain ⟨nb, hnb⟩ : ∃ nb : Bool, nb = ngB n := ⟨_, rfl⟩
  rcases hab with ⟨hneg, hA, hB⟩ | ⟨hneg, hA, hB⟩
  all_goals
    rw [hB] at hnb
    have HA := Lib.hid hA
    have HB := Lib.hid hB
    clear hA hB
    subst hnb
    have tok1 : True := trivial
    go_enter Try.func63, Try.ntmps63
    go_wp2_with fail
    go_loopw [0, 4] (fun nv sv wr => OfRel w.heap.size w (ab n) nv sv wr) (fun nv _ _ => (intOf nv).toNat)
    case atStart => exact ⟨_, [], rfl, by omega, by omega, Dig.nil, by simp [val, HA.out], World.ownsRow_nil _ _ _ _, by repeat' first | (with_reducible first | apply zRf | assumption | apply zDn | apply zDr | apply zAl | apply zSt | refine zVi (by assumption) ?_ ?_) | go_size, by simp, fun _ => rfl, fun o => by go_simp, by simp⟩
    case round =>
      obtain ⟨m, ys, rfl, hm0, hm1, hd, hv, ho, hbel, hsz, hc, hfz, hl5⟩ := hrel
      have HD := Lib.hid hd
      have HV := Lib.hid hv
      have HO := Lib.hid ho
      clear hd hv ho
      by_cases hpos : 0 < m
      · have hlen := of_small HD.out HV.out (by omega) (by have := HA.out; omega)
        have hq : m / 10000 < m := by omega
        go_wp2_with (first | (at_builtin; refine wpList_append_own _ rfl _ _ 24 rfl (w.heap.size + 1) 3 i0 (.int .i64 0) 1 8 Try.underlying24 hi hz0 hz1 hz2 rfl (by decide) _ _ _ rfl (HO.out.alloc _) ⟨wr.heap.size, 0, none⟩ 1 1 [_] rfl rfl (cell_one_new _ _ _) (by simp [Value.oneCell']) (by unfold maxLen; omega) (by omega) (by simp; omega) ?_; intro v1 w1 hv1 hg1 _))
        go_roundw
        case rel =>
          have e := grown_at HO.out hg1 hsz
          have hs2 := hg1.size
          simp only [World.size_alloc] at hs2
          exact ⟨m / 10000, ys ++ [m % 10000], rfl, by omega, by omega, HD.out.append (Dig.cons (by omega) Dig.nil), of_step HV.out, by simpa [ints] using hv1, grown_below hbel HO.out hg1 hsz, by omega, fun o => (World.cell?_of_block (a := ⟨_, o, none⟩) e).trans (hc o), fun o => (World.frozen?_of_block (a := ⟨_, o, none⟩) e).trans (hfz o), by simp; omega⟩
        case measure => simp [intOf]; omega
      · have hE := Lib.hid (of_end (n := n) (by omega) HV.out)
        obtain ⟨a0, c0, rfl, hsx, hfr⟩ := Sx.of_owns HO.out
        have T1 : ∀ W, Below wr.heap.size wr W → Calls Try.prog 65 #[.bool (ngB n), .slice a0 ys.length c0] W (NewW W n) := fun W hW => by
          have := trimmed_any (ngB n) a0 ys.length c0 ys W (hsx.below hW) (by omega) HD.out
          rw [hE.out] at this
          exact this
        rw [HB.out] at T1
        have k0 := hc 0
        have k1 := hc 1
        simp [go_sem] at k0 k1
        clear hsx hfr hc
        go_wp2_with (first | (have _t := tok1; go_at_call 65; (with_reducible refine ((T1 _ (by repeat' first | (with_reducible first | apply zRf | assumption | apply zDn | apply zDr | apply zAl | apply zSt | refine zVi (by assumption) ?_ ?_) | go_size))).mono ?_); rintro e w1 ⟨b1, a1, n1, c1, rfl, hv1, hf1, hb1⟩; clear tok1 _t; have hz1 := hb1.size; (try simp only [World.size_alloc, World.size_setCell, World.size_drew, World.size_drewN'] at hz1); (try (have kq := cellAt hb1 (w.heap.size) (by go_size); have k1_w_0_0 := kq 0; have k1_w_0_1 := kq 1; clear kq; have f1_w_0 := frozAt hb1 (w.heap.size) (by go_size); simp [go_sem, *] at k1_w_0_0 k1_w_0_1 f1_w_0)); (try have l1_w_0 : w.heap.size < w1.heap.size := by omega)))
        refine bodyPost_ret (v := .agg #[.bool b1, .slice a1 n1 c1]) (by simp [results, Try.results63, go_sem, *]) rfl ⟨_, _, _, _, rfl, ⟨hv1.neg, ?_⟩, ?_, ?_⟩
        · have hr1 := hv1.row
          (repeat' first | exact hr1 | refine Sx.set ?_ ?_ _ _ | refine Sx.alloc ?_ _ | refine Sx.drew ?_ | (intro A e; have := hf1 A e; (try simp only [World.size_alloc, World.size_setCell, World.size_drew, World.size_drewN'] at this); omega))
        · (intro A e; have := hf1 A e; (try simp only [World.size_alloc, World.size_setCell, World.size_drew, World.size_drewN'] at this); omega)
        repeat' first | (with_reducible first | apply zRf | assumption | apply zDn | apply zDr | apply zAl | apply zSt | refine zVi (by assumption) ?_ ?_) | go_size
def BoRel (B : Nat) (w : World) (N : Int) (sv nv : Value) (wr : World) : Prop := OfRel B w N nv sv wr
theorem bgOf_any (n : Int) (w : World) (h1 : -9223372036854775807 ≤ n) (h2 : n ≤ 9223372036854775807) :
    Calls Try.prog 50 #[.int .i64 n] w (NewW w n) := by
  obtain ⟨i0, hi, hz0, hz1, hz2⟩ := info_parts infoInt
  have hab : (n < 0 ∧ ab n = -n ∧ ngB n = true) ∨ (¬ n < 0 ∧ ab n = n ∧ ngB n = false) := by unfold ab ngB; by_cases h : n < 0 <;> simp [h] <;> omega
  rcases hab with ⟨hneg, hA, hB⟩ | ⟨hneg, hA, hB⟩
  all_goals
    have HA := Lib.hid hA
    have HB := Lib.hid hB
    have HAB := Lib.hid (show absI n = ab n from rfl)
    have ha1 : 0 ≤ absI n := absI_nonneg n
    have ha2 : absI n ≤ 9223372036854775807 := by rw [HAB.out, HA.out]; omega
    clear hA hB
    try (have hdec : decide (n < 0) = false := by simp; omega)
    have tok1 : True := trivial
    go_enter Try.func50, Try.ntmps50
    go_wp2_with (first | (go_at_call 48; refine (l1Abs_any _ _ h1 h2).mono ?_; rintro e w' ⟨rfl, rfl⟩))
    go_loopw [3, 4] (fun sv nv wr => BoRel w.heap.size w (ab n) sv nv wr) (fun _ nv _ => (intOf nv).toNat)
    case atStart => exact ⟨_, [], rfl, by omega, by omega, Dig.nil, by simp [val, HAB.out], World.ownsRow_nil _ _ _ _, by repeat' first | (with_reducible first | apply zRf | assumption | apply zDn | apply zDr | apply zAl | apply zSt | refine zVi (by assumption) ?_ ?_) | go_size, by simp, fun _ => rfl, fun o => by go_simp, by simp⟩
    case round =>
      obtain ⟨m, ys, rfl, hm0, hm1, hd, hv, ho, hbel, hsz, hc, hfz, hl5⟩ := hrel
      have HD := Lib.hid hd
      have HV := Lib.hid hv
      have HO := Lib.hid ho
      clear hd hv ho
      by_cases hpos : 0 < m
      · have hlen := of_small HD.out HV.out (by omega) (by have := HA.out; omega)
        have hq : m / 10000 < m := by omega
        go_wp2_with (first | (at_builtin; refine wpList_append_own _ rfl _ _ 24 rfl (w.heap.size + 1) 3 i0 (.int .i64 0) 1 8 Try.underlying24 hi hz0 hz1 hz2 rfl (by decide) _ _ _ rfl (HO.out.alloc _) ⟨wr.heap.size, 0, none⟩ 1 1 [_] rfl rfl (cell_one_new _ _ _) (by simp [Value.oneCell']) (by unfold maxLen; omega) (by omega) (by simp; omega) ?_; intro v1 w1 hv1 hg1 _))
        go_roundw
        case rel =>
          have e := grown_at HO.out hg1 hsz
          have hs2 := hg1.size
          simp only [World.size_alloc] at hs2
          exact ⟨m / 10000, ys ++ [m % 10000], rfl, by omega, by omega, HD.out.append (Dig.cons (by omega) Dig.nil), of_step HV.out, by simpa [ints] using hv1, grown_below hbel HO.out hg1 hsz, by omega, fun o => (World.cell?_of_block (a := ⟨_, o, none⟩) e).trans (hc o), fun o => (World.frozen?_of_block (a := ⟨_, o, none⟩) e).trans (hfz o), by simp; omega⟩
        case measure => simp [intOf]; omega
      · have hE := Lib.hid (of_end (n := n) (by omega) HV.out)
        obtain ⟨a0, c0, rfl, hsx, hfr⟩ := Sx.of_owns HO.out
        have T1 : ∀ W, Below wr.heap.size wr W → Calls Try.prog 47 #[.bool (ngB n), .slice a0 ys.length c0] W (NewW W n) := fun W hW => by
          have := bgMake_any (ngB n) a0 ys.length c0 ys W (hsx.below hW) (by omega) HD.out
          rw [hE.out] at this
          exact this
        rw [HB.out] at T1
        have k0 := hc 0
        have k1 := hc 1
        simp [go_sem] at k0 k1
        clear hsx hfr hc
        go_wp2_with (first | (have _t := tok1; go_at_call 47; (with_reducible refine ((T1 _ (by repeat' first | (with_reducible first | apply zRf | assumption | apply zDn | apply zDr | apply zAl | apply zSt | refine zVi (by assumption) ?_ ?_) | go_size))).mono ?_); rintro e w1 ⟨b1, a1, n1, c1, rfl, hv1, hf1, hb1⟩; clear tok1 _t; have hz1 := hb1.size; (try simp only [World.size_alloc, World.size_setCell, World.size_drew, World.size_drewN'] at hz1); (try (have kq := cellAt hb1 (w.heap.size) (by go_size); have k1_w_0_0 := kq 0; have k1_w_0_1 := kq 1; clear kq; have f1_w_0 := frozAt hb1 (w.heap.size) (by go_size); simp [go_sem, *] at k1_w_0_0 k1_w_0_1 f1_w_0)); (try have l1_w_0 : w.heap.size < w1.heap.size := by omega)))
        refine bodyPost_ret (v := .agg #[.bool b1, .slice a1 n1 c1]) (by simp [results, Try.results50, go_sem, *]) rfl ⟨_, _, _, _, rfl, ⟨hv1.neg, ?_⟩, ?_, ?_⟩
        · have hr1 := hv1.row
          (repeat' first | exact hr1 | refine Sx.set ?_ ?_ _ _ | refine Sx.alloc ?_ _ | refine Sx.drew ?_ | (intro A e; have := hf1 A e; (try simp only [World.size_alloc, World.size_setCell, World.size_drew, World.size_drewN'] at this); omega))
        · (intro A e; have := hf1 A e; (try simp only [World.size_alloc, World.size_setCell, World.size_drew, World.size_drewN'] at this); omega)
        repeat' first | (with_reducible first | apply zRf | assumption | apply zDn | apply zDr | apply zAl | apply zSt | refine zVi (by assumption) ?_ ?_) | go_size
end Go.Proofs.Ytijpfnkhaldfeaa
