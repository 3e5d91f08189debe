/- Lemmas and contracts of functions. No condition. -/
import Derived.Test.YtnkmgpmehkholaaGreatPq3
import Derived.Test.YtnkmgpmehkholaaGreatPq7
import Derived.Test.YtnkmgpmehkholaaGreatPq11
import Derived.Lib.SliceRun
import Derived.Test.YtnkmgpmehkholaaGreatProg
import Derived.WalkSpells
namespace Go.Proofs.YtnkmgpmehkholaaGreat
section
open Go.RowKit
set_option linter.unusedVariables false
set_option maxHeartbeats 4000000
set_option maxRecDepth 20000
set_option linter.unusedSimpArgs false
theorem infoInt : (Tryz.prog.info? 3).map (fun i => (i.zero, i.size, i.bytes)) = some (some (.int .i64 0), 1, 8) := by kernel_rfl

/-- the flag b and the slice are the whole number z -/
structure Wx (W : World) (b : Bool) (a : Option Addr) (n c : Nat) (z : Int) : Prop where
 neg : b = ngB z
 row : Sx W a n c (limbs (ab z))
theorem Wx.below {W W2 : World} {b : Bool} {a : Option Addr} {n c : Nat} {z : Int} (h : Wx W b a n c z) (hb : Below W.heap.size W W2) : Wx W2 b a n c z := ⟨h.neg, h.row.below hb⟩
/-- a contract whose value is a slice of numbers -/
def NewS (w : World) (zs : List Int) (e : Ending) (w' : World) : Prop := ∃ a n c, e = .returned (.slice a n c) ∧ Sx w' a n c zs ∧ Fr w.heap.size a ∧ Below w.heap.size w w'
/-- a contract whose value is a whole number -/
def NewW (w : World) (z : Int) (e : Ending) (w' : World) : Prop := ∃ b a n c, e = .returned (.agg #[.bool b, .slice a n c]) ∧ Wx w' b a n c z ∧ Fr w.heap.size a ∧ Below w.heap.size w w'
theorem clone_any (a : Option Addr) (n c : Nat) (zs : List Int) (w : World) (hs : Sx w a n c zs) (hl : n ≤ 1000000) :
  Calls Tryz.prog 89 #[.slice a n c] w (NewS w zs) := by
 obtain ⟨i0, hi, hz0, hz1, hz2⟩ := info_parts infoInt
 have hnl := fun (W : World) (a : Option Addr) (n c : Nat) => Lib.run_eql_slice_nil (P := Tryz.prog) W 78 3 a n c 0 0 Tryz.underlying78
 cases a with
 | none =>
  have h0 := hs.nil rfl
  have h1 := hs.cap
  have h2 := hs.len
  have : zs = [] := List.length_eq_zero_iff.1 (by omega)
  subst this
  obtain rfl : n = 0 := by omega
  subst h0
  clear hs h1 h2
  go_enter Tryz.func89, Tryz.ntmps89
  go_wp2_with fail
  go_ret
  exact ⟨_, _, _, rfl, Sx.none _, (fun A e => by cases e), Below.refl _ _⟩
 | some A =>
  have HO := Lib.hid (World.ownsRow_made w #[] 0 (e := 3) (base := w.heap.size) (size := 1) (Nat.le_refl _) (Nat.zero_le _) (by simp))
  have HS := Lib.hid ((hs.below ((Below.refl _ _).alloc (Nat.le_refl _) (.cells #[] 3))).row.src)
  have HL := Lib.hid hs.len
  clear hs
  go_enter Tryz.func89, Tryz.ntmps89
  go_wp2_with (first | (at_builtin; refine wpList_append_own _ rfl _ _ 78 rfl w.heap.size 3 i0 (.int .i64 0) 1 8 Tryz.underlying78 hi hz0 hz1 hz2 rfl (by decide) _ _ _ rfl HO.out A n c (ints zs) rfl (by simp [ints, HL.out]) HS.out ints_cell (by unfold maxLen; omega) (by omega) (by simp) ?_; intro v1 w1 hv1 hg1 _))
  go_ret
  have hv2 := Sx.of_owns (n := n) (zs := zs) (by simpa using hv1)
  obtain ⟨a1, c1, rfl, h5, h6⟩ := hv2
  refine ⟨_, _, _, rfl, h5, h6, ?_⟩
  refine Below.grown ((Below.refl _ w).alloc (Nat.le_refl _) _) hg1 (by simp) (fun k e => ?_)
  have e2 : some w.heap.size = some k := e
  obtain rfl := Option.some.inj e2
  exact Nat.le_refl _
def lenOf : Value → Nat | .slice _ n _ => n | _ => 0
def TrRel (a : Option Addr) (c n : Nat) (zs : List Int) (v : Value) : Prop := ∃ k : Nat, k ≤ n ∧ v = .slice a k c ∧ ∀ j, k ≤ j → j < n → zs.getD j 0 = 0
theorem tr_next {zs : List Int} {k n : Nat} (h : ∀ j, k ≤ j → j < n → zs.getD j 0 = 0) (hz : zs[k - 1]?.getD 0 = 0) : ∀ j, k - 1 ≤ j → j < n → zs.getD j 0 = 0 := fun j h1 h2 => by
 by_cases hj : k ≤ j
 ·exact h j hj h2
 ·obtain rfl : j = k - 1 := by omega
  rw [List.getD_eq_getElem?_getD]; exact hz
theorem trimmed_any (neg : Bool) (a : Option Addr) (n c : Nat) (zs : List Int) (w : World) (hs : Sx w a n c zs) (hl : n ≤ 1000000) (hd : Dig zs) :
  Calls Tryz.prog 72 #[.bool neg, .slice a n c] w (NewW w (mkW neg (val zs))) := by
 have T0 : ∀ (k : Nat) (W : World), k ≤ n → Below w.heap.size w W → Calls Tryz.prog 89 #[.slice a k c] W (NewS W (zs.take k)) := fun k W hk hW => clone_any a k c (zs.take k) W ((hs.below hW).take hk) (by omega)
 have HR : ∀ (neg : Bool) (k : Nat), k ≤ n → (∀ j, k ≤ j → j < n → zs.getD j 0 = 0) → (k = 0 ∨ zs[k - 1]?.getD 0 ≠ 0) → zs.take k = limbs (ab (mkW neg (val zs))) ∧ ngB (mkW neg (val zs)) = (neg && decide (0 < k)) := fun neg k hk hz h0 => by
  rw [← hs.len] at hk hz
  exact trim_res hd hk hz (by rwa [List.getD_eq_getElem?_getD])
 have HC := hs.cap
 have HH := Lib.hid HR
 clear hd HR
 obtain ⟨nb, hnb⟩ : ∃ nb : Bool, nb = neg := ⟨_, rfl⟩
 cases neg
 all_goals
  have tok1 := trivial
  go_enter Tryz.func72, Tryz.ntmps72
  go_wp2_with fail
  go_loop [1] (fun v => TrRel a c n zs v) (fun v => lenOf v)
  case atStart => exact ⟨n, Nat.le_refl _, rfl, fun j h1 h2 => by omega⟩
  case round =>
   obtain ⟨k, hk, rfl, hzz⟩ := hrel
   have HZ := Lib.hid hzz
   clear hzz
   by_cases h0 : k = 0
   ·subst h0
    have T1 := fun W hW => T0 0 W hk hW
    clear T0
    go_wp2_with (first | (have _t := tok1; go_at_call 89; (with_reducible refine ((T1 _ bel)).mono ?_); rintro e w1 ⟨a1, n1, c1, rfl, hv1, hf1, hb1⟩; clear tok1 _t; have hz1 := hb1.size; (try simp only [sA, sB, sC, sD] at hz1); (try (obtain ⟨kq, qe⟩ := cfAt hb1 (w.heap.size); have qc := kq 0; have qd := kq 1; clear kq; simp [go_sem, *] at qc qd qe)); (try have qf : w.heap.size < w1.heap.size := by omega)))
    refine bodyPost_ret (v := .agg #[.bool false, .slice a1 n1 c1]) (by simp [results, Tryz.results72, go_sem, *]) rfl ⟨_, _, _, _, rfl, ⟨?_, ?_⟩, ?_, ?_⟩
    ·rw [(HH.out _ 0 hk HZ.out (.inl rfl)).2]; rfl
    ·rw [← (HH.out _ 0 hk HZ.out (.inl rfl)).1]
     (repeat' first | exact hv1 | refine Sx.set ?_ ?_ _ _ | refine Sx.alloc ?_ _ | refine Sx.drew ?_ | (intro A e; have := hf1 A e; (try simp only [sA, sB, sC, sD] at this); omega))
    ·(intro A e; have := hf1 A e; (try simp only [sA, sB, sC, sD] at this); omega)
    exact bel
   ·obtain ⟨b, off, rfl, hb, hcs⟩ := hs.at (by omega)
    have hcell := hcs (k - 1) (by omega)
    clear hcs
    by_cases hzk : zs[k - 1]?.getD 0 = 0
    ·have hzk' : (zs[k - 1]?.getD 0 == 0) = true := by simp [hzk]
     have HK := Lib.hid (tr_next HZ.out hzk)
     clear hzk
     generalize zs[k - 1]?.getD 0 = z at *
     go_wp2_with fail
     go_round
     case rel => exact ⟨k - 1, by omega, by simp, HK.out⟩
     case measure => simp [lenOf]; omega
    ·have hzk' : (zs[k - 1]?.getD 0 == 0) = false := by simp [hzk]
     have T1 := fun W hW => T0 k W hk hW
     have HK := Lib.hid (fun neg => HH.out neg k hk HZ.out (.inr hzk))
     clear hzk T0
     generalize zs[k - 1]?.getD 0 = z at *
     go_wp2_with (first | (have _t := tok1; go_at_call 89; (with_reducible refine ((T1 _ bel)).mono ?_); rintro e w1 ⟨a1, n1, c1, rfl, hv1, hf1, hb1⟩; clear tok1 _t; have hz1 := hb1.size; (try simp only [sA, sB, sC, sD] at hz1); (try (obtain ⟨kq, qe⟩ := cfAt hb1 (w.heap.size); have qc := kq 0; have qd := kq 1; clear kq; simp [go_sem, *] at qc qd qe)); (try have qf : w.heap.size < w1.heap.size := by omega)))
     refine bodyPost_ret (v := .agg #[.bool nb, .slice a1 n1 c1]) (by simp [results, Tryz.results72, go_sem, *]) rfl ⟨_, _, _, _, rfl, ⟨?_, ?_⟩, ?_, ?_⟩
     ·rw [hnb, (HK.out _).2]; simp; try omega
     ·rw [← (HK.out _).1]
      (repeat' first | exact hv1 | refine Sx.set ?_ ?_ _ _ | refine Sx.alloc ?_ _ | refine Sx.drew ?_ | (intro A e; have := hf1 A e; (try simp only [sA, sB, sC, sD] at this); omega))
     ·(intro A e; have := hf1 A e; (try simp only [sA, sB, sC, sD] at this); omega)
     exact bel
end
section
open Go.RowKit
set_option linter.unusedVariables false
set_option maxHeartbeats 4000000
set_option maxRecDepth 20000
set_option linter.unusedSimpArgs false
theorem l1Own_any (a : Option Addr) (n c : Nat) (zs : List Int) (w : World) (hs : Sx w a n c zs) (hl : n ≤ 1000000) :
  Calls Tryz.prog 133 #[.slice a n c] w (NewS w zs) := by
 obtain ⟨i0, hi, hz0, hz1, hz2⟩ := info_parts infoInt
 have HO := Lib.hid (World.ownsRow_made w #[] 0 (e := 3) (base := w.heap.size) (size := 1) (Nat.le_refl _) (Nat.zero_le _) (by simp))
 cases a with
 | none =>
  have h0 := hs.nil rfl
  have h1 := hs.cap
  have h2 := hs.len
  have : zs = [] := List.length_eq_zero_iff.1 (by omega)
  subst this
  obtain rfl : n = 0 := by omega
  subst h0
  clear hs h1 h2
  go_enter Tryz.func133, Tryz.ntmps133
  go_wp2_with (first | (at_builtin; refine wpList_append_own_none _ rfl _ _ 78 rfl w.heap.size 3 i0 1 Tryz.underlying78 hi _ _ _ rfl HO.out rfl ?_))
  go_ret
  refine ⟨_, _, _, rfl, Sx.of_row (heap_alloc_new _ _) rfl (Nat.le_refl _) (Nat.zero_le _) (fun j hj => by omega), fun A e => by cases e; exact Nat.le_refl _, ?_⟩
  exact bel
 | some A =>
  have HS := Lib.hid ((hs.below ((Below.refl _ _).alloc (Nat.le_refl _) (.cells #[] 3))).row.src)
  have HL := Lib.hid hs.len
  clear hs
  go_enter Tryz.func133, Tryz.ntmps133
  go_wp2_with (first | (at_builtin; refine wpList_append_own _ rfl _ _ 78 rfl w.heap.size 3 i0 (.int .i64 0) 1 8 Tryz.underlying78 hi hz0 hz1 hz2 rfl (by decide) _ _ _ rfl HO.out A n c (ints zs) rfl (by simp [ints, HL.out]) HS.out ints_cell (by unfold maxLen; omega) (by omega) (by simp) ?_; intro v1 w1 hv1 hg1 _))
  go_ret
  have hv2 := Sx.of_owns (n := n) (zs := zs) (by simpa using hv1)
  obtain ⟨a1, c1, rfl, h5, h6⟩ := hv2
  refine ⟨_, _, _, rfl, h5, h6, ?_⟩
  refine Below.grown ((Below.refl _ w).alloc (Nat.le_refl _) _) hg1 (by simp) (fun k e => ?_)
  have e2 : some w.heap.size = some k := e
  obtain rfl := Option.some.inj e2
  exact Nat.le_refl _
def MkRel (n : Nat) (zs : List Int) (v : Value) : Prop := ∃ k : Nat, k ≤ n ∧ v = .int .i64 k ∧ ∀ j, k ≤ j → j < n → zs.getD j 0 = 0
theorem bgMake_any (neg : Bool) (a : Option Addr) (n c : Nat) (zs : List Int) (w : World) (hs : Sx w a n c zs) (hl : n ≤ 1000000) (hd : Dig zs) :
  Calls Tryz.prog 118 #[.bool neg, .slice a n c] w (NewW w (mkW neg (val zs))) := by
 have T0 : ∀ (k : Nat) (W : World), k ≤ n → Below w.heap.size w W → Calls Tryz.prog 133 #[.slice a k c] W (NewS W (zs.take k)) := fun k W hk hW => l1Own_any a k c (zs.take k) W ((hs.below hW).take hk) (by omega)
 have HR : ∀ (neg : Bool) (k : Nat), k ≤ n → (∀ j, k ≤ j → j < n → zs.getD j 0 = 0) → (k = 0 ∨ zs[k - 1]?.getD 0 ≠ 0) → zs.take k = limbs (ab (mkW neg (val zs))) ∧ ngB (mkW neg (val zs)) = (neg && decide (0 < k)) := fun neg k hk hz h0 => by
  rw [← hs.len] at hk hz
  exact trim_res hd hk hz (by rwa [List.getD_eq_getElem?_getD])
 have HC := hs.cap
 have HN := hs.nil
 have HH := Lib.hid HR
 clear hd HR
 obtain ⟨nb, hnb⟩ : ∃ nb : Bool, nb = neg := ⟨_, rfl⟩
 cases a with
 | none =>
  obtain rfl := HN rfl
  obtain rfl : n = 0 := by omega
  clear HN
  have T1 := fun W hW => T0 0 W (Nat.le_refl _) hW
  clear T0
  cases neg
  all_goals
   have tok1 := trivial
   go_enter Tryz.func118, Tryz.ntmps118
   go_wp2_with fail
   go_loop [5] (fun v => MkRel 0 zs v) (fun v => (intOf v).toNat)
   case atStart => exact ⟨0, Nat.le_refl _, rfl, fun j h1 h2 => by omega⟩
   case round =>
    obtain ⟨k, hk, rfl, hzz⟩ := hrel
    obtain rfl : k = 0 := by omega
    have HZ := Lib.hid hzz
    clear hzz
    go_wp2_with (first | (have _t := tok1; go_at_call 133; (with_reducible refine ((T1 _ bel)).mono ?_); rintro e w1 ⟨a1, n1, c1, rfl, hv1, hf1, hb1⟩; clear tok1 _t; have hz1 := hb1.size; (try simp only [sA, sB, sC, sD] at hz1); (try (obtain ⟨kq, qe⟩ := cfAt hb1 (w.heap.size); have qc := kq 0; have qd := kq 1; clear kq; simp [go_sem, *] at qc qd qe)); (try have qf : w.heap.size < w1.heap.size := by omega)))
    refine bodyPost_ret (v := .agg #[.bool false, .slice a1 n1 c1]) (by simp [results, Tryz.results118, go_sem, *]) rfl ⟨_, _, _, _, rfl, ⟨?_, ?_⟩, ?_, ?_⟩
    ·rw [(HH.out _ 0 hk HZ.out (.inl rfl)).2]; simp
    ·rw [← (HH.out _ 0 hk HZ.out (.inl rfl)).1]
     (repeat' first | exact hv1 | refine Sx.set ?_ ?_ _ _ | refine Sx.alloc ?_ _ | refine Sx.drew ?_ | (intro A e; have := hf1 A e; (try simp only [sA, sB, sC, sD] at this); omega))
    ·(intro A e; have := hf1 A e; (try simp only [sA, sB, sC, sD] at this); omega)
    exact bel
 | some A =>
  clear HN
  cases neg
  all_goals
   have tok1 := trivial
   go_enter Tryz.func118, Tryz.ntmps118
   go_wp2_with fail
   go_loop [5] (fun v => MkRel n zs v) (fun v => (intOf v).toNat)
   case atStart => exact ⟨n, Nat.le_refl _, rfl, fun j h1 h2 => by omega⟩
   case round =>
    obtain ⟨k, hk, rfl, hzz⟩ := hrel
    have HZ := Lib.hid hzz
    clear hzz
    by_cases h0 : k = 0
    ·subst h0
     have T1 := fun W hW => T0 0 W hk hW
     clear T0
     go_wp2_with (first | (have _t := tok1; go_at_call 133; (with_reducible refine ((T1 _ bel)).mono ?_); rintro e w1 ⟨a1, n1, c1, rfl, hv1, hf1, hb1⟩; clear tok1 _t; have hz1 := hb1.size; (try simp only [sA, sB, sC, sD] at hz1); (try (obtain ⟨kq, qe⟩ := cfAt hb1 (w.heap.size); have qc := kq 0; have qd := kq 1; clear kq; simp [go_sem, *] at qc qd qe)); (try have qf : w.heap.size < w1.heap.size := by omega)))
     refine bodyPost_ret (v := .agg #[.bool false, .slice a1 n1 c1]) (by simp [results, Tryz.results118, go_sem, *]) rfl ⟨_, _, _, _, rfl, ⟨?_, ?_⟩, ?_, ?_⟩
     ·rw [(HH.out _ 0 hk HZ.out (.inl rfl)).2]; simp
     ·rw [← (HH.out _ 0 hk HZ.out (.inl rfl)).1]
      (repeat' first | exact hv1 | refine Sx.set ?_ ?_ _ _ | refine Sx.alloc ?_ _ | refine Sx.drew ?_ | (intro A e; have := hf1 A e; (try simp only [sA, sB, sC, sD] at this); omega))
     ·(intro A e; have := hf1 A e; (try simp only [sA, sB, sC, sD] at this); omega)
     exact bel
    ·obtain ⟨b, off, hA, hb, hcs⟩ := hs.at (by omega)
     obtain rfl := Option.some.inj hA
     clear hA
     have hcell := hcs (k - 1) (by omega)
     clear hcs
     have h0' : 0 < k := by omega
     have hk' : ((k : Int) - 1).toNat = k - 1 := by omega
     by_cases hzk : zs[k - 1]?.getD 0 = 0
     ·have hzk' : (zs[k - 1]?.getD 0 == 0) = true := by simp [hzk]
      have HK := Lib.hid (tr_next HZ.out hzk)
      clear hzk
      generalize zs[k - 1]?.getD 0 = z at *
      go_wp2_with fail
      go_round
      case rel => exact ⟨k - 1, by omega, by congr 1; omega, HK.out⟩
      case measure => simp [intOf]; omega
     ·have hzk' : (zs[k - 1]?.getD 0 == 0) = false := by simp [hzk]
      have T1 := fun W hW => T0 k W hk hW
      have HK := Lib.hid (fun neg => HH.out neg k hk HZ.out (.inr hzk))
      clear hzk T0
      generalize zs[k - 1]?.getD 0 = z at *
      go_wp2_with (first | (have _t := tok1; go_at_call 133; (with_reducible refine ((T1 _ bel)).mono ?_); rintro e w1 ⟨a1, n1, c1, rfl, hv1, hf1, hb1⟩; clear tok1 _t; have hz1 := hb1.size; (try simp only [sA, sB, sC, sD] at hz1); (try (obtain ⟨kq, qe⟩ := cfAt hb1 (w.heap.size); have qc := kq 0; have qd := kq 1; clear kq; simp [go_sem, *] at qc qd qe)); (try have qf : w.heap.size < w1.heap.size := by omega)))
      refine bodyPost_ret (v := .agg #[.bool nb, .slice a1 n1 c1]) (by simp [results, Tryz.results118, go_sem, *]) rfl ⟨_, _, _, _, rfl, ⟨?_, ?_⟩, ?_, ?_⟩
      ·rw [hnb, (HK.out _).2]; simp; try omega
      ·rw [← (HK.out _).1]
       (repeat' first | exact hv1 | refine Sx.set ?_ ?_ _ _ | refine Sx.alloc ?_ _ | refine Sx.drew ?_ | (intro A e; have := hf1 A e; (try simp only [sA, sB, sC, sD] at this); omega))
      ·(intro A e; have := hf1 A e; (try simp only [sA, sB, sC, sD] at this); omega)
      exact bel
end
section
open Go.RowKit
set_option linter.unusedVariables false
set_option maxHeartbeats 1000000
set_option maxRecDepth 20000
set_option linter.unusedSimpArgs false
theorem negated_any (b : Bool) (a : Option Addr) (n c : Nat) (z : Int) (w : World) (hs : Wx w b a n c z) (hl : n ≤ 1000000) :
  Calls Tryz.prog 55 #[.agg #[.bool b, .slice a n c]] w (NewW w (-z)) := by
 have T1 : ∀ W, Below w.heap.size w W → Calls Tryz.prog 72 #[.bool (!b), .slice a n c] W (NewW W (-z)) := fun W hW => by
  have := trimmed_any (!b) a n c (limbs (ab z)) W (hs.row.below hW) hl (limbs_dig _)
  have e : mkW (!b) (ab z) = -z := by rw [hs.neg, mkW_neg]
  rw [limbs_val (ab_nonneg z), e] at this
  exact this
 cases b
 all_goals
  simp only [Bool.not_true, Bool.not_false] at T1
  have tok1 := trivial
  go_enter Tryz.func55, Tryz.ntmps55
  go_wp2_with (first | (have _t := tok1; go_at_call 72; (with_reducible refine ((T1 _ bel)).mono ?_); rintro e w1 ⟨b1, a1, n1, c1, rfl, hv1, hf1, hb1⟩; clear tok1 _t; have hz1 := hb1.size; (try simp only [sA, sB, sC, sD] at hz1); (try (obtain ⟨kq, qg⟩ := cfAt hb1 (w.heap.size); have qc := kq 0; have qd := kq 1; clear kq; simp [go_sem, *] at qc qd qg)); (try have qi : w.heap.size < w1.heap.size := by omega); (try (obtain ⟨kq, qh⟩ := cfAt hb1 (w.heap.size + 1); have qe := kq 0; have qf := kq 1; clear kq; simp [go_sem, *] at qe qf qh)); (try have qj : w.heap.size + 1 < w1.heap.size := by omega)))
  refine bodyPost_ret (v := .agg #[.bool b1, .slice a1 n1 c1]) (by simp [results, Tryz.results55, go_sem, *]) rfl ⟨_, _, _, _, rfl, ⟨hv1.neg, ?_⟩, ?_, ?_⟩
  ·have hr1 := hv1.row
   (repeat' first | exact hr1 | refine Sx.set ?_ ?_ _ _ | refine Sx.alloc ?_ _ | refine Sx.drew ?_ | (intro A e; have := hf1 A e; (try simp only [sA, sB, sC, sD] at this); omega))
  ·(intro A e; have := hf1 A e; (try simp only [sA, sB, sC, sD] at this); omega)
  exact bel
theorem absolute_any (b : Bool) (a : Option Addr) (n c : Nat) (z : Int) (w : World) (hs : Wx w b a n c z) (hl : n ≤ 1000000) :
  Calls Tryz.prog 126 #[.agg #[.bool b, .slice a n c]] w (NewW w (ab z)) := by
 have T1 : ∀ W, Below w.heap.size w W → Calls Tryz.prog 72 #[.bool false, .slice a n c] W (NewW W (ab z)) := fun W hW => by
  have := trimmed_any false a n c (limbs (ab z)) W (hs.row.below hW) hl (limbs_dig _)
  rwa [limbs_val (ab_nonneg z), mkW_abs] at this
 have tok1 := trivial
 go_enter Tryz.func126, Tryz.ntmps126
 go_wp2_with (first | (have _t := tok1; go_at_call 72; (with_reducible refine ((T1 _ bel)).mono ?_); rintro e w1 ⟨b1, a1, n1, c1, rfl, hv1, hf1, hb1⟩; clear tok1 _t; have hz1 := hb1.size; (try simp only [sA, sB, sC, sD] at hz1); (try (obtain ⟨kq, qg⟩ := cfAt hb1 (w.heap.size); have qc := kq 0; have qd := kq 1; clear kq; simp [go_sem, *] at qc qd qg)); (try have qi : w.heap.size < w1.heap.size := by omega); (try (obtain ⟨kq, qh⟩ := cfAt hb1 (w.heap.size + 1); have qe := kq 0; have qf := kq 1; clear kq; simp [go_sem, *] at qe qf qh)); (try have qj : w.heap.size + 1 < w1.heap.size := by omega)))
 refine bodyPost_ret (v := .agg #[.bool b1, .slice a1 n1 c1]) (by simp [results, Tryz.results126, go_sem, *]) rfl ⟨_, _, _, _, rfl, ⟨hv1.neg, ?_⟩, ?_, ?_⟩
 ·have hr1 := hv1.row
  (repeat' first | exact hr1 | refine Sx.set ?_ ?_ _ _ | refine Sx.alloc ?_ _ | refine Sx.drew ?_ | (intro A e; have := hf1 A e; (try simp only [sA, sB, sC, sD] at this); omega))
 ·(intro A e; have := hf1 A e; (try simp only [sA, sB, sC, sD] at this); omega)
 exact bel
theorem bgMinus_any (b : Bool) (a : Option Addr) (n c : Nat) (z : Int) (w : World) (hs : Wx w b a n c z) (hl : n ≤ 1000000) :
  Calls Tryz.prog 114 #[.agg #[.bool b, .slice a n c]] w (NewW w (-z)) := by
 have T1 : ∀ W, Below w.heap.size w W → Calls Tryz.prog 118 #[.bool (!b), .slice a n c] W (NewW W (-z)) := fun W hW => by
  have := bgMake_any (!b) a n c (limbs (ab z)) W (hs.row.below hW) hl (limbs_dig _)
  have e : mkW (!b) (ab z) = -z := by rw [hs.neg, mkW_neg]
  rw [limbs_val (ab_nonneg z), e] at this
  exact this
 cases b
 all_goals
  simp only [Bool.not_true, Bool.not_false] at T1
  have tok1 := trivial
  go_enter Tryz.func114, Tryz.ntmps114
  go_wp2_with (first | (have _t := tok1; go_at_call 118; (with_reducible refine ((T1 _ bel)).mono ?_); rintro e w1 ⟨b1, a1, n1, c1, rfl, hv1, hf1, hb1⟩; clear tok1 _t; have hz1 := hb1.size; (try simp only [sA, sB, sC, sD] at hz1); (try (obtain ⟨kq, qg⟩ := cfAt hb1 (w.heap.size); have qc := kq 0; have qd := kq 1; clear kq; simp [go_sem, *] at qc qd qg)); (try have qi : w.heap.size < w1.heap.size := by omega); (try (obtain ⟨kq, qh⟩ := cfAt hb1 (w.heap.size + 1); have qe := kq 0; have qf := kq 1; clear kq; simp [go_sem, *] at qe qf qh)); (try have qj : w.heap.size + 1 < w1.heap.size := by omega)))
  refine bodyPost_ret (v := .agg #[.bool b1, .slice a1 n1 c1]) (by simp [results, Tryz.results114, go_sem, *]) rfl ⟨_, _, _, _, rfl, ⟨hv1.neg, ?_⟩, ?_, ?_⟩
  ·have hr1 := hv1.row
   (repeat' first | exact hr1 | refine Sx.set ?_ ?_ _ _ | refine Sx.alloc ?_ _ | refine Sx.drew ?_ | (intro A e; have := hf1 A e; (try simp only [sA, sB, sC, sD] at this); omega))
  ·(intro A e; have := hf1 A e; (try simp only [sA, sB, sC, sD] at this); omega)
  exact bel
def OfRel (B : Nat) (w : World) (N : Int) (nv sv : Value) (wr : World) : Prop := ∃ (m : Int) (ys : List Int), nv = .int .i64 m ∧ 0 ≤ m ∧ m ≤ 9223372036854775807 ∧ Dig ys ∧ val ys + 10000 ^ ys.length * m = N ∧ wr.ownsRow (B + 1) 3 1 sv ys.length (ints ys) ∧
 Below B w wr ∧ B < wr.heap.size ∧ (∀ o, wr.cell? ⟨B, o, none⟩ = (w.alloc (.cells #[.bool false, .slice none 0 0] 80)).cell? ⟨B, o, none⟩) ∧ (∀ o, wr.frozen? ⟨B, o, none⟩ = false) ∧ ys.length ≤ 5
theorem wholeOf_any (n : Int) (w : World) (h1 : -9223372036854775807 ≤ n) (h2 : n ≤ 9223372036854775807) :
  Calls Tryz.prog 53 #[.int .i64 n] w (NewW w n) := by
 obtain ⟨i0, hi, hz0, hz1, hz2⟩ := info_parts infoInt
 have hab : (n < 0 ∧ ab n = -n ∧ ngB n = true) ∨ (¬ n < 0 ∧ ab n = n ∧ ngB n = false) := by unfold ab ngB; by_cases h : n < 0 <;> simp [h] <;> omega
 obtain ⟨nb, hnb⟩ : ∃ nb : Bool, nb = ngB n := ⟨_, rfl⟩
 rcases hab with ⟨hneg, hA, hB⟩ | ⟨hneg, hA, hB⟩
 all_goals
  rw [hB] at hnb
  have HA := Lib.hid hA
  have HB := Lib.hid hB
  clear hA hB
  subst hnb
  have tok1 := trivial
  go_enter Tryz.func53, Tryz.ntmps53
  go_wp2_with fail
  go_loopw [0, 4] (fun nv sv wr => OfRel w.heap.size w (ab n) nv sv wr) (fun nv _ _ => (intOf nv).toNat)
  case atStart => exact ⟨_, [], rfl, by omega, by omega, Dig.nil, by simp [val, HA.out], World.ownsRow_nil _ _ _ _, by exact bel, by simp, fun _ => rfl, fun o => by go_simp, by simp⟩
  case round =>
   obtain ⟨m, ys, rfl, hm0, hm1, hd, hv, ho, hbel, hsz, hc, hfz, hl5⟩ := hrel
   have HD := Lib.hid hd
   have HV := Lib.hid hv
   have HO := Lib.hid ho
   clear hd hv ho
   by_cases hpos : 0 < m
   ·have hlen := of_small HD.out HV.out (by omega) (by have := HA.out; omega)
    have hq : m / 10000 < m := by omega
    go_wp2_with (first | (at_builtin; refine wpList_append_own _ rfl _ _ 78 rfl (w.heap.size + 1) 3 i0 (.int .i64 0) 1 8 Tryz.underlying78 hi hz0 hz1 hz2 rfl (by decide) _ _ _ rfl (HO.out.alloc _) ⟨wr.heap.size, 0, none⟩ 1 1 [_] rfl rfl (cell_one_new _ _ _) (by simp [Value.oneCell']) (by unfold maxLen; omega) (by omega) (by simp; omega) ?_; intro v1 w1 hv1 hg1 _))
    go_roundw
    case rel =>
     have e := grown_at HO.out hg1 hsz
     have hs2 := hg1.size
     simp only [World.size_alloc] at hs2
     exact ⟨m / 10000, ys ++ [m % 10000], rfl, by omega, by omega, HD.out.append (Dig.cons (by omega) Dig.nil), of_step HV.out, by simpa [ints] using hv1, grown_below hbel HO.out hg1 hsz, by omega, fun o => (World.cell?_of_block (a := ⟨_, o, none⟩) e).trans (hc o), fun o => (World.frozen?_of_block (a := ⟨_, o, none⟩) e).trans (hfz o), by simp; omega⟩
    case measure => simp [intOf]; omega
   ·have hE := Lib.hid (of_end (n := n) (by omega) HV.out)
    obtain ⟨a0, c0, rfl, hsx, hfr⟩ := Sx.of_owns HO.out
    have T1 : ∀ W, Below wr.heap.size wr W → Calls Tryz.prog 72 #[.bool (ngB n), .slice a0 ys.length c0] W (NewW W n) := fun W hW => by
     have := trimmed_any (ngB n) a0 ys.length c0 ys W (hsx.below hW) (by omega) HD.out
     rw [hE.out] at this
     exact this
    rw [HB.out] at T1
    have k0 := hc 0
    have k1 := hc 1
    simp [go_sem] at k0 k1
    clear hsx hfr hc
    go_wp2_with (first | (have _t := tok1; go_at_call 72; (with_reducible refine ((T1 _ bel)).mono ?_); rintro e w1 ⟨b1, a1, n1, c1, rfl, hv1, hf1, hb1⟩; clear tok1 _t; have hz1 := hb1.size; (try simp only [sA, sB, sC, sD] at hz1); (try (obtain ⟨kq, qe⟩ := cfAt hb1 (w.heap.size); have qc := kq 0; have qd := kq 1; clear kq; simp [go_sem, *] at qc qd qe)); (try have qf : w.heap.size < w1.heap.size := by omega)))
    refine bodyPost_ret (v := .agg #[.bool b1, .slice a1 n1 c1]) (by simp [results, Tryz.results53, go_sem, *]) rfl ⟨_, _, _, _, rfl, ⟨hv1.neg, ?_⟩, ?_, ?_⟩
    ·have hr1 := hv1.row
     (repeat' first | exact hr1 | refine Sx.set ?_ ?_ _ _ | refine Sx.alloc ?_ _ | refine Sx.drew ?_ | (intro A e; have := hf1 A e; (try simp only [sA, sB, sC, sD] at this); omega))
    ·(intro A e; have := hf1 A e; (try simp only [sA, sB, sC, sD] at this); omega)
    exact bel
def BoRel (B : Nat) (w : World) (N : Int) (sv nv : Value) (wr : World) : Prop := OfRel B w N nv sv wr
theorem bgOf_any (n : Int) (w : World) (h1 : -9223372036854775807 ≤ n) (h2 : n ≤ 9223372036854775807) :
  Calls Tryz.prog 102 #[.int .i64 n] w (NewW w n) := by
 obtain ⟨i0, hi, hz0, hz1, hz2⟩ := info_parts infoInt
 have hab : (n < 0 ∧ ab n = -n ∧ ngB n = true) ∨ (¬ n < 0 ∧ ab n = n ∧ ngB n = false) := by unfold ab ngB; by_cases h : n < 0 <;> simp [h] <;> omega
 rcases hab with ⟨hneg, hA, hB⟩ | ⟨hneg, hA, hB⟩
 all_goals
  have HA := Lib.hid hA
  have HB := Lib.hid hB
  have HAB := Lib.hid (show absI n = ab n from rfl)
  have ha1 : 0 ≤ absI n := absI_nonneg n
  have ha2 : absI n ≤ 9223372036854775807 := by rw [HAB.out, HA.out]; omega
  clear hA hB
  try (have hdec : decide (n < 0) = false := by simp; omega)
  have tok1 := trivial
  go_enter Tryz.func102, Tryz.ntmps102
  go_wp2_with (first | (go_at_call 44; refine (l1Abs_any _ _ h1 h2).mono ?_; rintro e w' ⟨rfl, rfl⟩))
  go_loopw [3, 4] (fun sv nv wr => BoRel w.heap.size w (ab n) sv nv wr) (fun _ nv _ => (intOf nv).toNat)
  case atStart => exact ⟨_, [], rfl, by omega, by omega, Dig.nil, by simp [val, HAB.out], World.ownsRow_nil _ _ _ _, by exact bel, by simp, fun _ => rfl, fun o => by go_simp, by simp⟩
  case round =>
   obtain ⟨m, ys, rfl, hm0, hm1, hd, hv, ho, hbel, hsz, hc, hfz, hl5⟩ := hrel
   have HD := Lib.hid hd
   have HV := Lib.hid hv
   have HO := Lib.hid ho
   clear hd hv ho
   by_cases hpos : 0 < m
   ·have hlen := of_small HD.out HV.out (by omega) (by have := HA.out; omega)
    have hq : m / 10000 < m := by omega
    go_wp2_with (first | (at_builtin; refine wpList_append_own _ rfl _ _ 78 rfl (w.heap.size + 1) 3 i0 (.int .i64 0) 1 8 Tryz.underlying78 hi hz0 hz1 hz2 rfl (by decide) _ _ _ rfl (HO.out.alloc _) ⟨wr.heap.size, 0, none⟩ 1 1 [_] rfl rfl (cell_one_new _ _ _) (by simp [Value.oneCell']) (by unfold maxLen; omega) (by omega) (by simp; omega) ?_; intro v1 w1 hv1 hg1 _))
    go_roundw
    case rel =>
     have e := grown_at HO.out hg1 hsz
     have hs2 := hg1.size
     simp only [World.size_alloc] at hs2
     exact ⟨m / 10000, ys ++ [m % 10000], rfl, by omega, by omega, HD.out.append (Dig.cons (by omega) Dig.nil), of_step HV.out, by simpa [ints] using hv1, grown_below hbel HO.out hg1 hsz, by omega, fun o => (World.cell?_of_block (a := ⟨_, o, none⟩) e).trans (hc o), fun o => (World.frozen?_of_block (a := ⟨_, o, none⟩) e).trans (hfz o), by simp; omega⟩
    case measure => simp [intOf]; omega
   ·have hE := Lib.hid (of_end (n := n) (by omega) HV.out)
    obtain ⟨a0, c0, rfl, hsx, hfr⟩ := Sx.of_owns HO.out
    have T1 : ∀ W, Below wr.heap.size wr W → Calls Tryz.prog 118 #[.bool (ngB n), .slice a0 ys.length c0] W (NewW W n) := fun W hW => by
     have := bgMake_any (ngB n) a0 ys.length c0 ys W (hsx.below hW) (by omega) HD.out
     rw [hE.out] at this
     exact this
    rw [HB.out] at T1
    have k0 := hc 0
    have k1 := hc 1
    simp [go_sem] at k0 k1
    clear hsx hfr hc
    go_wp2_with (first | (have _t := tok1; go_at_call 118; (with_reducible refine ((T1 _ bel)).mono ?_); rintro e w1 ⟨b1, a1, n1, c1, rfl, hv1, hf1, hb1⟩; clear tok1 _t; have hz1 := hb1.size; (try simp only [sA, sB, sC, sD] at hz1); (try (obtain ⟨kq, qe⟩ := cfAt hb1 (w.heap.size); have qc := kq 0; have qd := kq 1; clear kq; simp [go_sem, *] at qc qd qe)); (try have qf : w.heap.size < w1.heap.size := by omega)))
    refine bodyPost_ret (v := .agg #[.bool b1, .slice a1 n1 c1]) (by simp [results, Tryz.results102, go_sem, *]) rfl ⟨_, _, _, _, rfl, ⟨hv1.neg, ?_⟩, ?_, ?_⟩
    ·have hr1 := hv1.row
     (repeat' first | exact hr1 | refine Sx.set ?_ ?_ _ _ | refine Sx.alloc ?_ _ | refine Sx.drew ?_ | (intro A e; have := hf1 A e; (try simp only [sA, sB, sC, sD] at this); omega))
    ·(intro A e; have := hf1 A e; (try simp only [sA, sB, sC, sD] at this); omega)
    exact bel
end
section
open Go.RowKit
set_option linter.unusedVariables false
set_option maxHeartbeats 1000000
set_option maxRecDepth 20000
set_option linter.unusedSimpArgs false
def OvRel (W0 : World) (g : Nat) (d : Int) (zs : List Int) (n : Nat) (rv iv : Value) (wr : World) : Prop := ∃ (k : Nat) (rest : Int) (qs : List Int), rv = .int .i64 rest ∧ iv = .int .i64 ((k : Int) - 1) ∧ k ≤ n ∧ 0 ≤ rest ∧ rest < d ∧ qs.length = n ∧ Dig qs ∧
 val (zs.drop k) = d * val (qs.drop k) + rest ∧ RowW W0 wr g 3 qs
def NewQ (w : World) (z d : Int) (e : Ending) (w' : World) : Prop := ∃ b a n c, e = .returned (.tuple #[.agg #[.bool b, .slice a n c], .int .i64 (z % d)]) ∧ Wx w' b a n c (z / d) ∧ Fr w.heap.size a ∧ Below w.heap.size w w'
theorem bgOver_pos (a : Option Addr) (n c : Nat) (z d : Int) (w : World) (hs : Wx w false a n c z) (hl : n ≤ 100000) (hd : 1 ≤ d) (hd2 : d ≤ 100000000000000) :
  Calls Tryz.prog 116 #[.agg #[.bool false, .slice a n c], .int .i64 d] w (NewQ w z d) := by
 obtain ⟨i0, hi, hz0, hz1, hz2⟩ := info_parts infoInt
 have tok1 := trivial
 have tok2 := trivial
 go_enter Tryz.func116, Tryz.ntmps116
 go_wp2_with (first | (at_make; refine wpList_make_full _ rfl _ _ 78 rfl (w.heap.size + 2) 3 i0 (.int .i64 0) 1 Tryz.underlying78 hi hz0 hz1 .i64 .i64 _ _ n rfl rfl rfl rfl (by rw [hz2]; omega) (by unfold maxLen; omega) (by simp) ?_; intro W0 hm0 hg0; have hr0 := RowW.start hm0; have hb0 := made_below (B := w.heap.size) (a := w) bel hg0 (by simp; try omega); have hz0s := hg0.size; have e0 := fun o => World.cell?_of_block (a := ⟨w.heap.size, o, none⟩) (made_at hg0 (by simp; try omega)); have e1 := fun o => World.cell?_of_block (a := ⟨w.heap.size + 1, o, none⟩) (made_at hg0 (by simp; try omega)); have f0 := fun o => World.frozen?_of_block (a := ⟨w.heap.size, o, none⟩) (made_at hg0 (by simp; try omega)); have f1 := fun o => World.frozen?_of_block (a := ⟨w.heap.size + 1, o, none⟩) (made_at hg0 (by simp; try omega)); have kA := e0 0; have kB := e0 1; have kC := e1 0; have kD := e1 1; clear e0 e1 hm0 hg0; simp [go_sem] at kA kB kC kD f0 f1; simp only [World.size_alloc] at hr0 hz0s))
 have hnm : n ≤ maxLen := by unfold maxLen; omega
 have hln := Lib.hid hs.row.len
 have hng := Lib.hid hs.neg.symm
 go_loopw [7, 8] (fun rv iv wr => OvRel W0 (w.heap.size + 1 + 1) d (limbs (ab z)) n rv iv wr) (fun _ iv _ => (intOf iv + 1).toNat)
 case atStart => exact ⟨n, 0, List.replicate n 0, rfl, rfl, Nat.le_refl _, by omega, by omega, by simp, Dig.zeros n, by rw [List.drop_eq_nil_of_le (by have := hln.out; omega), List.drop_eq_nil_of_le (by simp)]; simp [val], hr0⟩
 case round =>
  obtain ⟨k, rest, qs, rfl, rfl, hk, hr1, hr2, hqn, hqd, hqv, hrow⟩ := hrel
  have kA1 := (hrow.only.cell (b := w.heap.size) (by omega) 0).trans kA
  have kB1 := (hrow.only.cell (b := w.heap.size) (by omega) 1).trans kB
  have HQ := Lib.hid hqv
  have HL := Lib.hid hqn
  by_cases h0 : 0 < k
  ·obtain ⟨b, off, rfl, hb, hcs⟩ := hs.row.at (by omega)
   have hcell := (hrow.only.cell (b := b) (by omega) (off + (k - 1))).trans ((hb0.cell (p := ⟨b, off + (k - 1), none⟩) hb).trans (hcs (k - 1) (by omega)))
   have hdz := (limbs_dig (ab z)).getD (k - 1)
   have hg1 := hrow.cell (j := k - 1) (by omega)
   have hg2 := hrow.free (k - 1)
   have HS := Lib.hid (fun (y x : Int) (e : rest * 10000 + (limbs (ab z)).getD (k - 1) 0 = d * y + x) => div_step (a := limbs (ab z)) (q := qs) (n := d) (rest := rest) (x := x) (y := y) (i := k - 1) (by have := hln.out; omega) (by have := hln.out; have := HL.out; omega) (by rw [show k - 1 + 1 = k by omega]; exact HQ.out) e)
   rw [List.getD_eq_getElem?_getD] at hdz HS
   have hdd := div_digit hd ⟨hr1, hr2⟩ hdz
   have hmm := Int.emod_nonneg (rest * 10000 + (limbs (ab z))[k - 1]?.getD 0) (b := d) (by omega)
   have hml := Int.emod_lt_of_pos (rest * 10000 + (limbs (ab z))[k - 1]?.getD 0) (b := d) (by omega)
   have HE := Lib.hid (show rest * 10000 + (limbs (ab z))[k - 1]?.getD 0 = d * ((rest * 10000 + (limbs (ab z))[k - 1]?.getD 0) / d) + (rest * 10000 + (limbs (ab z))[k - 1]?.getD 0) % d by have := Int.emod_add_mul_ediv (rest * 10000 + (limbs (ab z))[k - 1]?.getD 0) d; omega)
   clear hcs hqv hqn
   go_wp2_with fail
   go_roundw
   case rel => exact ⟨k - 1, _, qs.set (k - 1) _, rfl, by congr 1; omega, by omega, hmm, hml, by simp [HL.out], hqd.set _ hdd, HS.out _ _ HE.out, hrow.set _ _⟩
   case measure => simp [intOf]; omega
  ·obtain rfl : k = 0 := by omega
   have HA := Lib.hid (div_all hd hng.out ⟨hr1, hr2⟩ HQ.out)
   have T1 : ∀ W, Below wr.heap.size wr W → Calls Tryz.prog 118 #[.bool false, .slice (some ⟨w.heap.size + 1 + 1, 0, none⟩) n n] W (NewW W (z / d)) := fun W hW => by
    have := bgMake_any false _ n n qs W ((hrow.sx hqn hnm).below hW) (by omega) hqd
    rw [HA.out.1] at this
    exact this
   have hbw := hrow.below hb0 (by omega)
   have hsz := hrow.size
   have kC1 := (hrow.only.cell (b := w.heap.size + 1) (by omega) 0).trans kC
   have kD1 := (hrow.only.cell (b := w.heap.size + 1) (by omega) 1).trans kD
   have fC1 := fun o => (hrow.only.froz (b := w.heap.size + 1) (by omega) o).trans (f1 o)
   clear hqv hqn hrow
   go_wp2_with (first | (have _t := tok1; go_at_call 118; (with_reducible refine ((T1 _ bel)).mono ?_); rintro e w1 ⟨b1, a1, n1, c1, rfl, hv1, hf1, hb1⟩; clear tok1 _t; have hz1 := hb1.size; (try simp only [sA, sB, sC, sD] at hz1); (try (obtain ⟨kq, qg⟩ := cfAt hb1 (w.heap.size); have qc := kq 0; have qd := kq 1; clear kq; simp [go_sem, *] at qc qd qg)); (try have qi : w.heap.size < w1.heap.size := by omega); (try (obtain ⟨kq, qh⟩ := cfAt hb1 (w.heap.size + 1); have qe := kq 0; have qf := kq 1; clear kq; simp [go_sem, *] at qe qf qh)); (try have qj : w.heap.size + 1 < w1.heap.size := by omega)))
   refine bodyPost_ret (v := .tuple #[.agg #[.bool b1, .slice a1 n1 c1], .int .i64 rest]) (by simp [results, Tryz.results116, go_sem, *]) rfl ⟨_, _, _, _, by rw [← HA.out.2], ⟨hv1.neg, ?_⟩, ?_, ?_⟩
   ·have hr1 := hv1.row
    (repeat' first | exact hr1 | refine Sx.set ?_ ?_ _ _ | refine Sx.alloc ?_ _ | refine Sx.drew ?_ | (intro A e; have := hf1 A e; (try simp only [sA, sB, sC, sD] at this); omega))
   ·(intro A e; have := hf1 A e; (try simp only [sA, sB, sC, sD] at this); omega)
   exact bel
end
section
open Go.RowKit
set_option linter.unusedVariables false
set_option maxHeartbeats 1000000
set_option maxRecDepth 20000
set_option linter.unusedSimpArgs false
theorem bgLimb_any (a : Option Addr) (n c : Nat) (zs : List Int) (i : Int) (w : World) (hs : Sx w a n c zs) (h0 : 0 ≤ i) (hl : n ≤ 1000000) :
  Calls Tryz.prog 119 #[.slice a n c, .int .i64 i] w fun e w' => e = .returned (.int .i64 (zs.getD i.toNat 0)) ∧ w = w' := by
 obtain ⟨j, rfl⟩ : ∃ j : Nat, i = j := ⟨i.toNat, by omega⟩
 have hln := hs.len
 by_cases h : j < n
 ·obtain ⟨b, off, rfl, hb, hcs⟩ := hs.at (by omega)
  have hc := hcs j h
  have HZ := Lib.hid (List.getD_eq_getElem?_getD (l := zs) (i := j) (a := 0))
  clear hcs hln hs
  go_enter Tryz.func119, Tryz.ntmps119
  go_wp2
  go_ret
  exact ⟨ret_int (by rw [Int.toNat_natCast, HZ.out]), rfl⟩
 ·have HZ := Lib.hid (show zs.getD j 0 = 0 from gD_ge (by omega))
  clear hln
  go_enter Tryz.func119, Tryz.ntmps119
  go_wp2
  go_ret
  exact ⟨ret_int (by rw [Int.toNat_natCast, HZ.out]), rfl⟩
def BtRel (w : World) (g : Nat) (z : Int) (bv : Value) (wr : World) : Prop := ∃ (bits : Nat) (y : Int) (a : Option Addr) (n c : Nat), bv = .int .i64 bits ∧ 0 ≤ y ∧ y ≤ z ∧ bits + bl y = bl z ∧
 wr.heap[g]? = some (.cells #[.bool false, .slice a n c] 80 (0, 0)) ∧ Wx wr false a n c y ∧ Below w.heap.size w wr
def B2Rel (z : Int) (bv nv : Value) : Prop := ∃ (bits : Nat) (y : Int), bv = .int .i64 bits ∧ nv = .int .i64 y ∧ 0 ≤ y ∧ y ≤ 9223372036854775807 ∧ bits + bl y = bl z
theorem bgBits_any (b : Bool) (a : Option Addr) (n c : Nat) (z : Int) (w : World) (hs : Wx w b a n c z) (hl : n ≤ 10000) :
  Calls Tryz.prog 100 #[.agg #[.bool b, .slice a n c]] w fun e w' => e = .returned (.int .i64 (bl (ab z))) ∧ Below w.heap.size w w' := by
 have T1 : ∀ W, Below w.heap.size w W → Calls Tryz.prog 118 #[.bool false, .slice a n c] W (NewW W (ab z)) := fun W hW => by
  have := bgMake_any false a n c (limbs (ab z)) W (hs.row.below hW) (by omega) (limbs_dig _)
  rw [limbs_val (ab_nonneg z), mkW_abs] at this
  exact this
 have hz := ab_nonneg z
 have hln : (limbs (ab z)).length = n := hs.row.len
 have hbb := bl_len (ab z)
 generalize ab z = y0 at *
 have tok1 := trivial
 have tok2 := trivial
 have tok3 := trivial
 go_enter Tryz.func100, Tryz.ntmps100
 go_wp2_with (first | (have _t := tok1; go_at_call 118; (with_reducible refine ((T1 _ bel)).mono ?_); rintro e w1 ⟨b1, a1, n1, c1, rfl, hv1, hf1, hb1⟩; clear tok1 _t; have hz1 := hb1.size; (try simp only [sA, sB, sC, sD] at hz1); (try (obtain ⟨kq, qe⟩ := cfAt hb1 (w.heap.size); have qc := kq 0; have qd := kq 1; clear kq; simp [go_sem, *] at qc qd qe)); (try have qj : w.heap.size < w1.heap.size := by omega)))
 obtain rfl : b1 = false := by rw [hv1.neg]; simp [ngB]; omega
 have hgl := hb1.size
 have hg0 : w.heap.size < w1.heap.size := by simp only [World.size_alloc] at hgl; omega
 generalize hgx : w1.heap.size = gx at *
 go_loopw [3] (fun bv wr => BtRel w gx y0 bv wr) (fun bv _ => bl y0 + 1 - (intOf bv).toNat)
 case atStart =>
  refine ⟨0, y0, a1, n1, c1, rfl, hz, Int.le_refl _, by omega, ?_, ⟨hv1.neg, hv1.row.alloc _⟩, ?_⟩
  ·rw [← hgx]; exact heap_alloc_new _ _
  ·exact bel
 case round =>
  obtain ⟨bits, y, a2, n2, c2, rfl, hy0, hy1, hbl, hrow, hwx, hbw⟩ := hrel
  have HB := Lib.hid hbl
  have hbits : bits ≤ 140000 := by omega
  have k0 : wr.cell? ⟨gx, 0, none⟩ = some (.bool false) := blk_cell hrow 0
  have k1 : wr.cell? ⟨gx, 1, none⟩ = some (.slice a2 n2 c2) := blk_cell hrow 1
  have f0 := fun o => blk_frozen hrow o
  have lg := blk_lt hrow
  have HR := Lib.hid hrow
  have hl2 : n2 ≤ 10000 := by
   have h1 := hwx.row.len
   have h2 := limbs_len.2 (Int.lt_of_le_of_lt hy1 (limbs_len.1 (Nat.le_refl (limbs y0).length)))
   rw [ab_pos hy0] at h1
   omega
  have hlen := hwx.row.len
  rw [ab_pos hy0] at hlen
  have HL := Lib.hid hlen
  clear hbl hrow hlen hs hv1 hf1 hb1 T1
  by_cases h1 : 1 < n2
  ·have hbig : 10000 ≤ y := by
    rcases Int.lt_or_le y 10000 with h | h
    ·have h3 := (limbs_len (n := y) (k := 1)).2 (by omega)
     have h4 := HL.out
     omega
    ·exact h
   have HS := Lib.hid (bl_shift 12 y (by omega))
   have T2 : ∀ W, W = wr → Calls Tryz.prog 116 #[.agg #[.bool false, .slice a2 n2 c2], .int .i64 4096] W (NewQ W y 4096) := fun W hW => by subst hW; exact bgOver_pos a2 n2 c2 y 4096 W hwx (by omega) (by omega) (by omega)
   go_wp2_with (first | (have _t := tok2; go_at_call 116; (with_reducible refine ((T2 _ rfl)).mono ?_); rintro e w2 ⟨b2, a3, n3, c3, rfl, hv2, hf2, hb2⟩; clear tok2 _t; have hz2 := hb2.size; (try simp only [sA, sB, sC, sD] at hz2); (try (obtain ⟨kq, qk⟩ := cfAt hb2 (w.heap.size); have qf := kq 0; have qg := kq 1; clear kq; simp [go_sem, *] at qf qg qk)); (try have qo : w.heap.size < w2.heap.size := by omega); (try (obtain ⟨kq, ql⟩ := cfAt hb2 (gx); have qh := kq 0; have qi := kq 1; clear kq; simp [go_sem, *] at qh qi ql)); (try have qq : gx < w2.heap.size := by omega); (try clear qc qd qe); (try clear qj); (try clear qm qn qr); (try clear qt); obtain rfl : b2 = false := (by rw [hv2.neg]; simp [ngB]; omega)))
   go_roundw
   case rel =>
    have e12 : (2 : Int) ^ 12 = 4096 := by decide
    have h5 := HS.out
    rw [e12] at h5
    have h6 := HB.out
    have hr2 : w2.heap[gx]? = some (.cells #[.bool false, .slice a2 n2 c2] 80 (0, 0)) := (hb2.block gx lg).trans HR.out
    refine ⟨bits + 12, y / 4096, a3, n3, c3, by go_num, by omega, by omega, by omega, ?_, ⟨hv2.neg, ?_⟩, ?_⟩
    ·simpa using blk_set (o := 1) (v := .slice a3 n3 c3) (blk_set (o := 0) (v := .bool false) hr2)
    ·have hr1 := hv2.row
     (repeat' first | exact hr1 | refine Sx.set ?_ ?_ _ _ | refine Sx.alloc ?_ _ | refine Sx.drew ?_ | (intro A e; have := hf2 A e; (try simp only [sA, sB, sC, sD] at this); omega))
    ·exact bel
   case measure =>
    have e12 : (2 : Int) ^ 12 = 4096 := by decide
    have h5 := HS.out
    rw [e12] at h5
    have h6 := HB.out
    simp [intOf]; omega
  ·have hy4 : y < 10000 := by
    have h3 := (limbs_len (n := y) (k := 1)).1 (by have := HL.out; omega)
    omega
   have T3 : ∀ W, W = wr → Calls Tryz.prog 119 #[.slice a2 n2 c2, .int .i64 0] W fun e w' => e = .returned (.int .i64 y) ∧ W = w' := fun W hW => by
    subst hW
    have := bgLimb_any a2 n2 c2 (limbs (ab y)) 0 W hwx.row (by omega) (by omega)
    rw [ab_pos hy0, show (0 : Int).toNat = 0 from rfl, limb0 hy0 (by have := HL.out; omega)] at this
    exact this
   go_wp2_with (first | (go_at_call 119; (with_reducible refine ((T3 _ rfl)).mono ?_); rintro e w' ⟨rfl, rfl⟩))
   go_loop [3, 5] (fun bv nv => B2Rel y0 bv nv) (fun _ nv => (intOf nv).toNat)
   case atStart => exact ⟨bits, y, rfl, rfl, hy0, by omega, HB.out⟩
   case round =>
    obtain ⟨bt, x, rfl, rfl, hx0, hx1, hbt⟩ := hrel
    have HX := Lib.hid hbt
    have hbts : bt ≤ 140000 := by omega
    clear hbt
    by_cases hx : 0 < x
    ·have HS := Lib.hid (bl_half hx)
     go_wp2_with fail
     go_round
     case rel => exact ⟨bt + 1, x / 2, by go_num, rfl, by omega, by omega, by have := HX.out; have := HS.out; omega⟩
     case measure => simp [intOf]; omega
    ·have HS := Lib.hid (bl_zero (n := x) (by omega))
     go_wp2_with fail
     go_ret
     refine ⟨ret_int (by have := HX.out; have := HS.out; omega), ?_⟩
     exact bel
end
end Go.Proofs.YtnkmgpmehkholaaGreat
