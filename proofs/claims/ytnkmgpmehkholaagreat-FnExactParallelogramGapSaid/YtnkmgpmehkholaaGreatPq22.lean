/- Lemmas and contracts of functions. No condition. -/
import Derived.Test.YtnkmgpmehkholaaGreatPq12
import Derived.Test.YtnkmgpmehkholaaGreatPq19
import Derived.IntWalk
namespace Go.Proofs.YtnkmgpmehkholaaGreat
section
open Go.RowKit
set_option linter.unusedVariables false
set_option maxHeartbeats 1000000
set_option maxRecDepth 20000
set_option linter.unusedSimpArgs false
attribute [local go_sem] openAt openUpon
def cmpI (x y : Int) : Int := if x < y then -1 else if y < x then 1 else 0
theorem cmp_lt {x y : Int} (h : x < y) : cmpI x y = -1 := by simp [cmpI, h]
theorem cmp_gt {x y : Int} (h : y < x) : cmpI x y = 1 := by simp [cmpI, h]; omega
theorem cmp_eq {x y : Int} (h : x = y) : cmpI x y = 0 := by subst h; simp [cmpI]
/-- a contract whose value is a slice of digits of the number V -/
def NewD (w : World) (V : Int) (m : Nat) (e : Ending) (w' : World) : Prop := ∃ a n c zs, e = .returned (.slice a n c) ∧ Sx w' a n c zs ∧ Dig zs ∧ val zs = V ∧ n ≤ m ∧ Fr w.heap.size a ∧ Below w.heap.size w w'
def openD (B : Nat) (V : Int) (m : Nat) : St where
 ok v W := ∃ a n c zs, v = .slice a n c ∧ Sx W a n c zs ∧ Dig zs ∧ val zs = V ∧ n ≤ m ∧ Fr B a
 keep v W W2 h hb := by
  obtain ⟨a, n, c, zs, h1, h2, h3⟩ := h
  exact ⟨a, n, c, zs, h1, h2.below hb, h3⟩
def openW (B : Nat) (z : Int) : St where
 ok v W := ∃ b a n c, v = .agg #[.bool b, .slice a n c] ∧ Wx W b a n c z ∧ Fr B a
 keep v W W2 h hb := by
  obtain ⟨b, a, n, c, h1, h2, h3⟩ := h
  exact ⟨b, a, n, c, h1, h2.below hb, h3⟩
theorem open_D {P : Program} {f : FuncId} {args : Array Value} {W : World} {V : Int} {m B : Nat} (h : Calls P f args W (NewD W V m)) (hB : B ≤ W.heap.size) : Calls P f args W fun e w' => ∃ v, e = .returned v ∧ (openD B V m).ok v w' ∧ Below W.heap.size W w' :=
 h.mono fun e w' ⟨a, n, c, zs, h1, h2, h3, h4, h5, h6, h7⟩ => ⟨_, h1, ⟨a, n, c, zs, rfl, h2, h3, h4, h5, h6.mono hB⟩, h7⟩
theorem open_W {P : Program} {f : FuncId} {args : Array Value} {W : World} {z : Int} {B : Nat} (h : Calls P f args W (NewW W z)) (hB : B ≤ W.heap.size) : Calls P f args W fun e w' => ∃ v, e = .returned v ∧ (openW B z).ok v w' ∧ Below W.heap.size W w' :=
 h.mono fun e w' ⟨b, a, n, c, h1, h2, h3, h4⟩ => ⟨_, h1, ⟨b, a, n, c, rfl, h2, h3.mono hB⟩, h4⟩
theorem Wx.ln {W : World} {b : Bool} {a : Option Addr} {n c : Nat} {z : Int} (h : Wx W b a n c z) : n = ln z := h.row.len.symm
theorem grown_below0 {w wr w1 : World} {X : Obj} {sv : Value} {B n : Nat} {xs : List Value} {T : TypeId} (hb : Below B w wr) (ho : wr.ownsRow B T 1 sv n xs) (hg : (wr.alloc X).grownBy w1 sv.ownBlock) (hB : B ≤ wr.heap.size) : Below B w w1 :=
 (hb.alloc (by omega) X).grown hg (by simp; omega) (fun k e => by have := ho.lt k e; omega)
def OrRel (zs ys : List Int) (m : Nat) (iv : Value) : Prop := ∃ k : Nat, iv = .int .i64 ((k : Int) - 1) ∧ k ≤ m ∧ val (zs.drop k) = val (ys.drop k)
theorem bgOrder_any (a a2 : Option Addr) (n c n2 c2 : Nat) (zs ys : List Int) (w : World) (hs : Sx w a n c zs) (hs2 : Sx w a2 n2 c2 ys) (hd : Dig zs) (hd2 : Dig ys) (hl : n ≤ 1000000) (hl2 : n2 ≤ 1000000) :
  Calls Tryz.prog 130 #[.slice a n c, .slice a2 n2 c2] w fun e w' => e = .returned (.int .i64 (cmpI (val zs) (val ys))) ∧ w = w' := by
 obtain ⟨m, hm⟩ : ∃ m, m = max n n2 := ⟨_, rfl⟩
 have T0 : ∀ W : World, Calls Tryz.prog 69 #[.int .i64 n, .int .i64 n2] W fun e w' => e = .returned (.int .i64 (m : Int)) ∧ W = w' := fun W => by
  have := l1Most_any n n2 W
  rwa [most_eq, show max (n : Int) (n2 : Int) = (m : Int) by omega] at this
 have hmb : m ≤ 1000000 := by omega
 have HL := Lib.hid hs.len
 have HL2 := Lib.hid hs2.len
 have hm1 : n ≤ m := by omega
 have hm2 : n2 ≤ m := by omega
 have T1 := fun (i : Int) (W : World) (hi : 0 ≤ i) (e : W = w) => bgLimb_any a n c zs i W (e ▸ hs) hi hl
 have T2 := fun (i : Int) (W : World) (hi : 0 ≤ i) (e : W = w) => bgLimb_any a2 n2 c2 ys i W (e ▸ hs2) hi hl2
 clear hm hs hs2
 go_enter Tryz.func130, Tryz.ntmps130
 go_wp2_with (first | (go_at_call 69; (with_reducible refine ((T0 _)).mono ?_); rintro e w' ⟨rfl, rfl⟩) | (go_at_call 119; (with_reducible refine ((T1 _ rfl)).mono ?_); rintro e w' ⟨rfl, rfl⟩) | (go_at_call 119; (with_reducible refine ((T2 _ rfl)).mono ?_); rintro e w' ⟨rfl, rfl⟩))
 go_loop [5] (fun iv => OrRel zs ys m iv) (fun iv => (intOf iv + 1).toNat)
 case atStart => exact ⟨m, rfl, Nat.le_refl _, by rw [List.drop_eq_nil_of_le (by have := HL.out; omega), List.drop_eq_nil_of_le (by have := HL2.out; omega)]⟩
 case round =>
  obtain ⟨k, rfl, hk, hv⟩ := hrel
  have HV := Lib.hid hv
  clear hv
  by_cases h0 : 0 < k
  ·replace T1 := fun (W : World) (e : W = w) => T1 ((k : Int) - 1) W (by omega) e
   replace T2 := fun (W : World) (e : W = w) => T2 ((k : Int) - 1) W (by omega) e
   have ek : ((k : Int) - 1).toNat = k - 1 := by omega
   rw [ek] at T1 T2
   clear ek
   have HV1 := Lib.hid (show val (zs.drop (k - 1 + 1)) = val (ys.drop (k - 1 + 1)) by rw [show k - 1 + 1 = k by omega]; exact HV.out)
   have C1 := Lib.hid (fun h => cmp_hi hd hd2 HV1.out h)
   have C2 := Lib.hid (fun h => cmp_hi hd2 hd HV1.out.symm h)
   have C3 := Lib.hid (fun h => drop_eq_step HV1.out h)
   generalize zs.getD (k - 1) 0 = x at *
   generalize ys.getD (k - 1) 0 = y at *
   rcases Int.lt_trichotomy x y with h | h | h
   ·go_wp2_with (first | (go_at_call 69; (with_reducible refine ((T0 _)).mono ?_); rintro e w' ⟨rfl, rfl⟩) | (go_at_call 119; (with_reducible refine ((T1 _ rfl)).mono ?_); rintro e w' ⟨rfl, rfl⟩) | (go_at_call 119; (with_reducible refine ((T2 _ rfl)).mono ?_); rintro e w' ⟨rfl, rfl⟩))
    go_ret
    exact ⟨ret_int (cmp_lt (C1.out h)).symm, rfl⟩
   ·have HX := Lib.hid h
    have hx1 : ¬ x < y := by omega
    have hx2 : ¬ y < x := by omega
    clear h
    go_wp2_with (first | (go_at_call 69; (with_reducible refine ((T0 _)).mono ?_); rintro e w' ⟨rfl, rfl⟩) | (go_at_call 119; (with_reducible refine ((T1 _ rfl)).mono ?_); rintro e w' ⟨rfl, rfl⟩) | (go_at_call 119; (with_reducible refine ((T2 _ rfl)).mono ?_); rintro e w' ⟨rfl, rfl⟩))
    go_round
    case rel => exact ⟨k - 1, by congr 1; omega, by omega, C3.out HX.out⟩
    case measure => simp [intOf]; omega
   ·have hx1 : ¬ x < y := by omega
    go_wp2_with (first | (go_at_call 69; (with_reducible refine ((T0 _)).mono ?_); rintro e w' ⟨rfl, rfl⟩) | (go_at_call 119; (with_reducible refine ((T1 _ rfl)).mono ?_); rintro e w' ⟨rfl, rfl⟩) | (go_at_call 119; (with_reducible refine ((T2 _ rfl)).mono ?_); rintro e w' ⟨rfl, rfl⟩))
    go_ret
    exact ⟨ret_int (cmp_gt (C2.out h)).symm, rfl⟩
  ·obtain rfl : k = 0 := by omega
   go_wp2_with (first | (go_at_call 69; (with_reducible refine ((T0 _)).mono ?_); rintro e w' ⟨rfl, rfl⟩) | (go_at_call 119; (with_reducible refine ((T1 _ rfl)).mono ?_); rintro e w' ⟨rfl, rfl⟩) | (go_at_call 119; (with_reducible refine ((T2 _ rfl)).mono ?_); rintro e w' ⟨rfl, rfl⟩))
   go_ret
   exact ⟨ret_int (cmp_eq (by simpa using HV.out)).symm, rfl⟩
def CbRel (w : World) (zs ys : List Int) (s : Int) (m : Nat) (sv cv iv : Value) (wr : World) : Prop := ∃ (i : Nat) (qs : List Int) (c : Int), iv = .int .i64 i ∧ cv = .int .i64 c ∧ qs.length = i ∧ i ≤ m + 1 ∧ Dig qs ∧ (s - 1 ≤ 2 * c ∧ 2 * c ≤ s + 1) ∧
 val qs + 10000 ^ i * c = val (zs.take i) + s * val (ys.take i) ∧ (m < i → c = 0) ∧ wr.ownsRow w.heap.size 3 1 sv i (ints qs) ∧ Below w.heap.size w wr
theorem cb_last {zs ys qs : List Int} {s c : Int} {i n : Nat} (hd : Dig qs) (hq : qs.length = i) (h : val qs + 10000 ^ i * c = val (zs.take i) + s * val (ys.take i)) (h1 : zs.length ≤ i) (h2 : ys.length ≤ i) (hc : s - 1 ≤ 2 * c ∧ 2 * c ≤ s + 1) (hs : s = 1 ∨ s = -1) (hge : s = -1 → val ys ≤ val zs) : s = -1 → c = 0 := by
 intro e
 subst e
 have := hge rfl
 rw [val_take_all _ _ h1, val_take_all _ _ h2] at h
 have h3 := val_lt hd
 rw [hq] at h3
 have hp := p4_pos i
 rcases Int.lt_or_le c 0 with hc0 | hc0
 ·exfalso
  have := Int.mul_le_mul_of_nonneg_left (show c ≤ -1 by omega) (show (0 : Int) ≤ 10000 ^ i by omega)
  omega
 ·omega
theorem cb_next {w wr w1 : World} {zs ys qs : List Int} {s c r c' : Int} {m i : Nat} {v1 sv : Value} {X : Obj} (hq : qs.length = i) (hd : Dig qs) (hv : val qs + 10000 ^ i * c = val (zs.take i) + s * val (ys.take i)) (him : i ≤ m) (hz : zs.length ≤ m) (hy : ys.length ≤ m) (hs : s = 1 ∨ s = -1) (hge : s = -1 → val ys ≤ val zs) (hc : s - 1 ≤ 2 * c ∧ 2 * c ≤ s + 1)
  (hx : zs.getD i 0 + s * ys.getD i 0 + c = r + 10000 * c') (hr : 0 ≤ r ∧ r ≤ 9999) (hc' : s - 1 ≤ 2 * c' ∧ 2 * c' ≤ s + 1) (ho : wr.ownsRow w.heap.size 3 1 sv i (ints qs)) (hbw : Below w.heap.size w wr) (hg : (wr.alloc X).grownBy w1 sv.ownBlock) (hv1 : w1.ownsRow w.heap.size 3 1 v1 (i + 1) (ints qs ++ [.int .i64 r])) :
  CbRel w zs ys s m v1 (.int .i64 c') (.int .i64 ((i : Int) + 1)) w1 := by
 refine ⟨i + 1, qs ++ [r], c', by push_cast; rfl, rfl, by simp [hq], by omega, hd.append (Dig.cons hr Dig.nil), hc', sum_step hv hq (by omega) hx, fun hm => ?_, by rw [ints_append, ints_one]; exact hv1, grown_below0 hbw ho hg hbw.size⟩
 have e : i = m := by omega
 subst e
 rw [gD_ge hz, gD_ge hy] at hx
 have h0 := cb_last (n := 0) hd hq hv hz hy hc hs hge
 rcases hs with rfl | rfl
 ·omega
 ·have := h0 rfl
  omega
theorem bgCombine_any (a a2 : Option Addr) (n c n2 c2 m : Nat) (s : Int) (zs ys : List Int) (w : World) (hs : Sx w a n c zs) (hs2 : Sx w a2 n2 c2 ys) (hd : Dig zs) (hd2 : Dig ys) (hm1 : n ≤ m) (hm2 : n2 ≤ m) (hmb : m ≤ 100000) (hsg : s = 1 ∨ s = -1) (hge : s = -1 → val ys ≤ val zs) :
  Calls Tryz.prog 129 #[.slice a n c, .slice a2 n2 c2, .int .i64 s] w (NewD w (val zs + s * val ys) (m + 1)) := by
 obtain ⟨i0, hi, hz0, hz1, hz2⟩ := info_parts infoInt
 have HL := Lib.hid hs.len
 have HL2 := Lib.hid hs2.len
 have T1 := fun (i : Int) (W : World) (hi : 0 ≤ i) (h : Below w.heap.size w W) => bgLimb_any a n c zs i W (hs.below h) hi (by omega)
 have T2 := fun (i : Int) (W : World) (hi : 0 ≤ i) (h : Below w.heap.size w W) => bgLimb_any a2 n2 c2 ys i W (hs2.below h) hi (by omega)
 clear hs hs2
 have HG := Lib.hid hge
 clear hge
 rcases hsg with rfl | rfl
 ·go_enter Tryz.func129, Tryz.ntmps129
  go_wp2_with fail
  go_loopw [7, 8, 9] (fun sv cv iv wr => CbRel w zs ys 1 m sv cv iv wr) (fun _ _ iv _ => m + 1 - (intOf iv).toNat)
  case atStart => exact ⟨0, [], 0, rfl, rfl, rfl, by omega, Dig.nil, by omega, by simp [val], fun _ => rfl, World.ownsRow_nil _ _ _ _, Below.refl _ _⟩
  case round =>
   obtain ⟨i, qs, cc, rfl, rfl, hq, hi1, hqd, hc, hv, he, ho, hbw⟩ := hrel
   have HQ := Lib.hid hq
   have HV := Lib.hid hv
   have HO := Lib.hid ho
   have HE := Lib.hid he
   have hsw := hbw.size
   have hcb : -1 ≤ cc ∧ cc ≤ 1 := by omega
   by_cases hgo : i < n ∨ i < n2 ∨ cc ≠ 0
   ·have him : i ≤ m := by
     rcases Nat.lt_or_ge m i with h | h
     ·have := he h
      omega
     ·exact h
    have hi0 : (0 : Int) ≤ (i : Int) := by omega
    replace T1 := fun (W : World) (h : Below w.heap.size w W) => T1 (i : Int) W hi0 h
    replace T2 := fun (W : World) (h : Below w.heap.size w W) => T2 (i : Int) W hi0 h
    rw [Int.toNat_natCast] at T1 T2
    have dz := hd.getD i
    have dy := hd2.getD i
    have HN := Lib.hid (fun (w1 : World) (v1 sv : Value) (r c' : Int) (X : Obj) (h1 : _) (h2 : _) (h3 : _) (h4 : _) (h5 : _) (h6 : _) => cb_next (s := 1) (w := w) (w1 := w1) (v1 := v1) (sv := sv) (X := X) (r := r) (c' := c') HQ.out hqd HV.out him (by have := HL.out; omega) (by have := HL2.out; omega) (by omega) (fun e => HG.out (by first | trivial | exact e | omega)) hc h1 h2 h3 h4 hbw h5 h6)
    clear hv ho hq he hd hd2 HE hqd HV
    generalize zs.getD i 0 = x at *
    generalize ys.getD i 0 = y at *
    by_cases hA : i < n
    ·clear hgo
     go_wp2_with (first | (go_at_call 119; (with_reducible refine ((T1 _ bel)).mono ?_); rintro e w' ⟨rfl, rfl⟩) | (go_at_call 119; (with_reducible refine ((T2 _ bel)).mono ?_); rintro e w' ⟨rfl, rfl⟩) | (at_builtin; refine wpList_append_own _ rfl _ _ 78 rfl w.heap.size 3 i0 (.int .i64 0) 1 8 Tryz.underlying78 hi hz0 hz1 hz2 rfl (by decide) _ _ _ rfl (HO.out.alloc _) ⟨wr.heap.size, 0, none⟩ 1 1 [_] rfl rfl (cell_one_new _ _ _) (by simp [Value.oneCell']) (by unfold maxLen; omega) (by omega) (by simp; omega) ?_; intro v1 w1 hv1 hg1 _))
     all_goals
      go_roundw
      case rel => exact HN.out _ _ _ _ _ _ (by omega) (by omega) (by omega) HO.out hg1 hv1
      case measure => simp [intOf]; omega
    ·by_cases hB : i < n2
     ·clear hgo
      go_wp2_with (first | (go_at_call 119; (with_reducible refine ((T1 _ bel)).mono ?_); rintro e w' ⟨rfl, rfl⟩) | (go_at_call 119; (with_reducible refine ((T2 _ bel)).mono ?_); rintro e w' ⟨rfl, rfl⟩) | (at_builtin; refine wpList_append_own _ rfl _ _ 78 rfl w.heap.size 3 i0 (.int .i64 0) 1 8 Tryz.underlying78 hi hz0 hz1 hz2 rfl (by decide) _ _ _ rfl (HO.out.alloc _) ⟨wr.heap.size, 0, none⟩ 1 1 [_] rfl rfl (cell_one_new _ _ _) (by simp [Value.oneCell']) (by unfold maxLen; omega) (by omega) (by simp; omega) ?_; intro v1 w1 hv1 hg1 _))
      all_goals
       go_roundw
       case rel => exact HN.out _ _ _ _ _ _ (by omega) (by omega) (by omega) HO.out hg1 hv1
       case measure => simp [intOf]; omega
     ·have hC : (cc != 0) = true := by simp; omega
      clear hgo
      go_wp2_with (first | (go_at_call 119; (with_reducible refine ((T1 _ bel)).mono ?_); rintro e w' ⟨rfl, rfl⟩) | (go_at_call 119; (with_reducible refine ((T2 _ bel)).mono ?_); rintro e w' ⟨rfl, rfl⟩) | (at_builtin; refine wpList_append_own _ rfl _ _ 78 rfl w.heap.size 3 i0 (.int .i64 0) 1 8 Tryz.underlying78 hi hz0 hz1 hz2 rfl (by decide) _ _ _ rfl (HO.out.alloc _) ⟨wr.heap.size, 0, none⟩ 1 1 [_] rfl rfl (cell_one_new _ _ _) (by simp [Value.oneCell']) (by unfold maxLen; omega) (by omega) (by simp; omega) ?_; intro v1 w1 hv1 hg1 _))
      all_goals
       go_roundw
       case rel => exact HN.out _ _ _ _ _ _ (by omega) (by omega) (by omega) HO.out hg1 hv1
       case measure => simp [intOf]; omega
   ·have h1 : ¬ i < n := by omega
    have h2 : ¬ i < n2 := by omega
    obtain rfl : cc = 0 := by omega
    clear hgo hv ho hq he T1 T2
    obtain ⟨a0, c0, rfl, hsx, hfr⟩ := Sx.of_owns HO.out
    go_wp2_with fail
    go_ret
    refine ⟨a0, i, c0, qs, rfl, hsx, hqd, ?_, by omega, hfr, hbw⟩
    have := HV.out
    rw [val_take_all _ _ (by have := HL.out; omega), val_take_all _ _ (by have := HL2.out; omega)] at this
    omega
 ·go_enter Tryz.func129, Tryz.ntmps129
  go_wp2_with fail
  go_loopw [7, 8, 9] (fun sv cv iv wr => CbRel w zs ys (-1) m sv cv iv wr) (fun _ _ iv _ => m + 1 - (intOf iv).toNat)
  case atStart => exact ⟨0, [], 0, rfl, rfl, rfl, by omega, Dig.nil, by omega, by simp [val], fun _ => rfl, World.ownsRow_nil _ _ _ _, Below.refl _ _⟩
  case round =>
   obtain ⟨i, qs, cc, rfl, rfl, hq, hi1, hqd, hc, hv, he, ho, hbw⟩ := hrel
   have HQ := Lib.hid hq
   have HV := Lib.hid hv
   have HO := Lib.hid ho
   have HE := Lib.hid he
   have hsw := hbw.size
   have hcb : -1 ≤ cc ∧ cc ≤ 1 := by omega
   by_cases hgo : i < n ∨ i < n2 ∨ cc ≠ 0
   ·have him : i ≤ m := by
     rcases Nat.lt_or_ge m i with h | h
     ·have := he h
      omega
     ·exact h
    have hi0 : (0 : Int) ≤ (i : Int) := by omega
    replace T1 := fun (W : World) (h : Below w.heap.size w W) => T1 (i : Int) W hi0 h
    replace T2 := fun (W : World) (h : Below w.heap.size w W) => T2 (i : Int) W hi0 h
    rw [Int.toNat_natCast] at T1 T2
    have dz := hd.getD i
    have dy := hd2.getD i
    have HN := Lib.hid (fun (w1 : World) (v1 sv : Value) (r c' : Int) (X : Obj) (h1 : _) (h2 : _) (h3 : _) (h4 : _) (h5 : _) (h6 : _) => cb_next (s := (-1)) (w := w) (w1 := w1) (v1 := v1) (sv := sv) (X := X) (r := r) (c' := c') HQ.out hqd HV.out him (by have := HL.out; omega) (by have := HL2.out; omega) (by omega) (fun e => HG.out (by first | trivial | exact e | omega)) hc h1 h2 h3 h4 hbw h5 h6)
    clear hv ho hq he hd hd2 HE hqd HV
    generalize zs.getD i 0 = x at *
    generalize ys.getD i 0 = y at *
    by_cases hA : i < n
    ·clear hgo
     go_wp2_with (first | (go_at_call 119; (with_reducible refine ((T1 _ bel)).mono ?_); rintro e w' ⟨rfl, rfl⟩) | (go_at_call 119; (with_reducible refine ((T2 _ bel)).mono ?_); rintro e w' ⟨rfl, rfl⟩) | (at_builtin; refine wpList_append_own _ rfl _ _ 78 rfl w.heap.size 3 i0 (.int .i64 0) 1 8 Tryz.underlying78 hi hz0 hz1 hz2 rfl (by decide) _ _ _ rfl (HO.out.alloc _) ⟨wr.heap.size, 0, none⟩ 1 1 [_] rfl rfl (cell_one_new _ _ _) (by simp [Value.oneCell']) (by unfold maxLen; omega) (by omega) (by simp; omega) ?_; intro v1 w1 hv1 hg1 _))
     all_goals
      go_roundw
      case rel => exact HN.out _ _ _ _ _ _ (by omega) (by omega) (by omega) HO.out hg1 hv1
      case measure => simp [intOf]; omega
    ·by_cases hB : i < n2
     ·clear hgo
      go_wp2_with (first | (go_at_call 119; (with_reducible refine ((T1 _ bel)).mono ?_); rintro e w' ⟨rfl, rfl⟩) | (go_at_call 119; (with_reducible refine ((T2 _ bel)).mono ?_); rintro e w' ⟨rfl, rfl⟩) | (at_builtin; refine wpList_append_own _ rfl _ _ 78 rfl w.heap.size 3 i0 (.int .i64 0) 1 8 Tryz.underlying78 hi hz0 hz1 hz2 rfl (by decide) _ _ _ rfl (HO.out.alloc _) ⟨wr.heap.size, 0, none⟩ 1 1 [_] rfl rfl (cell_one_new _ _ _) (by simp [Value.oneCell']) (by unfold maxLen; omega) (by omega) (by simp; omega) ?_; intro v1 w1 hv1 hg1 _))
      all_goals
       go_roundw
       case rel => exact HN.out _ _ _ _ _ _ (by omega) (by omega) (by omega) HO.out hg1 hv1
       case measure => simp [intOf]; omega
     ·have hC : (cc != 0) = true := by simp; omega
      clear hgo
      go_wp2_with (first | (go_at_call 119; (with_reducible refine ((T1 _ bel)).mono ?_); rintro e w' ⟨rfl, rfl⟩) | (go_at_call 119; (with_reducible refine ((T2 _ bel)).mono ?_); rintro e w' ⟨rfl, rfl⟩) | (at_builtin; refine wpList_append_own _ rfl _ _ 78 rfl w.heap.size 3 i0 (.int .i64 0) 1 8 Tryz.underlying78 hi hz0 hz1 hz2 rfl (by decide) _ _ _ rfl (HO.out.alloc _) ⟨wr.heap.size, 0, none⟩ 1 1 [_] rfl rfl (cell_one_new _ _ _) (by simp [Value.oneCell']) (by unfold maxLen; omega) (by omega) (by simp; omega) ?_; intro v1 w1 hv1 hg1 _))
      all_goals
       go_roundw
       case rel => exact HN.out _ _ _ _ _ _ (by omega) (by omega) (by omega) HO.out hg1 hv1
       case measure => simp [intOf]; omega
   ·have h1 : ¬ i < n := by omega
    have h2 : ¬ i < n2 := by omega
    obtain rfl : cc = 0 := by omega
    clear hgo hv ho hq he T1 T2
    obtain ⟨a0, c0, rfl, hsx, hfr⟩ := Sx.of_owns HO.out
    go_wp2_with fail
    go_ret
    refine ⟨a0, i, c0, qs, rfl, hsx, hqd, ?_, by omega, hfr, hbw⟩
    have := HV.out
    rw [val_take_all _ _ (by have := HL.out; omega), val_take_all _ _ (by have := HL2.out; omega)] at this
    omega
end
section
open Go.RowKit
set_option linter.unusedVariables false
set_option linter.unusedSimpArgs false
theorem chk {P : Program} {code : Code} {Q : Exit → Act → World → Prop} {a : Act} {E : World} (F : World → Prop) (h : F E) (k : ∀ W, F W → code.wp P Q a W) : code.wp P Q a E := k E h
theorem bx_set1 {W : World} {g : Nat} {u0 v0 : Value} {T : TypeId} (h : W.heap[g]? = some (.cells #[u0] T)) : (W.setCell ⟨g, 0, none⟩ v0).heap[g]? = some (.cells #[v0] T) := by
  simpa using blk_set (o := 0) (v := v0) h
theorem bx_set2 {W : World} {g : Nat} {u0 u1 v0 v1 : Value} {T : TypeId} (h : W.heap[g]? = some (.cells #[u0, u1] T)) : ((W.setCell ⟨g, 0, none⟩ v0).setCell ⟨g, 1, none⟩ v1).heap[g]? = some (.cells #[v0, v1] T) := by
  simpa using blk_set (o := 1) (v := v1) (blk_set (o := 0) (v := v0) h)
theorem bx_set4 {W : World} {g : Nat} {u0 u1 u2 u3 v0 v1 v2 v3 : Value} {T : TypeId} (h : W.heap[g]? = some (.cells #[u0, u1, u2, u3] T)) :
    ((((W.setCell ⟨g, 0, none⟩ v0).setCell ⟨g, 1, none⟩ v1).setCell ⟨g, 2, none⟩ v2).setCell ⟨g, 3, none⟩ v3).heap[g]? = some (.cells #[v0, v1, v2, v3] T) := by
  simpa using blk_set (o := 3) (v := v3) (blk_set (o := 2) (v := v2) (blk_set (o := 1) (v := v1) (blk_set (o := 0) (v := v0) h)))
theorem bx_far {W : World} {g g' o : Nat} {v : Value} (hne : g' ≠ g) : (W.setCell ⟨g, o, none⟩ v).heap[g']? = W.heap[g']? := Below.heap_setCell W ⟨g, o, none⟩ v g' hne
theorem bx_old {W : World} {g : Nat} {X : Obj} (h : W.heap[g]? = some X) (Y : Obj) : (W.alloc Y).heap[g]? = some X := by
  have hl : g < W.heap.size := by
    rcases Nat.lt_or_ge g W.heap.size with h' | h'
    · exact h'
    · rw [Array.getElem?_eq_none h'] at h; cases h
  rw [heap_alloc_old W Y hl]; exact h
theorem bx_new {W : World} {g : Nat} {X : Obj} (e : W.heap.size = g) : (W.alloc X).heap[g]? = some X := by subst e; exact heap_alloc_new W X
theorem bx_drew {W : World} {g : Nat} {X : Obj} (h : W.heap[g]? = some X) : W.drew.heap[g]? = some X := h
theorem bx_drewN {W : World} {g k : Nat} {X : Obj} (h : W.heap[g]? = some X) : (W.drewN k).heap[g]? = some X := h
def NoInt (cs : Array Value) : Prop := ∀ (o : Nat) (z : Int), cs[o]? ≠ some (.int .i64 z)
theorem SlA.setN {W : World} {a : Option Addr} {zs : List Int} (h : SlA W a zs) {g : Nat} {cs : Array Value} {T : TypeId} (hk : W.heap[g]? = some (.cells cs T)) (hn : NoInt cs) (o : Nat) (v : Value) : SlA (W.setCell ⟨g, o, Option.none⟩ v) a zs := fun h0 => by
  obtain ⟨b, off, h1, h2, h3⟩ := h h0
  have hne : b ≠ g := fun e => by
    subst e
    have := h3 0 h0
    rw [cell_of_row W b (off + 0) cs T (0, 0) hk] at this
    exact hn _ _ this
  refine ⟨b, off, h1, by simpa [World.setCell] using h2, fun j hj => ?_⟩
  rw [← h3 j hj]
  exact World.cell?_of_block (a := ⟨b, off + j, Option.none⟩) (Below.heap_setCell W ⟨g, o, Option.none⟩ v b hne)
theorem Wx.setN {W : World} {b : Bool} {a : Option Addr} {n c : Nat} {z : Int} (h : Wx W b a n c z) {g : Nat} {cs : Array Value} {T : TypeId} (hk : W.heap[g]? = some (.cells cs T)) (hn : NoInt cs) (o : Nat) (v : Value) : Wx (W.setCell ⟨g, o, Option.none⟩ v) b a n c z :=
  ⟨h.neg, ⟨h.row.len, h.row.cap, h.row.max, h.row.nil, h.row.row.setN hk hn o v⟩⟩
theorem noInt2 (b : Bool) (a : Option Addr) (n c : Nat) : NoInt #[.bool b, .slice a n c] := fun o z => by
  match o with
  | 0 => simp
  | 1 => simp
  | k + 2 => simp
theorem noInt4 (b b2 : Bool) (a a2 : Option Addr) (n c n2 c2 : Nat) : NoInt #[.bool b, .slice a n c, .bool b2, .slice a2 n2 c2] := fun o z => by
  match o with
  | 0 => simp
  | 1 => simp
  | 2 => simp
  | 3 => simp
  | k + 4 => simp
theorem Wx.box {W : World} {b : Bool} {a : Option Addr} {n c : Nat} {z : Int} {g : Nat} {b0 b1 : Bool} {a0 a1 : Option Addr} {n0 c0 n1 c1 : Nat} {T : TypeId} (h : Wx W b a n c z) (hk : W.heap[g]? = some (.cells #[.bool b0, .slice a0 n0 c0] T)) :
    Wx ((W.setCell ⟨g, 0, none⟩ (.bool b1)).setCell ⟨g, 1, none⟩ (.slice a1 n1 c1)) b a n c z :=
  (h.setN hk (noInt2 _ _ _ _) 0 _).setN (by simpa using blk_set (o := 0) (v := .bool b1) hk) (noInt2 b1 a0 n0 c0) 1 _
theorem Wx.box4 {W : World} {b : Bool} {a : Option Addr} {n c : Nat} {z : Int} {g : Nat} {b0 b1 b2 b3 : Bool} {a0 a1 a2 a3 : Option Addr} {n0 c0 n1 c1 n2 c2 n3 c3 : Nat} {T : TypeId} (h : Wx W b a n c z) (hk : W.heap[g]? = some (.cells #[.bool b0, .slice a0 n0 c0, .bool b1, .slice a1 n1 c1] T)) :
    Wx ((((W.setCell ⟨g, 0, none⟩ (.bool b2)).setCell ⟨g, 1, none⟩ (.slice a2 n2 c2)).setCell ⟨g, 2, none⟩ (.bool b3)).setCell ⟨g, 3, none⟩ (.slice a3 n3 c3)) b a n c z := by
  have k1 := blk_set (o := 0) (v := .bool b2) hk
  have k2 := blk_set (o := 1) (v := .slice a2 n2 c2) k1
  have k3 := blk_set (o := 2) (v := .bool b3) k2
  simp at k1 k2 k3
  exact (((h.setN hk (noInt4 _ _ _ _ _ _ _ _) 0 _).setN k1 (noInt4 _ _ _ _ _ _ _ _) 1 _).setN k2 (noInt4 _ _ _ _ _ _ _ _) 2 _).setN k3 (noInt4 _ _ _ _ _ _ _ _) 3 _
theorem Wx.alloc {W : World} {b : Bool} {a : Option Addr} {n c : Nat} {z : Int} (h : Wx W b a n c z) (X : Obj) : Wx (W.alloc X) b a n c z := ⟨h.neg, h.row.alloc X⟩
theorem Wx.drew {W : World} {b : Bool} {a : Option Addr} {n c : Nat} {z : Int} (h : Wx W b a n c z) : Wx W.drew b a n c z := ⟨h.neg, h.row.drew⟩
theorem Wx.drewN {W : World} {b : Bool} {a : Option Addr} {n c : Nat} {z : Int} (h : Wx W b a n c z) (k : Nat) : Wx (W.drewN k) b a n c z := h.below (below_drewN (Below.refl _ _) k)
theorem zFa {W : World} {g g' o : Nat} {v : Value} {R : Option Obj} (hne : g' ≠ g) (h : W.heap[g']? = R) : (W.setCell ⟨g, o, none⟩ v).heap[g']? = R := (bx_far hne).trans h
theorem zOl {W : World} {g : Nat} {X Y : Obj} (h : W.heap[g]? = some X) : (W.alloc Y).heap[g]? = some X := bx_old h Y
theorem zWa {W : World} {b : Bool} {a : Option Addr} {n c : Nat} {z : Int} {X : Obj} (h : Wx W b a n c z) : Wx (W.alloc X) b a n c z := h.alloc X
theorem zWn {W : World} {b : Bool} {a : Option Addr} {n c k : Nat} {z : Int} (h : Wx W b a n c z) : Wx (W.drewN k) b a n c z := h.drewN k
theorem bk1 {W : World} {g : Nat} {x : Value} {T : TypeId} (h : W.heap[g]? = some (.cells #[x] T (0, 0))) : W.cell? ⟨g, 0, none⟩ = some x ∧ (∀ o, W.frozen? ⟨g, o, none⟩ = false) ∧ g < W.heap.size := ⟨blk_cell h 0, blk_frozen h, blk_lt' h⟩
theorem bk2 {W : World} {g : Nat} {x y : Value} {T : TypeId} (h : W.heap[g]? = some (.cells #[x, y] T (0, 0))) : W.cell? ⟨g, 0, none⟩ = some x ∧ W.cell? ⟨g, 1, none⟩ = some y ∧ (∀ o, W.frozen? ⟨g, o, none⟩ = false) ∧ g < W.heap.size := ⟨blk_cell h 0, blk_cell h 1, blk_frozen h, blk_lt' h⟩
theorem bk3 {W : World} {g : Nat} {x y z : Value} {T : TypeId} (h : W.heap[g]? = some (.cells #[x, y, z] T (0, 0))) : W.cell? ⟨g, 0, none⟩ = some x ∧ W.cell? ⟨g, 1, none⟩ = some y ∧ W.cell? ⟨g, 2, none⟩ = some z ∧ (∀ o, W.frozen? ⟨g, o, none⟩ = false) ∧ g < W.heap.size := ⟨blk_cell h 0, blk_cell h 1, blk_cell h 2, blk_frozen h, blk_lt' h⟩
theorem bk4 {W : World} {g : Nat} {x y z u : Value} {T : TypeId} (h : W.heap[g]? = some (.cells #[x, y, z, u] T (0, 0))) : W.cell? ⟨g, 0, none⟩ = some x ∧ W.cell? ⟨g, 1, none⟩ = some y ∧ W.cell? ⟨g, 2, none⟩ = some z ∧ W.cell? ⟨g, 3, none⟩ = some u ∧ (∀ o, W.frozen? ⟨g, o, none⟩ = false) ∧ g < W.heap.size := ⟨blk_cell h 0, blk_cell h 1, blk_cell h 2, blk_cell h 3, blk_frozen h, blk_lt' h⟩
/-- a contract whose value is a ratio of two whole numbers -/
def NewR (w : World) (x z : Int) (e : Ending) (w' : World) : Prop := ∃ b a n c b2 a2 n2 c2, e = .returned (.agg #[.bool b, .slice a n c, .bool b2, .slice a2 n2 c2]) ∧ Wx w' b a n c x ∧ Wx w' b2 a2 n2 c2 z ∧ Below w.heap.size w w'
theorem ln_sub_le {a b : Int} {k : Nat} (ha : ln a ≤ k) (hb : ln b ≤ k) : ln (a - b) ≤ k + 1 := by
  rw [show a - b = a + -b by omega]; exact ln_add_le ha (by rw [ln_neg]; exact hb)
end
section
open Go.RowKit
set_option linter.unusedVariables false
set_option maxHeartbeats 1000000
set_option maxRecDepth 20000
set_option linter.unusedSimpArgs false
attribute [local go_sem] openAt openUpon
theorem val_ab' (z : Int) : val (limbs (ab z)) = ab z := limbs_val (ab_nonneg z)
theorem isNaN_any (x : Int) (w : World) : Calls Tryz.prog 103 #[.int .i64 x] w fun e w' => e = .returned (.bool false) ∧ w = w' := by
 have hx : (x != x) = false := by simp
 go_enter Tryz.func103, Tryz.ntmps103
 go_wp2_with fail
 go_ret
 exact ⟨rfl, rfl⟩
theorem compare_any (x y : Int) (w : World) : Calls Tryz.prog 90 #[.int .i64 x, .int .i64 y] w fun e w' => e = .returned (.int .i64 (cmpI x y)) ∧ w = w' := by
 rcases Int.lt_trichotomy x y with h | h | h
 ·go_enter Tryz.func90, Tryz.ntmps90
  go_wp2_with (first | (go_at_call 103; refine (isNaN_any _ _).mono ?_; rintro e w' ⟨rfl, rfl⟩))
  go_ret
  exact ⟨ret_int (cmp_lt h).symm, rfl⟩
 ·have H := Lib.hid h
  have h1 : ¬ x < y := by omega
  have h2 : ¬ y < x := by omega
  clear h
  go_enter Tryz.func90, Tryz.ntmps90
  go_wp2_with (first | (go_at_call 103; refine (isNaN_any _ _).mono ?_; rintro e w' ⟨rfl, rfl⟩))
  go_ret
  exact ⟨ret_int (cmp_eq H.out).symm, rfl⟩
 ·have h1 : ¬ x < y := by omega
  go_enter Tryz.func90, Tryz.ntmps90
  go_wp2_with (first | (go_at_call 103; refine (isNaN_any _ _).mono ?_; rintro e w' ⟨rfl, rfl⟩))
  go_ret
  exact ⟨ret_int (cmp_gt h).symm, rfl⟩
theorem ln_lt_ab {x y : Int} (h : ln x < ln y) : ab x < ab y := by
 rcases Int.lt_or_le (ab x) (ab y) with h' | h'
 ·exact h'
 ·have := ln_mono h'; omega
def OzRel (zs ys : List Int) (m : Nat) (iv : Value) (w0 wr : World) : Prop := ∃ k : Nat, iv = .int .i64 ((k : Int) - 1) ∧ k ≤ m ∧ val (zs.drop k) = val (ys.drop k) ∧ Below w0.heap.size w0 wr
theorem compareSizes_any (b b2 : Bool) (a a2 : Option Addr) (n c n2 c2 : Nat) (x y : Int) (w : World) (hs : Wx w b a n c x) (hs2 : Wx w b2 a2 n2 c2 y) (hl : n ≤ 1000000) (hl2 : n2 ≤ 1000000) :
  Calls Tryz.prog 74 #[.agg #[.bool b, .slice a n c], .agg #[.bool b2, .slice a2 n2 c2]] w fun e w' => e = .returned (.int .i64 (cmpI (ab x) (ab y))) ∧ Below w.heap.size w w' := by
 have hn := hs.ln
 have hn2 := hs2.ln
 by_cases hne : n = n2
 ·have HNE := Lib.hid hne
  have hd := limbs_dig (ab x)
  have hd2 := limbs_dig (ab y)
  have HX := Lib.hid (val_ab' x)
  have HY := Lib.hid (val_ab' y)
  have hr := hs.row
  have hr2 := hs2.row
  clear hs hs2 hn hn2
  generalize limbs (ab x) = zs at *
  generalize limbs (ab y) = ys at *
  have HL := Lib.hid hr.len
  have HL2 := Lib.hid hr2.len
  subst hne
  have hnn : ((n : Int) != (n : Int)) = false := by simp
  go_enter Tryz.func74, Tryz.ntmps74
  go_wp2_with fail
  refine chk (fun W => Below w.heap.size w W ∧ W.heap[w.heap.size]? = some (.cells #[.bool b, .slice a n c] 80 (0, 0)) ∧ W.heap[w.heap.size + 1]? = some (.cells #[.bool b2, .slice a2 n c2] 80 (0, 0))) (by refine ⟨?_, ?_, ?_⟩ <;> (exact ck)) ?_
  rintro w1 ⟨hB1, qk, ql⟩
  obtain ⟨xc, xd, xg, xm⟩ := bk2 qk
  replace qk := Lib.hid qk
  obtain ⟨xe, xf, xh, xn⟩ := bk2 ql
  replace ql := Lib.hid ql
  replace hr := hr.below hB1
  replace hr2 := hr2.below hB1
  go_loopw [5] (fun iv wr => OzRel zs ys n iv w1 wr) (fun iv _ => (intOf iv + 1).toNat)
  case atStart => exact ⟨n, rfl, Nat.le_refl _, by rw [List.drop_eq_nil_of_le (by have := HL.out; omega), List.drop_eq_nil_of_le (by have := HL2.out; omega)], Below.refl _ _⟩
  case round =>
   obtain ⟨k, rfl, hk, hv, hb2⟩ := hrel
   obtain ⟨w2, rfl⟩ : ∃ w2 : World, w2 = wr := ⟨_, rfl⟩
   have HV := Lib.hid hv
   clear hv
   have hsz2 := hb2.size
   have qg := (hb2.block (w.heap.size) (blk_lt' qk.out)).trans qk.out
   clear xc xd xg qk
   obtain ⟨qm, qn, qy, xo⟩ := bk2 qg
   replace qg := Lib.hid qg
   have qh := (hb2.block (w.heap.size + 1) (blk_lt' ql.out)).trans ql.out
   clear xe xf xh ql
   obtain ⟨qo, qq, qz, xp⟩ := bk2 qh
   replace qh := Lib.hid qh
   have hB2 : Below w.heap.size w w2 := below_via hb2 (by assumption) (by go_size)
   by_cases h0 : 0 < k
   ·obtain ⟨b1, off1, rfl, hb1, hcs⟩ := hr.at (by omega)
    obtain ⟨b2', off2, rfl, hb2', hcs2⟩ := hr2.at (by omega)
    have c1 := (hb2.cell (p := ⟨b1, off1 + (k - 1), none⟩) hb1).trans (hcs (k - 1) (by omega))
    have c2' := (hb2.cell (p := ⟨b2', off2 + (k - 1), none⟩) hb2').trans (hcs2 (k - 1) (by omega))
    replace hb1 : b1 < w2.heap.size := by omega
    replace hb2' : b2' < w2.heap.size := by omega
    have ek : ((k : Int) - 1).toNat = k - 1 := by omega
    have hk1 : (k : Int) - 1 < (n : Int) := by omega
    have hk2 : (0 : Int) ≤ (k : Int) - 1 := by omega
    have hk3 : (1 : Int) ≤ (k : Int) := by omega
    have hk4 : decide ((1 : Int) ≤ (k : Int)) = true := by simpa using hk3
    have HV1 := Lib.hid (show val (zs.drop (k - 1 + 1)) = val (ys.drop (k - 1 + 1)) by rw [show k - 1 + 1 = k by omega]; exact HV.out)
    have C1 := Lib.hid (fun h => cmp_hi hd hd2 HV1.out h)
    have C2 := Lib.hid (fun h => cmp_hi hd2 hd HV1.out.symm h)
    have C3 := Lib.hid (fun h => drop_eq_step HV1.out h)
    rw [List.getD_eq_getElem?_getD, List.getD_eq_getElem?_getD] at C1 C2 C3
    clear hcs hcs2
    generalize zs[k - 1]?.getD 0 = x1 at *
    generalize ys[k - 1]?.getD 0 = y1 at *
    by_cases he : x1 = y1
    ·have HE := Lib.hid he
     subst he
     have hxx : (x1 != x1) = false := by simp
     go_wp2_with fail
     refine wp_open (n := 10) (by kernel_rfl) (by kernel_rfl) (by kernel_rfl) (by kernel_rfl) ?_
     simp only [List.take_succ_cons, List.take_zero]
     apply wpS_quiet
     ·intro γ W hW hp
      refine ⟨rfl, ?_⟩
      go_big_quiet_op
      first | exact rfl
     ·exact locS_const _
     try simp only [Act.put, List.setIfInBounds_toArray, List.set_cons_succ, List.set_cons_zero, Nat.reduceAdd]
     apply wpS_quiet
     ·intro γ W hW hp
      have hs := hW.size
      (try simp only [sA, sB, sC, sD] at hs)
      have qr := fun x => (xcA hW (w.heap.size) 0 (by first | omega | go_size) x).trans qm
      have qt := fun x => (xcA hW (w.heap.size) 1 (by first | omega | go_size) x).trans qn
      clear hW hp
      refine ⟨rfl, ?_⟩
      go_big_quiet_op
      first | exact rfl
     ·exact locS_const _
     try simp only [Act.put, List.setIfInBounds_toArray, List.set_cons_succ, List.set_cons_zero, Nat.reduceAdd]
     apply wpS_quiet
     ·intro γ W hW hp
      refine ⟨rfl, ?_⟩
      go_big_quiet_op
      first | exact rfl
     ·exact locS_const _
     try simp only [Act.put, List.setIfInBounds_toArray, List.set_cons_succ, List.set_cons_zero, Nat.reduceAdd]
     apply wpS_quiet
     ·intro γ W hW hp
      have hs := hW.size
      (try simp only [sA, sB, sC, sD] at hs)
      try (have qc := xcA hW (w.heap.size) 0; simp [go_sem, *] at qc)
      try (have qd := xcA hW (w.heap.size) 1; simp [go_sem, *] at qd)
      try (have qe := xcA hW (w.heap.size + 1) 0; simp [go_sem, *] at qe)
      try (have qf := xcA hW (w.heap.size + 1) 1; simp [go_sem, *] at qf)
      clear hW hp
      refine ⟨rfl, ?_⟩
      go_big_quiet_op
      first | exact rfl
     ·exact locS_const _
     try simp only [Act.put, List.setIfInBounds_toArray, List.set_cons_succ, List.set_cons_zero, Nat.reduceAdd]
     apply wpS_quiet
     ·intro γ W hW hp
      have q1 := fun x : Over W => (cellAt x.lies b1 (Nat.lt_of_lt_of_le hb1 hW.size) (off1 + (k - 1))).trans ((cellAt hW b1 hb1 (off1 + (k - 1))).trans c1)
      have hs := hW.size
      (try simp only [sA, sB, sC, sD] at hs)
      try (have qc := xcA hW (w.heap.size) 0; simp [go_sem, *] at qc)
      try (have qd := xcA hW (w.heap.size) 1; simp [go_sem, *] at qd)
      try (have qe := xcA hW (w.heap.size + 1) 0; simp [go_sem, *] at qe)
      try (have qf := xcA hW (w.heap.size + 1) 1; simp [go_sem, *] at qf)
      clear hW hp
      refine ⟨rfl, ?_⟩
      go_big_quiet_op
      first | exact rfl
     ·exact locS_const _
     try simp only [Act.put, List.setIfInBounds_toArray, List.set_cons_succ, List.set_cons_zero, Nat.reduceAdd]
     apply wpS_quiet
     ·intro γ W hW hp
      refine ⟨rfl, ?_⟩
      go_big_quiet_op
      first | exact rfl
     ·exact locS_const _
     try simp only [Act.put, List.setIfInBounds_toArray, List.set_cons_succ, List.set_cons_zero, Nat.reduceAdd]
     apply wpS_quiet
     ·intro γ W hW hp
      have hs := hW.size
      (try simp only [sA, sB, sC, sD] at hs)
      have qr := fun x => (xcA hW (w.heap.size + 1) 0 (by first | omega | go_size) x).trans qo
      have qt := fun x => (xcA hW (w.heap.size + 1) 1 (by first | omega | go_size) x).trans qq
      clear hW hp
      refine ⟨rfl, ?_⟩
      go_big_quiet_op
      first | exact rfl
     ·exact locS_const _
     try simp only [Act.put, List.setIfInBounds_toArray, List.set_cons_succ, List.set_cons_zero, Nat.reduceAdd]
     apply wpS_quiet
     ·intro γ W hW hp
      refine ⟨rfl, ?_⟩
      go_big_quiet_op
      first | exact rfl
     ·exact locS_const _
     try simp only [Act.put, List.setIfInBounds_toArray, List.set_cons_succ, List.set_cons_zero, Nat.reduceAdd]
     apply wpS_quiet
     ·intro γ W hW hp
      have hs := hW.size
      (try simp only [sA, sB, sC, sD] at hs)
      try (have qc := xcA hW (w.heap.size) 0; simp [go_sem, *] at qc)
      try (have qd := xcA hW (w.heap.size) 1; simp [go_sem, *] at qd)
      try (have qe := xcA hW (w.heap.size + 1) 0; simp [go_sem, *] at qe)
      try (have qf := xcA hW (w.heap.size + 1) 1; simp [go_sem, *] at qf)
      clear hW hp
      refine ⟨rfl, ?_⟩
      go_big_quiet_op
      first | exact rfl
     ·exact locS_const _
     try simp only [Act.put, List.setIfInBounds_toArray, List.set_cons_succ, List.set_cons_zero, Nat.reduceAdd]
     apply wpS_quiet
     ·intro γ W hW hp
      have q2 := fun x : Over W => (cellAt x.lies b2' (Nat.lt_of_lt_of_le hb2' hW.size) (off2 + (k - 1))).trans ((cellAt hW b2' hb2' (off2 + (k - 1))).trans c2')
      have hs := hW.size
      (try simp only [sA, sB, sC, sD] at hs)
      try (have qc := xcA hW (w.heap.size) 0; simp [go_sem, *] at qc)
      try (have qd := xcA hW (w.heap.size) 1; simp [go_sem, *] at qd)
      try (have qe := xcA hW (w.heap.size + 1) 0; simp [go_sem, *] at qe)
      try (have qf := xcA hW (w.heap.size + 1) 1; simp [go_sem, *] at qf)
      clear hW hp
      refine ⟨rfl, ?_⟩
      go_big_quiet_op
      first | exact rfl
     ·exact locS_const _
     try simp only [Act.put, List.setIfInBounds_toArray, List.set_cons_succ, List.set_cons_zero, Nat.reduceAdd]
     apply wpS_end
     intro γ w3 hb3 hG3 hA3
     clear hG3 hA3
     simp only [List.drop_succ_cons, List.drop_zero]
     have hz3 := hb3.size
     (try simp only [sA, sB, sC, sD] at hz3)
     have qi := (hb3.block (w.heap.size) (blk_lt' qg.out)).trans qg.out
     clear qm qn qy qg
     obtain ⟨qu, qv, xi, xj⟩ := bk2 qi
     replace qi := Lib.hid qi
     have qj := (hb3.block (w.heap.size + 1) (blk_lt' qh.out)).trans qh.out
     clear qo qq qz qh
     obtain ⟨qw, qx, xk, xl⟩ := bk2 qj
     replace qj := Lib.hid qj
     have hB3 : Below w.heap.size w w3 := below_via hb3 (by assumption) (by go_size)
     go_wp2_with fail
     go_roundw
     case rel => exact ⟨k - 1, by congr 1; omega, by omega, C3.out (by first | rfl | trivial), hb2.trans (hb3.mono hb2.size)⟩
     case measure => simp [intOf]; omega
    ·have hxx : (x1 != y1) = true := by simpa using he
     go_wp2_with fail
     refine wp_open (n := 10) (by kernel_rfl) (by kernel_rfl) (by kernel_rfl) (by kernel_rfl) ?_
     simp only [List.take_succ_cons, List.take_zero]
     apply wpS_quiet
     ·intro γ W hW hp
      refine ⟨rfl, ?_⟩
      go_big_quiet_op
      first | exact rfl
     ·exact locS_const _
     try simp only [Act.put, List.setIfInBounds_toArray, List.set_cons_succ, List.set_cons_zero, Nat.reduceAdd]
     apply wpS_quiet
     ·intro γ W hW hp
      have hs := hW.size
      (try simp only [sA, sB, sC, sD] at hs)
      have qr := fun x => (xcA hW (w.heap.size) 0 (by first | omega | go_size) x).trans qm
      have qt := fun x => (xcA hW (w.heap.size) 1 (by first | omega | go_size) x).trans qn
      clear hW hp
      refine ⟨rfl, ?_⟩
      go_big_quiet_op
      first | exact rfl
     ·exact locS_const _
     try simp only [Act.put, List.setIfInBounds_toArray, List.set_cons_succ, List.set_cons_zero, Nat.reduceAdd]
     apply wpS_quiet
     ·intro γ W hW hp
      refine ⟨rfl, ?_⟩
      go_big_quiet_op
      first | exact rfl
     ·exact locS_const _
     try simp only [Act.put, List.setIfInBounds_toArray, List.set_cons_succ, List.set_cons_zero, Nat.reduceAdd]
     apply wpS_quiet
     ·intro γ W hW hp
      have hs := hW.size
      (try simp only [sA, sB, sC, sD] at hs)
      try (have qc := xcA hW (w.heap.size) 0; simp [go_sem, *] at qc)
      try (have qd := xcA hW (w.heap.size) 1; simp [go_sem, *] at qd)
      try (have qe := xcA hW (w.heap.size + 1) 0; simp [go_sem, *] at qe)
      try (have qf := xcA hW (w.heap.size + 1) 1; simp [go_sem, *] at qf)
      clear hW hp
      refine ⟨rfl, ?_⟩
      go_big_quiet_op
      first | exact rfl
     ·exact locS_const _
     try simp only [Act.put, List.setIfInBounds_toArray, List.set_cons_succ, List.set_cons_zero, Nat.reduceAdd]
     apply wpS_quiet
     ·intro γ W hW hp
      have q1 := fun x : Over W => (cellAt x.lies b1 (Nat.lt_of_lt_of_le hb1 hW.size) (off1 + (k - 1))).trans ((cellAt hW b1 hb1 (off1 + (k - 1))).trans c1)
      have hs := hW.size
      (try simp only [sA, sB, sC, sD] at hs)
      try (have qc := xcA hW (w.heap.size) 0; simp [go_sem, *] at qc)
      try (have qd := xcA hW (w.heap.size) 1; simp [go_sem, *] at qd)
      try (have qe := xcA hW (w.heap.size + 1) 0; simp [go_sem, *] at qe)
      try (have qf := xcA hW (w.heap.size + 1) 1; simp [go_sem, *] at qf)
      clear hW hp
      refine ⟨rfl, ?_⟩
      go_big_quiet_op
      first | exact rfl
     ·exact locS_const _
     try simp only [Act.put, List.setIfInBounds_toArray, List.set_cons_succ, List.set_cons_zero, Nat.reduceAdd]
     apply wpS_quiet
     ·intro γ W hW hp
      refine ⟨rfl, ?_⟩
      go_big_quiet_op
      first | exact rfl
     ·exact locS_const _
     try simp only [Act.put, List.setIfInBounds_toArray, List.set_cons_succ, List.set_cons_zero, Nat.reduceAdd]
     apply wpS_quiet
     ·intro γ W hW hp
      have hs := hW.size
      (try simp only [sA, sB, sC, sD] at hs)
      have qr := fun x => (xcA hW (w.heap.size + 1) 0 (by first | omega | go_size) x).trans qo
      have qt := fun x => (xcA hW (w.heap.size + 1) 1 (by first | omega | go_size) x).trans qq
      clear hW hp
      refine ⟨rfl, ?_⟩
      go_big_quiet_op
      first | exact rfl
     ·exact locS_const _
     try simp only [Act.put, List.setIfInBounds_toArray, List.set_cons_succ, List.set_cons_zero, Nat.reduceAdd]
     apply wpS_quiet
     ·intro γ W hW hp
      refine ⟨rfl, ?_⟩
      go_big_quiet_op
      first | exact rfl
     ·exact locS_const _
     try simp only [Act.put, List.setIfInBounds_toArray, List.set_cons_succ, List.set_cons_zero, Nat.reduceAdd]
     apply wpS_quiet
     ·intro γ W hW hp
      have hs := hW.size
      (try simp only [sA, sB, sC, sD] at hs)
      try (have qc := xcA hW (w.heap.size) 0; simp [go_sem, *] at qc)
      try (have qd := xcA hW (w.heap.size) 1; simp [go_sem, *] at qd)
      try (have qe := xcA hW (w.heap.size + 1) 0; simp [go_sem, *] at qe)
      try (have qf := xcA hW (w.heap.size + 1) 1; simp [go_sem, *] at qf)
      clear hW hp
      refine ⟨rfl, ?_⟩
      go_big_quiet_op
      first | exact rfl
     ·exact locS_const _
     try simp only [Act.put, List.setIfInBounds_toArray, List.set_cons_succ, List.set_cons_zero, Nat.reduceAdd]
     apply wpS_quiet
     ·intro γ W hW hp
      have q2 := fun x : Over W => (cellAt x.lies b2' (Nat.lt_of_lt_of_le hb2' hW.size) (off2 + (k - 1))).trans ((cellAt hW b2' hb2' (off2 + (k - 1))).trans c2')
      have hs := hW.size
      (try simp only [sA, sB, sC, sD] at hs)
      try (have qc := xcA hW (w.heap.size) 0; simp [go_sem, *] at qc)
      try (have qd := xcA hW (w.heap.size) 1; simp [go_sem, *] at qd)
      try (have qe := xcA hW (w.heap.size + 1) 0; simp [go_sem, *] at qe)
      try (have qf := xcA hW (w.heap.size + 1) 1; simp [go_sem, *] at qf)
      clear hW hp
      refine ⟨rfl, ?_⟩
      go_big_quiet_op
      first | exact rfl
     ·exact locS_const _
     try simp only [Act.put, List.setIfInBounds_toArray, List.set_cons_succ, List.set_cons_zero, Nat.reduceAdd]
     apply wpS_end
     intro γ w3 hb3 hG3 hA3
     clear hG3 hA3
     simp only [List.drop_succ_cons, List.drop_zero]
     have hz3 := hb3.size
     (try simp only [sA, sB, sC, sD] at hz3)
     have qi := (hb3.block (w.heap.size) (blk_lt' qg.out)).trans qg.out
     clear qm qn qy qg
     obtain ⟨qu, qv, xi, xj⟩ := bk2 qi
     replace qi := Lib.hid qi
     have qj := (hb3.block (w.heap.size + 1) (blk_lt' qh.out)).trans qh.out
     clear qo qq qz qh
     obtain ⟨qw, qx, xk, xl⟩ := bk2 qj
     replace qj := Lib.hid qj
     have hB3 : Below w.heap.size w w3 := below_via hb3 (by assumption) (by go_size)
     replace c1 := (hb3.cell (p := ⟨b1, off1 + (k - 1), none⟩) hb1).trans c1
     replace c2' := (hb3.cell (p := ⟨b2', off2 + (k - 1), none⟩) hb2').trans c2'
     replace hb1 : b1 < w3.heap.size := Nat.lt_of_lt_of_le hb1 hb3.size
     replace hb2' : b2' < w3.heap.size := Nat.lt_of_lt_of_le hb2' hb3.size
     go_wp2_with fail
     refine wp_open (n := 11) (by kernel_rfl) (by kernel_rfl) (by kernel_rfl) (by kernel_rfl) ?_
     simp only [List.take_succ_cons, List.take_zero]
     apply wpS_quiet
     ·intro γ W hW hp
      refine ⟨rfl, ?_⟩
      go_big_quiet_op
      first | exact rfl
     ·exact locS_const _
     try simp only [Act.put, List.setIfInBounds_toArray, List.set_cons_succ, List.set_cons_zero, Nat.reduceAdd]
     apply wpS_quiet
     ·intro γ W hW hp
      have hs := hW.size
      (try simp only [sA, sB, sC, sD] at hs)
      have qr := fun x => (xcA hW (w.heap.size) 0 (by first | omega | go_size) x).trans qu
      have qt := fun x => (xcA hW (w.heap.size) 1 (by first | omega | go_size) x).trans qv
      clear hW hp
      refine ⟨rfl, ?_⟩
      go_big_quiet_op
      first | exact rfl
     ·exact locS_const _
     try simp only [Act.put, List.setIfInBounds_toArray, List.set_cons_succ, List.set_cons_zero, Nat.reduceAdd]
     apply wpS_quiet
     ·intro γ W hW hp
      refine ⟨rfl, ?_⟩
      go_big_quiet_op
      first | exact rfl
     ·exact locS_const _
     try simp only [Act.put, List.setIfInBounds_toArray, List.set_cons_succ, List.set_cons_zero, Nat.reduceAdd]
     apply wpS_quiet
     ·intro γ W hW hp
      have hs := hW.size
      (try simp only [sA, sB, sC, sD] at hs)
      try (have qc := xcA hW (w.heap.size) 0; simp [go_sem, *] at qc)
      try (have qd := xcA hW (w.heap.size) 1; simp [go_sem, *] at qd)
      try (have qe := xcA hW (w.heap.size + 1) 0; simp [go_sem, *] at qe)
      try (have qf := xcA hW (w.heap.size + 1) 1; simp [go_sem, *] at qf)
      clear hW hp
      refine ⟨rfl, ?_⟩
      go_big_quiet_op
      first | exact rfl
     ·exact locS_const _
     try simp only [Act.put, List.setIfInBounds_toArray, List.set_cons_succ, List.set_cons_zero, Nat.reduceAdd]
     apply wpS_quiet
     ·intro γ W hW hp
      have q1 := fun x : Over W => (cellAt x.lies b1 (Nat.lt_of_lt_of_le hb1 hW.size) (off1 + (k - 1))).trans ((cellAt hW b1 hb1 (off1 + (k - 1))).trans c1)
      have hs := hW.size
      (try simp only [sA, sB, sC, sD] at hs)
      try (have qc := xcA hW (w.heap.size) 0; simp [go_sem, *] at qc)
      try (have qd := xcA hW (w.heap.size) 1; simp [go_sem, *] at qd)
      try (have qe := xcA hW (w.heap.size + 1) 0; simp [go_sem, *] at qe)
      try (have qf := xcA hW (w.heap.size + 1) 1; simp [go_sem, *] at qf)
      clear hW hp
      refine ⟨rfl, ?_⟩
      go_big_quiet_op
      first | exact rfl
     ·exact locS_const _
     try simp only [Act.put, List.setIfInBounds_toArray, List.set_cons_succ, List.set_cons_zero, Nat.reduceAdd]
     apply wpS_quiet
     ·intro γ W hW hp
      refine ⟨rfl, ?_⟩
      go_big_quiet_op
      first | exact rfl
     ·exact locS_const _
     try simp only [Act.put, List.setIfInBounds_toArray, List.set_cons_succ, List.set_cons_zero, Nat.reduceAdd]
     apply wpS_quiet
     ·intro γ W hW hp
      have hs := hW.size
      (try simp only [sA, sB, sC, sD] at hs)
      have qr := fun x => (xcA hW (w.heap.size + 1) 0 (by first | omega | go_size) x).trans qw
      have qt := fun x => (xcA hW (w.heap.size + 1) 1 (by first | omega | go_size) x).trans qx
      clear hW hp
      refine ⟨rfl, ?_⟩
      go_big_quiet_op
      first | exact rfl
     ·exact locS_const _
     try simp only [Act.put, List.setIfInBounds_toArray, List.set_cons_succ, List.set_cons_zero, Nat.reduceAdd]
     apply wpS_quiet
     ·intro γ W hW hp
      refine ⟨rfl, ?_⟩
      go_big_quiet_op
      first | exact rfl
     ·exact locS_const _
     try simp only [Act.put, List.setIfInBounds_toArray, List.set_cons_succ, List.set_cons_zero, Nat.reduceAdd]
     apply wpS_quiet
     ·intro γ W hW hp
      have hs := hW.size
      (try simp only [sA, sB, sC, sD] at hs)
      try (have qc := xcA hW (w.heap.size) 0; simp [go_sem, *] at qc)
      try (have qd := xcA hW (w.heap.size) 1; simp [go_sem, *] at qd)
      try (have qe := xcA hW (w.heap.size + 1) 0; simp [go_sem, *] at qe)
      try (have qf := xcA hW (w.heap.size + 1) 1; simp [go_sem, *] at qf)
      clear hW hp
      refine ⟨rfl, ?_⟩
      go_big_quiet_op
      first | exact rfl
     ·exact locS_const _
     try simp only [Act.put, List.setIfInBounds_toArray, List.set_cons_succ, List.set_cons_zero, Nat.reduceAdd]
     apply wpS_quiet
     ·intro γ W hW hp
      have q2 := fun x : Over W => (cellAt x.lies b2' (Nat.lt_of_lt_of_le hb2' hW.size) (off2 + (k - 1))).trans ((cellAt hW b2' hb2' (off2 + (k - 1))).trans c2')
      have hs := hW.size
      (try simp only [sA, sB, sC, sD] at hs)
      try (have qc := xcA hW (w.heap.size) 0; simp [go_sem, *] at qc)
      try (have qd := xcA hW (w.heap.size) 1; simp [go_sem, *] at qd)
      try (have qe := xcA hW (w.heap.size + 1) 0; simp [go_sem, *] at qe)
      try (have qf := xcA hW (w.heap.size + 1) 1; simp [go_sem, *] at qf)
      clear hW hp
      refine ⟨rfl, ?_⟩
      go_big_quiet_op
      first | exact rfl
     ·exact locS_const _
     try simp only [Act.put, List.setIfInBounds_toArray, List.set_cons_succ, List.set_cons_zero, Nat.reduceAdd]
     apply wpS_quiet
     ·intro γ W hW hp
      refine ⟨rfl, ?_⟩
      go_big_quiet_op
      apply Exists.intro
      refine ⟨fun x => ?_, ?_⟩
      ·(first | (go_at_call 90; exact draw_of_same _ (compare_any _ _ _)))
      exact rfl
     ·exact locS_const _
     try simp only [Act.put, List.setIfInBounds_toArray, List.set_cons_succ, List.set_cons_zero, Nat.reduceAdd]
     apply wpS_end
     intro γ w4 hb4 hG4 hA4
     clear hG4 hA4
     simp only [List.drop_succ_cons, List.drop_zero]
     have hz4 := hb4.size
     (try simp only [sA, sB, sC, sD] at hz4)
     go_wp2_with fail
     go_ret
     refine ⟨ret_int ?_, ?_⟩
     ·rcases Int.lt_trichotomy x1 y1 with h | h | h
      ·rw [cmp_lt h, cmp_lt (by have := C1.out h; rwa [HX.out, HY.out] at this)]
      ·exact absurd h he
      ·rw [cmp_gt h, cmp_gt (by have := C2.out h; rwa [HX.out, HY.out] at this)]
     ·exact bel
   ·obtain rfl : k = 0 := by omega
    go_wp2_with fail
    go_ret
    refine ⟨ret_int (cmp_eq (by have := HV.out; simp only [List.drop_zero] at this; rwa [HX.out, HY.out] at this)).symm, ?_⟩
    exact bel
 ·have hnn : ((n : Int) != (n2 : Int)) = true := by simp; omega
  have HR := Lib.hid (show cmpI (n : Int) (n2 : Int) = cmpI (ab x) (ab y) by
   rcases Nat.lt_or_ge n n2 with h | h
   ·rw [cmp_lt (by omega), cmp_lt (ln_lt_ab (by omega))]
   ·rw [cmp_gt (by omega), cmp_gt (ln_lt_ab (by omega))])
  clear hn hn2 hne
  go_enter Tryz.func74, Tryz.ntmps74
  go_wp2_with (first | (go_at_call 90; refine (compare_any _ _ _).mono ?_; rintro e w' ⟨rfl, rfl⟩))
  go_ret
  refine ⟨ret_int HR.out, ?_⟩
  exact bel
def AlRel (W0 : World) (g : Nat) (zs ys : List Int) (s : Int) (m : Nat) (cv iv : Value) (wr : World) : Prop := ∃ (i : Nat) (qs : List Int) (c : Int), iv = .int .i64 i ∧ cv = .int .i64 c ∧ i ≤ m ∧ qs.length = m ∧ Dig (qs.take i) ∧ (s - 1 ≤ 2 * c ∧ 2 * c ≤ s + 1) ∧
 val (qs.take i) + 10000 ^ i * c = val (zs.take i) + s * val (ys.take i) ∧ RowW W0 wr g 3 qs
theorem al_next {W0 wr : World} {g i m : Nat} {zs ys qs : List Int} {s c r c' x y : Int} (him : i < m) (hq : qs.length = m) (hd : Dig (qs.take i)) (hv : val (qs.take i) + 10000 ^ i * c = val (zs.take i) + s * val (ys.take i))
  (hx : zs.getD i 0 = x) (hy : ys.getD i 0 = y) (he : x + s * y + c = r + 10000 * c') (hr : 0 ≤ r ∧ r ≤ 9999) (hc' : s - 1 ≤ 2 * c' ∧ 2 * c' ≤ s + 1) (hrow : RowW W0 wr g 3 qs) :
  AlRel W0 g zs ys s m (.int .i64 c') (.int .i64 ((i : Int) + 1)) (wr.setCell ⟨g, i, none⟩ (.int .i64 r)) := by
 have e : (qs.set i r).take (i + 1) = qs.take i ++ [r] := by
  rw [List.take_succ_eq_append_getElem (by simp; omega), List.getElem_set_self, List.take_set_of_le (Nat.le_refl _)]
 refine ⟨i + 1, qs.set i r, c', by push_cast; rfl, rfl, by omega, by simp [hq], ?_, hc', ?_, hrow.set i r⟩
 ·rw [e]; exact hd.append (Dig.cons hr Dig.nil)
 ·rw [e]
  exact sum_step hv (by simp; omega) (show x + s * y + c = c + zs.getD i 0 + s * ys.getD i 0 by rw [hx, hy]; omega) he
theorem max_nat (w : World) (ts : Array TypeId) (t : TypeId) (n n2 m : Nat) (h : m = max n n2) : (Builtin.max_ ts t #[.int .i64 n, .int .i64 n2]).run Tryz.prog w = .ok (.int .i64 (m : Int)) w := by
 have : max (n : Int) (n2 : Int) = (m : Int) := by omega
 subst h
 by_cases h' : n ≤ n2
 ·simp [go_sem]; omega
 ·simp [go_sem]; omega
theorem addLimbs_any (a a2 : Option Addr) (n c n2 c2 : Nat) (s : Int) (zs ys : List Int) (w : World) (hs : Sx w a n c zs) (hs2 : Sx w a2 n2 c2 ys) (hd : Dig zs) (hd2 : Dig ys) (hl : n ≤ 90000) (hl2 : n2 ≤ 90000) (hsg : s = 1 ∨ s = -1) (hge : s = -1 → val ys ≤ val zs) :
  Calls Tryz.prog 73 #[.slice a n c, .slice a2 n2 c2, .int .i64 s] w (NewD w (val zs + s * val ys) 90001) := by
 obtain ⟨i0, hi, hz0, hz1, hz2⟩ := info_parts infoInt
 obtain ⟨m, hm⟩ : ∃ m, m = max n n2 := ⟨_, rfl⟩
 have hmx := fun (w : World) (ts : Array TypeId) (t : TypeId) => max_nat w ts t n n2 m hm
 have hm1 : n ≤ m := by omega
 have hm2 : n2 ≤ m := by omega
 have hmb : m ≤ 90000 := by omega
 have HL := Lib.hid hs.len
 have HL2 := Lib.hid hs2.len
 have HG := Lib.hid hge
 clear hm hge
 rcases hsg with rfl | rfl
 ·go_enter Tryz.func73, Tryz.ntmps73
  go_wp2_with (first | (at_make; refine wpList_make_full _ rfl _ _ 78 rfl w.heap.size 3 i0 (.int .i64 0) 1 Tryz.underlying78 hi hz0 hz1 .i64 .i64 _ _ (m + 1) rfl rfl rfl rfl (by rw [hz2]; omega) (by unfold maxLen; omega) (by simp) ?_; intro W0 hm0 hg0; have hr0 := RowW.start hm0; have hb0 := made_below (B := w.heap.size) (a := w) bel hg0 (by simp; try omega); have hz0s := hg0.size; clear hm0 hg0))
  have hsz0 := blk_lt' hr0.row
  go_loopw [8, 20] (fun cv iv wr => AlRel W0 w.heap.size zs ys 1 (m + 1) cv iv wr) (fun _ iv _ => m + 1 - (intOf iv).toNat)
  case atStart => exact ⟨0, List.replicate (m + 1) 0, 0, rfl, rfl, by omega, by simp, by simp [Dig.nil], by omega, by simp [val], hr0⟩
  case round =>
   obtain ⟨i, qs, cc, rfl, rfl, hi1, hql, hqd, hc, hv, hrow⟩ := hrel
   have HQ := Lib.hid hql
   have HV := Lib.hid hv
   have HD := Lib.hid hqd
   have hcb : -1 ≤ cc ∧ cc ≤ 1 := by omega
   clear hql hv hqd
   by_cases h0 : i < m + 1
   ·have hlt : (i : Int) < (m : Int) + 1 := by omega
    have dz := hd.getD i
    have dy := hd2.getD i
    have hg2 := hrow.free i
    have hg1 := hrow.cell (j := i) (by have := HQ.out; omega)
    have HN := Lib.hid (fun (r c' x y : Int) (h1 : zs.getD i 0 = x) (h2 : ys.getD i 0 = y) (h3 : _) (h4 : _) (h5 : _) => al_next (s := 1) (r := r) (c' := c') (x := x) (y := y) h0 HQ.out HD.out HV.out h1 h2 h3 h4 h5 hrow)
    by_cases hA : i < n
    ·obtain ⟨b1, off1, rfl, hb1, hcs⟩ := hs.at (by omega)
     have c1 := (hrow.only.cell (b := b1) (by omega) (off1 + i)).trans ((hb0.cell (p := ⟨b1, off1 + i, none⟩) hb1).trans (hcs i hA))
     have HZ := Lib.hid (List.getD_eq_getElem?_getD (l := zs) (i := i) (a := 0))
     rw [List.getD_eq_getElem?_getD] at dz
     clear hcs
     generalize zs[i]?.getD 0 = x at *
     by_cases hB : i < n2
     ·obtain ⟨b2, off2, rfl, hb2, hcs2⟩ := hs2.at (by omega)
      have c2' := (hrow.only.cell (b := b2) (by omega) (off2 + i)).trans ((hb0.cell (p := ⟨b2, off2 + i, none⟩) hb2).trans (hcs2 i hB))
      have HY := Lib.hid (List.getD_eq_getElem?_getD (l := ys) (i := i) (a := 0))
      rw [List.getD_eq_getElem?_getD] at dy
      clear hcs2
      generalize ys[i]?.getD 0 = y at *
      go_wp2_with fail
      all_goals
       go_roundw
       case rel => exact HN.out _ _ x y HZ.out HY.out (by omega) (by omega) (by omega)
       case measure => simp [intOf]; omega
     ·have HY := Lib.hid (show ys.getD i 0 = 0 from gD_ge (by have := HL2.out; omega))
      go_wp2_with fail
      all_goals
       go_roundw
       case rel => exact HN.out _ _ x 0 HZ.out HY.out (by omega) (by omega) (by omega)
       case measure => simp [intOf]; omega
    ·have HZ := Lib.hid (show zs.getD i 0 = 0 from gD_ge (by have := HL.out; omega))
     by_cases hB : i < n2
     ·obtain ⟨b2, off2, rfl, hb2, hcs2⟩ := hs2.at (by omega)
      have c2' := (hrow.only.cell (b := b2) (by omega) (off2 + i)).trans ((hb0.cell (p := ⟨b2, off2 + i, none⟩) hb2).trans (hcs2 i hB))
      have HY := Lib.hid (List.getD_eq_getElem?_getD (l := ys) (i := i) (a := 0))
      rw [List.getD_eq_getElem?_getD] at dy
      clear hcs2
      generalize ys[i]?.getD 0 = y at *
      go_wp2_with fail
      all_goals
       go_roundw
       case rel => exact HN.out _ _ 0 y HZ.out HY.out (by omega) (by omega) (by omega)
       case measure => simp [intOf]; omega
     ·have HY := Lib.hid (show ys.getD i 0 = 0 from gD_ge (by have := HL2.out; omega))
      go_wp2_with fail
      all_goals
       go_roundw
       case rel => exact HN.out _ _ 0 0 HZ.out HY.out (by omega) (by omega) (by omega)
       case measure => simp [intOf]; omega
   ·obtain rfl : i = m + 1 := by omega
    have hqs : Dig qs := by have := HD.out; rwa [List.take_of_length_le (by have := HQ.out; omega)] at this
    have hvz := val_lt hd
    have hvy := val_lt hd2
    have hz0 := val_nonneg hd
    have hy0 := val_nonneg hd2
    have pz := p4_mono (show zs.length ≤ m by have := HL.out; omega)
    have py := p4_mono (show ys.length ≤ m by have := HL2.out; omega)
    have hV : val qs = val zs + 1 * val ys := by
     have h1 := HV.out
     rw [List.take_of_length_le (by have := HQ.out; omega), val_take_all _ _ (by have := HL.out; omega), val_take_all _ _ (by have := HL2.out; omega)] at h1
     refine sum_end hqs HQ.out h1 ?_ ?_
     ·have := HG.out
      simp at this
      omega
     ·rw [Int.pow_succ]; have := p4_pos m; omega
    have HVV := Lib.hid hV
    have hnm : m + 1 ≤ maxLen := by unfold maxLen; omega
    have hsx := hrow.sx HQ.out hnm
    have hbw := hrow.below hb0 (Nat.le_refl _)
    have HSX := Lib.hid hsx
    clear hV hvz hvy pz py hsx hrow
    go_wp2_with fail
    go_ret
    exact ⟨_, _, _, qs, rfl, HSX.out, hqs, HVV.out, by omega, (fun A e => by cases e; exact Nat.le_refl _), hbw⟩
 ·go_enter Tryz.func73, Tryz.ntmps73
  go_wp2_with (first | (at_make; refine wpList_make_full _ rfl _ _ 78 rfl w.heap.size 3 i0 (.int .i64 0) 1 Tryz.underlying78 hi hz0 hz1 .i64 .i64 _ _ (m + 1) rfl rfl rfl rfl (by rw [hz2]; omega) (by unfold maxLen; omega) (by simp) ?_; intro W0 hm0 hg0; have hr0 := RowW.start hm0; have hb0 := made_below (B := w.heap.size) (a := w) bel hg0 (by simp; try omega); have hz0s := hg0.size; clear hm0 hg0))
  have hsz0 := blk_lt' hr0.row
  go_loopw [8, 20] (fun cv iv wr => AlRel W0 w.heap.size zs ys (-1) (m + 1) cv iv wr) (fun _ iv _ => m + 1 - (intOf iv).toNat)
  case atStart => exact ⟨0, List.replicate (m + 1) 0, 0, rfl, rfl, by omega, by simp, by simp [Dig.nil], by omega, by simp [val], hr0⟩
  case round =>
   obtain ⟨i, qs, cc, rfl, rfl, hi1, hql, hqd, hc, hv, hrow⟩ := hrel
   have HQ := Lib.hid hql
   have HV := Lib.hid hv
   have HD := Lib.hid hqd
   have hcb : -1 ≤ cc ∧ cc ≤ 1 := by omega
   clear hql hv hqd
   by_cases h0 : i < m + 1
   ·have hlt : (i : Int) < (m : Int) + 1 := by omega
    have dz := hd.getD i
    have dy := hd2.getD i
    have hg2 := hrow.free i
    have hg1 := hrow.cell (j := i) (by have := HQ.out; omega)
    have HN := Lib.hid (fun (r c' x y : Int) (h1 : zs.getD i 0 = x) (h2 : ys.getD i 0 = y) (h3 : _) (h4 : _) (h5 : _) => al_next (s := (-1)) (r := r) (c' := c') (x := x) (y := y) h0 HQ.out HD.out HV.out h1 h2 h3 h4 h5 hrow)
    by_cases hA : i < n
    ·obtain ⟨b1, off1, rfl, hb1, hcs⟩ := hs.at (by omega)
     have c1 := (hrow.only.cell (b := b1) (by omega) (off1 + i)).trans ((hb0.cell (p := ⟨b1, off1 + i, none⟩) hb1).trans (hcs i hA))
     have HZ := Lib.hid (List.getD_eq_getElem?_getD (l := zs) (i := i) (a := 0))
     rw [List.getD_eq_getElem?_getD] at dz
     clear hcs
     generalize zs[i]?.getD 0 = x at *
     by_cases hB : i < n2
     ·obtain ⟨b2, off2, rfl, hb2, hcs2⟩ := hs2.at (by omega)
      have c2' := (hrow.only.cell (b := b2) (by omega) (off2 + i)).trans ((hb0.cell (p := ⟨b2, off2 + i, none⟩) hb2).trans (hcs2 i hB))
      have HY := Lib.hid (List.getD_eq_getElem?_getD (l := ys) (i := i) (a := 0))
      rw [List.getD_eq_getElem?_getD] at dy
      clear hcs2
      generalize ys[i]?.getD 0 = y at *
      go_wp2_with fail
      all_goals
       go_roundw
       case rel => exact HN.out _ _ x y HZ.out HY.out (by omega) (by omega) (by omega)
       case measure => simp [intOf]; omega
     ·have HY := Lib.hid (show ys.getD i 0 = 0 from gD_ge (by have := HL2.out; omega))
      go_wp2_with fail
      all_goals
       go_roundw
       case rel => exact HN.out _ _ x 0 HZ.out HY.out (by omega) (by omega) (by omega)
       case measure => simp [intOf]; omega
    ·have HZ := Lib.hid (show zs.getD i 0 = 0 from gD_ge (by have := HL.out; omega))
     by_cases hB : i < n2
     ·obtain ⟨b2, off2, rfl, hb2, hcs2⟩ := hs2.at (by omega)
      have c2' := (hrow.only.cell (b := b2) (by omega) (off2 + i)).trans ((hb0.cell (p := ⟨b2, off2 + i, none⟩) hb2).trans (hcs2 i hB))
      have HY := Lib.hid (List.getD_eq_getElem?_getD (l := ys) (i := i) (a := 0))
      rw [List.getD_eq_getElem?_getD] at dy
      clear hcs2
      generalize ys[i]?.getD 0 = y at *
      go_wp2_with fail
      all_goals
       go_roundw
       case rel => exact HN.out _ _ 0 y HZ.out HY.out (by omega) (by omega) (by omega)
       case measure => simp [intOf]; omega
     ·have HY := Lib.hid (show ys.getD i 0 = 0 from gD_ge (by have := HL2.out; omega))
      go_wp2_with fail
      all_goals
       go_roundw
       case rel => exact HN.out _ _ 0 0 HZ.out HY.out (by omega) (by omega) (by omega)
       case measure => simp [intOf]; omega
   ·obtain rfl : i = m + 1 := by omega
    have hqs : Dig qs := by have := HD.out; rwa [List.take_of_length_le (by have := HQ.out; omega)] at this
    have hvz := val_lt hd
    have hvy := val_lt hd2
    have hz0 := val_nonneg hd
    have hy0 := val_nonneg hd2
    have pz := p4_mono (show zs.length ≤ m by have := HL.out; omega)
    have py := p4_mono (show ys.length ≤ m by have := HL2.out; omega)
    have hV : val qs = val zs + (-1) * val ys := by
     have h1 := HV.out
     rw [List.take_of_length_le (by have := HQ.out; omega), val_take_all _ _ (by have := HL.out; omega), val_take_all _ _ (by have := HL2.out; omega)] at h1
     refine sum_end hqs HQ.out h1 ?_ ?_
     ·have := HG.out
      simp at this
      omega
     ·rw [Int.pow_succ]; have := p4_pos m; omega
    have HVV := Lib.hid hV
    have hnm : m + 1 ≤ maxLen := by unfold maxLen; omega
    have hsx := hrow.sx HQ.out hnm
    have hbw := hrow.below hb0 (Nat.le_refl _)
    have HSX := Lib.hid hsx
    clear hV hvz hvy pz py hsx hrow
    go_wp2_with fail
    go_ret
    exact ⟨_, _, _, qs, rfl, HSX.out, hqs, HVV.out, by omega, (fun A e => by cases e; exact Nat.le_refl _), hbw⟩
end
section
open Go.RowKit
set_option linter.unusedVariables false
set_option maxHeartbeats 1000000
set_option maxRecDepth 20000
set_option linter.unusedSimpArgs false
attribute [local go_sem] openAt openUpon
theorem addWholes_eq {b b2 : Bool} {a a2 : Option Addr} {n c n2 c2 : Nat} {x y v : Int} {w : World} (hs : Wx w b a n c x) (hs2 : Wx w b2 a2 n2 c2 y) (e : x + y = v) (l1 : ln x ≤ 10000) (l2 : ln y ≤ 10000) :
  Calls Tryz.prog 54 #[.agg #[.bool b, .slice a n c], .agg #[.bool b2, .slice a2 n2 c2]] w (NewW w v) := by
 have hl : n ≤ 10000 := by have := hs.ln; omega
 have hl2 : n2 ≤ 10000 := by have := hs2.ln; omega
 have TC : ∀ {b b2 : Bool} {a a2 : Option Addr} {n c n2 c2 : Nat} {x y : Int} (W : World) (s V : Int), Wx W b a n c x → Wx W b2 a2 n2 c2 y → n ≤ 10000 → n2 ≤ 10000 → (s = 1 ∨ s = -1) → (s = -1 → ab y ≤ ab x) → ab x + s * ab y = V → Calls Tryz.prog 73 #[.slice a n c, .slice a2 n2 c2, .int .i64 s] W (NewD W V 90001) := fun {b b2 a a2 n c n2 c2 x y} W s V h1 h2 g1 g2 h3 h4 h5 => by
  have := addLimbs_any a a2 n c n2 c2 s _ _ W h1.row h2.row (limbs_dig _) (limbs_dig _) (by omega) (by omega) h3 (by rw [val_ab', val_ab']; exact h4)
  rwa [val_ab', val_ab', h5] at this
 have TM : ∀ (W : World) (b : Bool) (V z : Int) (a : Option Addr) (n c : Nat) (zs : List Int), Sx W a n c zs → Dig zs → val zs = V → n ≤ 100001 → mkW b V = z → Calls Tryz.prog 72 #[.bool b, .slice a n c] W (NewW W z) := fun W b V z a n c zs h1 h2 h3 h4 h5 => by
  have := trimmed_any b a n c zs W h1 (by omega) h2
  rw [h3, h5] at this
  exact this
 have hn := hs.neg
 have hn2 := hs2.neg
 have E := Lib.hid e
 clear e
 by_cases hsame : b = b2
 ·have E1 := Lib.hid (show mkW b (ab x + ab y) = v by rw [hn, add_same (by rw [← hn, ← hn2, hsame]), E.out])
  subst hsame
  have P1 := Lib.hid (show ab x + 1 * ab y = ab x + ab y by omega)
  clear hn hn2
  go_enter Tryz.func54, Tryz.ntmps54
  go_wp2_with fail
  refine chk (fun W => Below w.heap.size w W ∧ W.heap[w.heap.size]? = some (.cells #[.bool b, .slice a n c] 80 (0, 0)) ∧ W.heap[w.heap.size + 1]? = some (.cells #[.bool b, .slice a2 n2 c2] 80 (0, 0)) ∧ W.heap[w.heap.size + 1 + 1]? = some (.cells #[.bool false, .slice none 0 0] 80 (0, 0)) ∧ Wx W b a n c x ∧ Wx W b a2 n2 c2 y) (by refine ⟨?_, ?_, ?_, ?_, ?_, ?_⟩ <;> (exact ck)) ?_
  try clear hs
  try clear hs2
  rintro w1 ⟨hB1, qc, qd, qe, hs', hs2'⟩
  obtain ⟨qj, qk, xm, zm⟩ := bk2 qc
  replace qc := Lib.hid qc
  obtain ⟨qn, qo, xn, zn⟩ := bk2 qd
  replace qd := Lib.hid qd
  obtain ⟨qt, qu, xo, zo⟩ := bk2 qe
  replace qe := Lib.hid qe
  have hs := hs'
  clear hs'
  have hs2 := hs2'
  clear hs2'
  refine wp_open (n := 8) (by kernel_rfl) (by kernel_rfl) (by kernel_rfl) (by kernel_rfl) ?_
  simp only [List.take_succ_cons, List.take_zero]
  apply wpS_quiet
  ·intro γ W hW hp
   refine ⟨rfl, ?_⟩
   go_big_quiet_op
   first | exact rfl
  ·exact locS_const _
  try simp only [Act.put, List.setIfInBounds_toArray, List.set_cons_succ, List.set_cons_zero, Nat.reduceAdd]
  apply wpS_quiet
  ·intro γ W hW hp
   have hs := hW.size
   (try simp only [sA, sB, sC, sD] at hs)
   have qz := fun x => (xcA hW (w.heap.size) 0 (by first | omega | go_size) x).trans qj
   have xc := fun x => (xcA hW (w.heap.size) 1 (by first | omega | go_size) x).trans qk
   clear hW hp
   refine ⟨rfl, ?_⟩
   go_big_quiet_op
   first | exact rfl
  ·exact locS_const _
  try simp only [Act.put, List.setIfInBounds_toArray, List.set_cons_succ, List.set_cons_zero, Nat.reduceAdd]
  apply wpS_quiet
  ·intro γ W hW hp
   refine ⟨rfl, ?_⟩
   go_big_quiet_op
   first | exact rfl
  ·exact locS_const _
  try simp only [Act.put, List.setIfInBounds_toArray, List.set_cons_succ, List.set_cons_zero, Nat.reduceAdd]
  apply wpS_quiet
  ·intro γ W hW hp
   have hs := hW.size
   (try simp only [sA, sB, sC, sD] at hs)
   have qz := fun x => (xcA hW (w.heap.size) 0 (by first | omega | go_size) x).trans qj
   have xc := fun x => (xcA hW (w.heap.size) 1 (by first | omega | go_size) x).trans qk
   clear hW hp
   refine ⟨rfl, ?_⟩
   go_big_quiet_op
   first | exact rfl
  ·exact locS_const _
  try simp only [Act.put, List.setIfInBounds_toArray, List.set_cons_succ, List.set_cons_zero, Nat.reduceAdd]
  apply wpS_quiet
  ·intro γ W hW hp
   refine ⟨rfl, ?_⟩
   go_big_quiet_op
   first | exact rfl
  ·exact locS_const _
  try simp only [Act.put, List.setIfInBounds_toArray, List.set_cons_succ, List.set_cons_zero, Nat.reduceAdd]
  apply wpS_quiet
  ·intro γ W hW hp
   have hs := hW.size
   (try simp only [sA, sB, sC, sD] at hs)
   have qz := fun x => (xcA hW (w.heap.size + 1) 0 (by first | omega | go_size) x).trans qn
   have xc := fun x => (xcA hW (w.heap.size + 1) 1 (by first | omega | go_size) x).trans qo
   clear hW hp
   refine ⟨rfl, ?_⟩
   go_big_quiet_op
   first | exact rfl
  ·exact locS_const _
  try simp only [Act.put, List.setIfInBounds_toArray, List.set_cons_succ, List.set_cons_zero, Nat.reduceAdd]
  apply wpS_open (openD w.heap.size (ab x + ab y) 90001)
  ·intro γ W hW hp
   refine ⟨rfl, ?_⟩
   go_simp
   refine plainNew rfl ?_
   exact open_D (TC W 1 _ (hs.below hW) (hs2.below hW) hl hl2 (.inl rfl) (fun e => by omega) P1.out) (by (have := hW.size; (try simp only [sA, sB, sC, sD] at this); omega))
  try simp only [Act.put, List.setIfInBounds_toArray, List.set_cons_succ, List.set_cons_zero, Nat.reduceAdd]
  apply wpS_open (openW w.heap.size v)
  ·intro γ W hW hp
   have xd := hp _ (mR _) (by kernel_rfl)
   dsimp only at xd
   refine ⟨rfl, ?_⟩
   go_simp
   refine plainNew rfl ?_
   obtain ⟨a6, n6, c6, zs6, e6, h6, d6, v6, m6, _⟩ := xd
   rw [e6]
   exact open_W (TM _ _ _ _ _ _ _ _ h6 d6 v6 (by omega) E1.out) (by (have := hW.size; (try simp only [sA, sB, sC, sD] at this); omega))
  try simp only [Act.put, List.setIfInBounds_toArray, List.set_cons_succ, List.set_cons_zero, Nat.reduceAdd]
  apply wpS_end
  intro γ w2 hb2 hG2 hA2
  have zp := hG2 _ (mL _ (mR _))
  dsimp only at zp
  have zq := hG2 _ (mR _)
  dsimp only at zq
  clear hG2 hA2
  simp only [List.drop_succ_cons, List.drop_zero]
  have hz2 := hb2.size
  (try simp only [sA, sB, sC, sD] at hz2)
  obtain ⟨b7, a7, n7, c7, e7, h7, f7⟩ := zq
  simp only [e7]
  clear e7 zp
  have qg := (hb2.block (w.heap.size) (blk_lt' qc.out)).trans qc.out
  clear qj qk xm qc
  obtain ⟨qq, qr, xu, zr⟩ := bk2 qg
  replace qg := Lib.hid qg
  have qh := (hb2.block (w.heap.size + 1) (blk_lt' qd.out)).trans qd.out
  clear qn qo xn qd
  obtain ⟨qv, qw, xv, zt⟩ := bk2 qh
  replace qh := Lib.hid qh
  have qf := (hb2.block (w.heap.size + 1 + 1) (blk_lt' qe.out)).trans qe.out
  clear qt qu xo qe
  obtain ⟨qx, qy, xw, zu⟩ := bk2 qf
  replace qf := Lib.hid qf
  replace hs := hs.below hb2
  replace hs2 := hs2.below hb2
  have hB2 : Below w.heap.size w w2 := below_via hb2 (by assumption) (by go_size)
  go_wp2_with fail
  refine bodyPost_ret (v := .agg #[.bool b7, .slice a7 n7 c7]) (by simp [results, Tryz.results54, go_sem, qx, qy]) rfl ⟨_, _, _, _, rfl, ?_, f7, ?_⟩
  ·have HO := qf.out
   (exact ck)
  ·(exact ck)
 ·have hb : (b == b2) = false := by simpa using hsame
  have hne : ngB x ≠ ngB y := by rw [← hn, ← hn2]; exact hsame
  by_cases hge : ab y ≤ ab x
  ·have E1 := Lib.hid (show mkW b (ab x - ab y) = v by rw [hn, add_other hne hge, E.out])
   have P1 := Lib.hid (show ab x + -1 * ab y = ab x - ab y by omega)
   have HG := Lib.hid hge
   have hcm : ¬ cmpI (ab x) (ab y) < 0 := by
    unfold cmpI
    split
    ·omega
    ·split <;> omega
   have T3 := fun (W : World) (h1 : Wx W b a n c x) (h2 : Wx W b2 a2 n2 c2 y) => Lib.hid (compareSizes_any b b2 a a2 n c n2 c2 x y W h1 h2 (by omega) (by omega))
   generalize cmpI (ab x) (ab y) = cm at *
   clear hn hn2 hne hge hsame
   have tok1 := trivial
   have tok2 := trivial
   go_enter Tryz.func54, Tryz.ntmps54
   go_upto_region 1 with (fail)
   refine chk (fun W => Below w.heap.size w W ∧ W.heap[w.heap.size]? = some (.cells #[.bool b, .slice a n c] 80 (0, 0)) ∧ W.heap[w.heap.size + 1]? = some (.cells #[.bool b2, .slice a2 n2 c2] 80 (0, 0)) ∧ W.heap[w.heap.size + 1 + 1]? = some (.cells #[.bool false, .slice none 0 0] 80 (0, 0)) ∧ Wx W b a n c x ∧ Wx W b2 a2 n2 c2 y) (by refine ⟨?_, ?_, ?_, ?_, ?_, ?_⟩ <;> (exact ck)) ?_
   try clear hs
   try clear hs2
   rintro w1 ⟨hB1, qc, qd, qe, hs', hs2'⟩
   obtain ⟨qj, qk, xm, zm⟩ := bk2 qc
   replace qc := Lib.hid qc
   obtain ⟨qn, qo, xn, zn⟩ := bk2 qd
   replace qd := Lib.hid qd
   obtain ⟨qt, qu, xo, zo⟩ := bk2 qe
   replace qe := Lib.hid qe
   have hs := hs'
   clear hs'
   have hs2 := hs2'
   clear hs2'
   go_wp2_with (first | (have _t := tok2; go_at_call 74; (with_reducible refine ((T3 _ hs hs2).out).mono ?_); rintro e w2 ⟨rfl, hb2⟩; clear tok2 _t; have hz2 := hb2.size; (try simp only [sA, sB, sC, sD] at hz2); (try (obtain ⟨kq, za⟩ := cfAt hb2 (w.heap.size); have xg := kq 0; have xh := kq 1; clear kq; simp [go_sem, *] at xg xh za)); (try have jf : w.heap.size < w2.heap.size := by omega); (try (obtain ⟨kq, zb⟩ := cfAt hb2 (w.heap.size + 1); have xi := kq 0; have xj := kq 1; clear kq; simp [go_sem, *] at xi xj zb)); (try have jg : w.heap.size + 1 < w2.heap.size := by omega); (try (obtain ⟨kq, zc⟩ := cfAt hb2 (w.heap.size + 1 + 1); have xk := kq 0; have xl := kq 1; clear kq; simp [go_sem, *] at xk xl zc)); (try have jh : w.heap.size + 1 + 1 < w2.heap.size := by omega); (try clear zf zg ji); (try clear jj); (try clear zh zi jk); (try clear jl); (try clear zj zk jm); (try clear jn)))
   have qg := (hb2.block (w.heap.size) (blk_lt' qc.out)).trans qc.out
   clear qj qk xm qc
   obtain ⟨qq, qr, xu, zr⟩ := bk2 qg
   replace qg := Lib.hid qg
   have qh := (hb2.block (w.heap.size + 1) (blk_lt' qd.out)).trans qd.out
   clear qn qo xn qd
   obtain ⟨qv, qw, xv, zt⟩ := bk2 qh
   replace qh := Lib.hid qh
   have qf := (hb2.block (w.heap.size + 1 + 1) (blk_lt' qe.out)).trans qe.out
   clear qt qu xo qe
   obtain ⟨qx, qy, xw, zu⟩ := bk2 qf
   replace qf := Lib.hid qf
   replace hs := hs.below hb2
   replace hs2 := hs2.below hb2
   have hB2 : Below w.heap.size w w2 := below_via hb2 (by assumption) (by go_size)
   refine wp_open (n := 8) (by kernel_rfl) (by kernel_rfl) (by kernel_rfl) (by kernel_rfl) ?_
   simp only [List.take_succ_cons, List.take_zero]
   apply wpS_quiet
   ·intro γ W hW hp
    refine ⟨rfl, ?_⟩
    go_big_quiet_op
    first | exact rfl
   ·exact locS_const _
   try simp only [Act.put, List.setIfInBounds_toArray, List.set_cons_succ, List.set_cons_zero, Nat.reduceAdd]
   apply wpS_quiet
   ·intro γ W hW hp
    have hs := hW.size
    (try simp only [sA, sB, sC, sD] at hs)
    have qz := fun x => (xcA hW (w.heap.size) 0 (by first | omega | go_size) x).trans qq
    have xc := fun x => (xcA hW (w.heap.size) 1 (by first | omega | go_size) x).trans qr
    clear hW hp
    refine ⟨rfl, ?_⟩
    go_big_quiet_op
    first | exact rfl
   ·exact locS_const _
   try simp only [Act.put, List.setIfInBounds_toArray, List.set_cons_succ, List.set_cons_zero, Nat.reduceAdd]
   apply wpS_quiet
   ·intro γ W hW hp
    refine ⟨rfl, ?_⟩
    go_big_quiet_op
    first | exact rfl
   ·exact locS_const _
   try simp only [Act.put, List.setIfInBounds_toArray, List.set_cons_succ, List.set_cons_zero, Nat.reduceAdd]
   apply wpS_quiet
   ·intro γ W hW hp
    have hs := hW.size
    (try simp only [sA, sB, sC, sD] at hs)
    have qz := fun x => (xcA hW (w.heap.size) 0 (by first | omega | go_size) x).trans qq
    have xc := fun x => (xcA hW (w.heap.size) 1 (by first | omega | go_size) x).trans qr
    clear hW hp
    refine ⟨rfl, ?_⟩
    go_big_quiet_op
    first | exact rfl
   ·exact locS_const _
   try simp only [Act.put, List.setIfInBounds_toArray, List.set_cons_succ, List.set_cons_zero, Nat.reduceAdd]
   apply wpS_quiet
   ·intro γ W hW hp
    refine ⟨rfl, ?_⟩
    go_big_quiet_op
    first | exact rfl
   ·exact locS_const _
   try simp only [Act.put, List.setIfInBounds_toArray, List.set_cons_succ, List.set_cons_zero, Nat.reduceAdd]
   apply wpS_quiet
   ·intro γ W hW hp
    have hs := hW.size
    (try simp only [sA, sB, sC, sD] at hs)
    have qz := fun x => (xcA hW (w.heap.size + 1) 0 (by first | omega | go_size) x).trans qv
    have xc := fun x => (xcA hW (w.heap.size + 1) 1 (by first | omega | go_size) x).trans qw
    clear hW hp
    refine ⟨rfl, ?_⟩
    go_big_quiet_op
    first | exact rfl
   ·exact locS_const _
   try simp only [Act.put, List.setIfInBounds_toArray, List.set_cons_succ, List.set_cons_zero, Nat.reduceAdd]
   apply wpS_open (openD w.heap.size (ab x - ab y) 90001)
   ·intro γ W hW hp
    refine ⟨rfl, ?_⟩
    go_simp
    refine plainNew rfl ?_
    exact open_D (TC W (-1) _ (hs.below hW) (hs2.below hW) hl hl2 (.inr rfl) (fun e => HG.out) P1.out) (by (have := hW.size; (try simp only [sA, sB, sC, sD] at this); omega))
   try simp only [Act.put, List.setIfInBounds_toArray, List.set_cons_succ, List.set_cons_zero, Nat.reduceAdd]
   apply wpS_open (openW w.heap.size v)
   ·intro γ W hW hp
    have xd := hp _ (mR _) (by kernel_rfl)
    dsimp only at xd
    refine ⟨rfl, ?_⟩
    go_simp
    refine plainNew rfl ?_
    obtain ⟨a6, n6, c6, zs6, e6, h6, d6, v6, m6, _⟩ := xd
    rw [e6]
    exact open_W (TM _ _ _ _ _ _ _ _ h6 d6 v6 (by omega) E1.out) (by (have := hW.size; (try simp only [sA, sB, sC, sD] at this); omega))
   try simp only [Act.put, List.setIfInBounds_toArray, List.set_cons_succ, List.set_cons_zero, Nat.reduceAdd]
   apply wpS_end
   intro γ w3 hb3 hG3 hA3
   have zv := hG3 _ (mL _ (mR _))
   dsimp only at zv
   have zw := hG3 _ (mR _)
   dsimp only at zw
   clear hG3 hA3
   simp only [List.drop_succ_cons, List.drop_zero]
   have hz3 := hb3.size
   (try simp only [sA, sB, sC, sD] at hz3)
   obtain ⟨b7, a7, n7, c7, e7, h7, f7⟩ := zw
   simp only [e7]
   clear e7 zv
   have ql := (hb3.block (w.heap.size) (blk_lt' qg.out)).trans qg.out
   clear qq qr xu qg
   obtain ⟨xe, xf, zx, jo⟩ := bk2 ql
   replace ql := Lib.hid ql
   have qm := (hb3.block (w.heap.size + 1) (blk_lt' qh.out)).trans qh.out
   clear qv qw xv qh
   obtain ⟨xp, xq, zy, jp⟩ := bk2 qm
   replace qm := Lib.hid qm
   have qi := (hb3.block (w.heap.size + 1 + 1) (blk_lt' qf.out)).trans qf.out
   clear qx qy xw qf
   obtain ⟨xr, xt, ja, jq⟩ := bk2 qi
   replace qi := Lib.hid qi
   replace hs := hs.below hb3
   replace hs2 := hs2.below hb3
   have hB3 : Below w.heap.size w w3 := below_via hb3 (by assumption) (by go_size)
   go_wp2_with fail
   refine bodyPost_ret (v := .agg #[.bool b7, .slice a7 n7 c7]) (by simp [results, Tryz.results54, go_sem, xr, xt]) rfl ⟨_, _, _, _, rfl, ?_, f7, ?_⟩
   ·have HO := qi.out
    (exact ck)
   ·(exact ck)
  ·have E1 := Lib.hid (show mkW b2 (ab y - ab x) = v by rw [hn2, add_other (fun e => hne e.symm) (by omega), Int.add_comm, E.out])
   have P1 := Lib.hid (show ab y + -1 * ab x = ab y - ab x by omega)
   have HG := Lib.hid (show ab x ≤ ab y by omega)
   have hcm : cmpI (ab x) (ab y) < 0 := by rw [cmp_lt (by omega)]; omega
   have T3 := fun (W : World) (h1 : Wx W b a n c x) (h2 : Wx W b2 a2 n2 c2 y) => Lib.hid (compareSizes_any b b2 a a2 n c n2 c2 x y W h1 h2 (by omega) (by omega))
   generalize cmpI (ab x) (ab y) = cm at *
   clear hn hn2 hne hge hsame
   have tok1 := trivial
   have tok2 := trivial
   go_enter Tryz.func54, Tryz.ntmps54
   go_upto_region 1 with (fail)
   refine chk (fun W => Below w.heap.size w W ∧ W.heap[w.heap.size]? = some (.cells #[.bool b, .slice a n c] 80 (0, 0)) ∧ W.heap[w.heap.size + 1]? = some (.cells #[.bool b2, .slice a2 n2 c2] 80 (0, 0)) ∧ W.heap[w.heap.size + 1 + 1]? = some (.cells #[.bool false, .slice none 0 0] 80 (0, 0)) ∧ Wx W b a n c x ∧ Wx W b2 a2 n2 c2 y) (by refine ⟨?_, ?_, ?_, ?_, ?_, ?_⟩ <;> (exact ck)) ?_
   try clear hs
   try clear hs2
   rintro w1 ⟨hB1, qc, qd, qe, hs', hs2'⟩
   obtain ⟨qj, qk, xm, zm⟩ := bk2 qc
   replace qc := Lib.hid qc
   obtain ⟨qn, qo, xn, zn⟩ := bk2 qd
   replace qd := Lib.hid qd
   obtain ⟨qt, qu, xo, zo⟩ := bk2 qe
   replace qe := Lib.hid qe
   have hs := hs'
   clear hs'
   have hs2 := hs2'
   clear hs2'
   go_wp2_with (first | (have _t := tok2; go_at_call 74; (with_reducible refine ((T3 _ hs hs2).out).mono ?_); rintro e w2 ⟨rfl, hb2⟩; clear tok2 _t; have hz2 := hb2.size; (try simp only [sA, sB, sC, sD] at hz2); (try (obtain ⟨kq, za⟩ := cfAt hb2 (w.heap.size); have xg := kq 0; have xh := kq 1; clear kq; simp [go_sem, *] at xg xh za)); (try have jf : w.heap.size < w2.heap.size := by omega); (try (obtain ⟨kq, zb⟩ := cfAt hb2 (w.heap.size + 1); have xi := kq 0; have xj := kq 1; clear kq; simp [go_sem, *] at xi xj zb)); (try have jg : w.heap.size + 1 < w2.heap.size := by omega); (try (obtain ⟨kq, zc⟩ := cfAt hb2 (w.heap.size + 1 + 1); have xk := kq 0; have xl := kq 1; clear kq; simp [go_sem, *] at xk xl zc)); (try have jh : w.heap.size + 1 + 1 < w2.heap.size := by omega); (try clear zf zg ji); (try clear jj); (try clear zh zi jk); (try clear jl); (try clear zj zk jm); (try clear jn)))
   have qg := (hb2.block (w.heap.size) (blk_lt' qc.out)).trans qc.out
   clear qj qk xm qc
   obtain ⟨qq, qr, xu, zr⟩ := bk2 qg
   replace qg := Lib.hid qg
   have qh := (hb2.block (w.heap.size + 1) (blk_lt' qd.out)).trans qd.out
   clear qn qo xn qd
   obtain ⟨qv, qw, xv, zt⟩ := bk2 qh
   replace qh := Lib.hid qh
   have qf := (hb2.block (w.heap.size + 1 + 1) (blk_lt' qe.out)).trans qe.out
   clear qt qu xo qe
   obtain ⟨qx, qy, xw, zu⟩ := bk2 qf
   replace qf := Lib.hid qf
   replace hs := hs.below hb2
   replace hs2 := hs2.below hb2
   have hB2 : Below w.heap.size w w2 := below_via hb2 (by assumption) (by go_size)
   replace qg := qg.out
   replace qh := qh.out
   replace qf := qf.out
   refine chk (fun W => Below w.heap.size w W ∧ W.heap[w.heap.size]? = some (.cells #[.bool b2, .slice a2 n2 c2] 80 (0, 0)) ∧ W.heap[w.heap.size + 1]? = some (.cells #[.bool b, .slice a n c] 80 (0, 0)) ∧ W.heap[w.heap.size + 1 + 1]? = some (.cells #[.bool false, .slice none 0 0] 80 (0, 0)) ∧ Wx W b a n c x ∧ Wx W b2 a2 n2 c2 y) (by refine ⟨?_, ?_, ?_, ?_, ?_, ?_⟩ <;> (exact ck)) ?_
   try clear hs
   try clear hs2
   clear qq qr xu qg
   clear qv qw xv qh
   clear qx qy xw qf
   clear hB2
   rintro w3 ⟨hB3, ql, qm, qi, hs', hs2'⟩
   obtain ⟨xe, xf, zx, jo⟩ := bk2 ql
   replace ql := Lib.hid ql
   obtain ⟨xp, xq, zy, jp⟩ := bk2 qm
   replace qm := Lib.hid qm
   obtain ⟨xr, xt, ja, jq⟩ := bk2 qi
   replace qi := Lib.hid qi
   have hs := hs'
   clear hs'
   have hs2 := hs2'
   clear hs2'
   refine wp_open (n := 8) (by kernel_rfl) (by kernel_rfl) (by kernel_rfl) (by kernel_rfl) ?_
   simp only [List.take_succ_cons, List.take_zero]
   apply wpS_quiet
   ·intro γ W hW hp
    refine ⟨rfl, ?_⟩
    go_big_quiet_op
    first | exact rfl
   ·exact locS_const _
   try simp only [Act.put, List.setIfInBounds_toArray, List.set_cons_succ, List.set_cons_zero, Nat.reduceAdd]
   apply wpS_quiet
   ·intro γ W hW hp
    have hs := hW.size
    (try simp only [sA, sB, sC, sD] at hs)
    have qz := fun x => (xcA hW (w.heap.size) 0 (by first | omega | go_size) x).trans xe
    have xc := fun x => (xcA hW (w.heap.size) 1 (by first | omega | go_size) x).trans xf
    clear hW hp
    refine ⟨rfl, ?_⟩
    go_big_quiet_op
    first | exact rfl
   ·exact locS_const _
   try simp only [Act.put, List.setIfInBounds_toArray, List.set_cons_succ, List.set_cons_zero, Nat.reduceAdd]
   apply wpS_quiet
   ·intro γ W hW hp
    refine ⟨rfl, ?_⟩
    go_big_quiet_op
    first | exact rfl
   ·exact locS_const _
   try simp only [Act.put, List.setIfInBounds_toArray, List.set_cons_succ, List.set_cons_zero, Nat.reduceAdd]
   apply wpS_quiet
   ·intro γ W hW hp
    have hs := hW.size
    (try simp only [sA, sB, sC, sD] at hs)
    have qz := fun x => (xcA hW (w.heap.size) 0 (by first | omega | go_size) x).trans xe
    have xc := fun x => (xcA hW (w.heap.size) 1 (by first | omega | go_size) x).trans xf
    clear hW hp
    refine ⟨rfl, ?_⟩
    go_big_quiet_op
    first | exact rfl
   ·exact locS_const _
   try simp only [Act.put, List.setIfInBounds_toArray, List.set_cons_succ, List.set_cons_zero, Nat.reduceAdd]
   apply wpS_quiet
   ·intro γ W hW hp
    refine ⟨rfl, ?_⟩
    go_big_quiet_op
    first | exact rfl
   ·exact locS_const _
   try simp only [Act.put, List.setIfInBounds_toArray, List.set_cons_succ, List.set_cons_zero, Nat.reduceAdd]
   apply wpS_quiet
   ·intro γ W hW hp
    have hs := hW.size
    (try simp only [sA, sB, sC, sD] at hs)
    have qz := fun x => (xcA hW (w.heap.size + 1) 0 (by first | omega | go_size) x).trans xp
    have xc := fun x => (xcA hW (w.heap.size + 1) 1 (by first | omega | go_size) x).trans xq
    clear hW hp
    refine ⟨rfl, ?_⟩
    go_big_quiet_op
    first | exact rfl
   ·exact locS_const _
   try simp only [Act.put, List.setIfInBounds_toArray, List.set_cons_succ, List.set_cons_zero, Nat.reduceAdd]
   apply wpS_open (openD w.heap.size (ab y - ab x) 90001)
   ·intro γ W hW hp
    refine ⟨rfl, ?_⟩
    go_simp
    refine plainNew rfl ?_
    exact open_D (TC W (-1) _ (hs2.below hW) (hs.below hW) hl2 hl (.inr rfl) (fun e => HG.out) P1.out) (by (have := hW.size; (try simp only [sA, sB, sC, sD] at this); omega))
   try simp only [Act.put, List.setIfInBounds_toArray, List.set_cons_succ, List.set_cons_zero, Nat.reduceAdd]
   apply wpS_open (openW w.heap.size v)
   ·intro γ W hW hp
    have xd := hp _ (mR _) (by kernel_rfl)
    dsimp only at xd
    refine ⟨rfl, ?_⟩
    go_simp
    refine plainNew rfl ?_
    obtain ⟨a6, n6, c6, zs6, e6, h6, d6, v6, m6, _⟩ := xd
    rw [e6]
    exact open_W (TM _ _ _ _ _ _ _ _ h6 d6 v6 (by omega) E1.out) (by (have := hW.size; (try simp only [sA, sB, sC, sD] at this); omega))
   try simp only [Act.put, List.setIfInBounds_toArray, List.set_cons_succ, List.set_cons_zero, Nat.reduceAdd]
   apply wpS_end
   intro γ w4 hb4 hG4 hA4
   have jb := hG4 _ (mL _ (mR _))
   dsimp only at jb
   have jc := hG4 _ (mR _)
   dsimp only at jc
   clear hG4 hA4
   simp only [List.drop_succ_cons, List.drop_zero]
   have hz4 := hb4.size
   (try simp only [sA, sB, sC, sD] at hz4)
   obtain ⟨b7, a7, n7, c7, e7, h7, f7⟩ := jc
   simp only [e7]
   clear e7 jb
   have zd := (hb4.block (w.heap.size) (blk_lt' ql.out)).trans ql.out
   clear xe xf zx ql
   obtain ⟨jr, jt, jw, jx⟩ := bk2 zd
   replace zd := Lib.hid zd
   have ze := (hb4.block (w.heap.size + 1) (blk_lt' qm.out)).trans qm.out
   clear xp xq zy qm
   obtain ⟨ju, jv, jy, jz⟩ := bk2 ze
   replace ze := Lib.hid ze
   have xy := (hb4.block (w.heap.size + 1 + 1) (blk_lt' qi.out)).trans qi.out
   clear xr xt ja qi
   obtain ⟨jd, je, ya, yb⟩ := bk2 xy
   replace xy := Lib.hid xy
   replace hs := hs.below hb4
   replace hs2 := hs2.below hb4
   have hB4 : Below w.heap.size w w4 := below_via hb4 (by assumption) (by go_size)
   go_wp2_with fail
   refine bodyPost_ret (v := .agg #[.bool b7, .slice a7 n7 c7]) (by simp [results, Tryz.results54, go_sem, jd, je]) rfl ⟨_, _, _, _, rfl, ?_, f7, ?_⟩
   ·have HO := xy.out
    (exact ck)
   ·(exact ck)
end
section
open Go.RowKit
set_option linter.unusedVariables false
set_option maxHeartbeats 1000000
set_option maxRecDepth 20000
set_option linter.unusedSimpArgs false
attribute [local go_sem] openAt openUpon
theorem divWhole_pos (a : Option Addr) (n c : Nat) (z d : Int) (w : World) (hs : Wx w false a n c z) (hl : n ≤ 100000) (hd : 1 ≤ d) (hd2 : d ≤ 100000000000000) :
  Calls Tryz.prog 123 #[.agg #[.bool false, .slice a n c], .int .i64 d] w (NewQ w z d) := by
 obtain ⟨i0, hi, hz0, hz1, hz2⟩ := info_parts infoInt
 have tok1 := trivial
 have tok2 := trivial
 go_enter Tryz.func123, Tryz.ntmps123
 go_wp2_with (first | (at_make; refine wpList_make_full _ rfl _ _ 78 rfl (w.heap.size + 2) 3 i0 (.int .i64 0) 1 Tryz.underlying78 hi hz0 hz1 .i64 .i64 _ _ n rfl rfl rfl rfl (by rw [hz2]; omega) (by unfold maxLen; omega) (by simp) ?_; intro W0 hm0 hg0; have hr0 := RowW.start hm0; have hb0 := made_below (B := w.heap.size) (a := w) bel hg0 (by simp; try omega); have hz0s := hg0.size; have e0 := fun o => World.cell?_of_block (a := ⟨w.heap.size, o, none⟩) (made_at hg0 (by simp; try omega)); have e1 := fun o => World.cell?_of_block (a := ⟨w.heap.size + 1, o, none⟩) (made_at hg0 (by simp; try omega)); have f0 := fun o => World.frozen?_of_block (a := ⟨w.heap.size, o, none⟩) (made_at hg0 (by simp; try omega)); have f1 := fun o => World.frozen?_of_block (a := ⟨w.heap.size + 1, o, none⟩) (made_at hg0 (by simp; try omega)); have kA := e0 0; have kB := e0 1; have kC := e1 0; have kD := e1 1; clear e0 e1 hm0 hg0; simp [go_sem] at kA kB kC kD f0 f1; simp only [World.size_alloc] at hr0 hz0s))
 have hnm : n ≤ maxLen := by unfold maxLen; omega
 have hln := Lib.hid hs.row.len
 have hng := Lib.hid hs.neg.symm
 go_loopw [7, 8] (fun rv iv wr => OvRel W0 (w.heap.size + 1 + 1) d (limbs (ab z)) n rv iv wr) (fun _ iv _ => (intOf iv + 1).toNat)
 case atStart => exact ⟨n, 0, List.replicate n 0, rfl, rfl, Nat.le_refl _, by omega, by omega, by simp, Dig.zeros n, by rw [List.drop_eq_nil_of_le (by have := hln.out; omega), List.drop_eq_nil_of_le (by simp)]; simp [val], hr0⟩
 case round =>
  obtain ⟨k, rest, qs, rfl, rfl, hk, hr1, hr2, hqn, hqd, hqv, hrow⟩ := hrel
  have kA1 := (hrow.only.cell (b := w.heap.size) (by omega) 0).trans kA
  have kB1 := (hrow.only.cell (b := w.heap.size) (by omega) 1).trans kB
  have HQ := Lib.hid hqv
  have HL := Lib.hid hqn
  by_cases h0 : 0 < k
  ·obtain ⟨b, off, rfl, hb, hcs⟩ := hs.row.at (by omega)
   have hcell := (hrow.only.cell (b := b) (by omega) (off + (k - 1))).trans ((hb0.cell (p := ⟨b, off + (k - 1), none⟩) hb).trans (hcs (k - 1) (by omega)))
   have hdz := (limbs_dig (ab z)).getD (k - 1)
   have hg1 := hrow.cell (j := k - 1) (by omega)
   have hg2 := hrow.free (k - 1)
   have HS := Lib.hid (fun (y x : Int) (e : rest * 10000 + (limbs (ab z)).getD (k - 1) 0 = d * y + x) => div_step (a := limbs (ab z)) (q := qs) (n := d) (rest := rest) (x := x) (y := y) (i := k - 1) (by have := hln.out; omega) (by have := hln.out; have := HL.out; omega) (by rw [show k - 1 + 1 = k by omega]; exact HQ.out) e)
   rw [List.getD_eq_getElem?_getD] at hdz HS
   have hdd := div_digit hd ⟨hr1, hr2⟩ hdz
   have hmm := Int.emod_nonneg (rest * 10000 + (limbs (ab z))[k - 1]?.getD 0) (b := d) (by omega)
   have hml := Int.emod_lt_of_pos (rest * 10000 + (limbs (ab z))[k - 1]?.getD 0) (b := d) (by omega)
   have HE := Lib.hid (show rest * 10000 + (limbs (ab z))[k - 1]?.getD 0 = d * ((rest * 10000 + (limbs (ab z))[k - 1]?.getD 0) / d) + (rest * 10000 + (limbs (ab z))[k - 1]?.getD 0) % d by have := Int.emod_add_mul_ediv (rest * 10000 + (limbs (ab z))[k - 1]?.getD 0) d; omega)
   clear hcs hqv hqn
   go_wp2_with fail
   go_roundw
   case rel => exact ⟨k - 1, _, qs.set (k - 1) _, rfl, by congr 1; omega, by omega, hmm, hml, by simp [HL.out], hqd.set _ hdd, HS.out _ _ HE.out, hrow.set _ _⟩
   case measure => simp [intOf]; omega
  ·obtain rfl : k = 0 := by omega
   have HA := Lib.hid (div_all hd hng.out ⟨hr1, hr2⟩ HQ.out)
   have T1 : ∀ W, Below wr.heap.size wr W → Calls Tryz.prog 72 #[.bool false, .slice (some ⟨w.heap.size + 1 + 1, 0, none⟩) n n] W (NewW W (z / d)) := fun W hW => by
    have := trimmed_any false _ n n qs W ((hrow.sx hqn hnm).below hW) (by omega) hqd
    rw [HA.out.1] at this
    exact this
   have hbw := hrow.below hb0 (by omega)
   have hsz := hrow.size
   have kC1 := (hrow.only.cell (b := w.heap.size + 1) (by omega) 0).trans kC
   have kD1 := (hrow.only.cell (b := w.heap.size + 1) (by omega) 1).trans kD
   have fC1 := fun o => (hrow.only.froz (b := w.heap.size + 1) (by omega) o).trans (f1 o)
   clear hqv hqn hrow
   go_wp2_with (first | (have _t := tok1; go_at_call 72; (with_reducible refine ((T1 _ bel)).mono ?_); rintro e w1 ⟨b1, a1, n1, c1, rfl, hv1, hf1, hb1⟩; clear tok1 _t; have hz1 := hb1.size; (try simp only [sA, sB, sC, sD] at hz1); (try (obtain ⟨kq, qg⟩ := cfAt hb1 (w.heap.size); have qc := kq 0; have qd := kq 1; clear kq; simp [go_sem, *] at qc qd qg)); (try have qi : w.heap.size < w1.heap.size := by omega); (try (obtain ⟨kq, qh⟩ := cfAt hb1 (w.heap.size + 1); have qe := kq 0; have qf := kq 1; clear kq; simp [go_sem, *] at qe qf qh)); (try have qj : w.heap.size + 1 < w1.heap.size := by omega)))
   refine bodyPost_ret (v := .tuple #[.agg #[.bool b1, .slice a1 n1 c1], .int .i64 rest]) (by simp [results, Tryz.results123, go_sem, *]) rfl ⟨_, _, _, _, by rw [← HA.out.2], ⟨hv1.neg, ?_⟩, ?_, ?_⟩
   ·have hr1 := hv1.row
    (repeat' first | exact hr1 | refine Sx.set ?_ ?_ _ _ | refine Sx.alloc ?_ _ | refine Sx.drew ?_ | (intro A e; have := hf1 A e; (try simp only [sA, sB, sC, sD] at this); omega))
   ·(intro A e; have := hf1 A e; (try simp only [sA, sB, sC, sD] at this); omega)
   exact bel
theorem afarW1 {w : World} {b1 o1 b2 o2 : Nat} {x v : Value} (h : w.cell? ⟨b2, o2, none⟩ = some v) (hne : b1 ≠ b2) : (w.setCell ⟨b1, o1, none⟩ x).cell? ⟨b2, o2, none⟩ = some v := by
 rw [← h]
 exact World.cell?_of_block (a := ⟨b2, o2, none⟩) (Below.heap_setCell w ⟨b1, o1, none⟩ x b2 (fun e => hne e.symm))
theorem afarW2 {w : World} {b1 o1 o1' b2 o2 : Nat} {x y v : Value} (h : w.cell? ⟨b2, o2, none⟩ = some v) (hne : b1 ≠ b2) : ((w.setCell ⟨b1, o1, none⟩ x).setCell ⟨b1, o1', none⟩ y).cell? ⟨b2, o2, none⟩ = some v := afarW1 (afarW1 h hne) hne
theorem divWhole_neg (a : Option Addr) (n c : Nat) (z d : Int) (w : World) (hs : Wx w true a n c z) (hl : n ≤ 9000) (hd : 1 ≤ d) (hd2 : d ≤ 100000000000000) :
  Calls Tryz.prog 123 #[.agg #[.bool true, .slice a n c], .int .i64 d] w (NewQ w z d) := by
 obtain ⟨i0, hi, hz0, hz1, hz2⟩ := info_parts infoInt
 have tok1 := trivial
 have tok2 := trivial
 have tok3 := trivial
 go_enter Tryz.func123, Tryz.ntmps123
 go_wp2_with (first | (at_make; refine wpList_make_full _ rfl _ _ 78 rfl (w.heap.size + 2) 3 i0 (.int .i64 0) 1 Tryz.underlying78 hi hz0 hz1 .i64 .i64 _ _ n rfl rfl rfl rfl (by rw [hz2]; omega) (by unfold maxLen; omega) (by simp) ?_; intro W0 hm0 hg0; have hr0 := RowW.start hm0; have hb0 := made_below (B := w.heap.size) (a := w) bel hg0 (by simp; try omega); have hz0s := hg0.size; have e0 := fun o => World.cell?_of_block (a := ⟨w.heap.size, o, none⟩) (made_at hg0 (by simp; try omega)); have e1 := fun o => World.cell?_of_block (a := ⟨w.heap.size + 1, o, none⟩) (made_at hg0 (by simp; try omega)); have f0 := fun o => World.frozen?_of_block (a := ⟨w.heap.size, o, none⟩) (made_at hg0 (by simp; try omega)); have f1 := fun o => World.frozen?_of_block (a := ⟨w.heap.size + 1, o, none⟩) (made_at hg0 (by simp; try omega)); have kA := e0 0; have kB := e0 1; have kC := e1 0; have kD := e1 1; clear e0 e1 hm0 hg0; simp [go_sem] at kA kB kC kD f0 f1; simp only [World.size_alloc] at hr0 hz0s))
 have hnm : n ≤ maxLen := by unfold maxLen; omega
 have hln := Lib.hid hs.row.len
 have hng := Lib.hid hs.neg.symm
 have hneg : z < 0 := by have := hs.neg; simpa [ngB] using this.symm
 go_loopw [7, 8] (fun rv iv wr => OvRel W0 (w.heap.size + 1 + 1) d (limbs (ab z)) n rv iv wr) (fun _ iv _ => (intOf iv + 1).toNat)
 case atStart => exact ⟨n, 0, List.replicate n 0, rfl, rfl, Nat.le_refl _, by omega, by omega, by simp, Dig.zeros n, by rw [List.drop_eq_nil_of_le (by have := hln.out; omega), List.drop_eq_nil_of_le (by simp)]; simp [val], hr0⟩
 case round =>
  obtain ⟨k, rest, qs, rfl, rfl, hk, hr1, hr2, hqn, hqd, hqv, hrow⟩ := hrel
  have kA1 := (hrow.only.cell (b := w.heap.size) (by omega) 0).trans kA
  have kB1 := (hrow.only.cell (b := w.heap.size) (by omega) 1).trans kB
  have HQ := Lib.hid hqv
  have HL := Lib.hid hqn
  by_cases h0 : 0 < k
  ·obtain ⟨b, off, rfl, hb, hcs⟩ := hs.row.at (by omega)
   have hcell := (hrow.only.cell (b := b) (by omega) (off + (k - 1))).trans ((hb0.cell (p := ⟨b, off + (k - 1), none⟩) hb).trans (hcs (k - 1) (by omega)))
   have hdz := (limbs_dig (ab z)).getD (k - 1)
   have hg1 := hrow.cell (j := k - 1) (by omega)
   have hg2 := hrow.free (k - 1)
   have HS := Lib.hid (fun (y x : Int) (e : rest * 10000 + (limbs (ab z)).getD (k - 1) 0 = d * y + x) => div_step (a := limbs (ab z)) (q := qs) (n := d) (rest := rest) (x := x) (y := y) (i := k - 1) (by have := hln.out; omega) (by have := hln.out; have := HL.out; omega) (by rw [show k - 1 + 1 = k by omega]; exact HQ.out) e)
   rw [List.getD_eq_getElem?_getD] at hdz HS
   have hdd := div_digit hd ⟨hr1, hr2⟩ hdz
   have hmm := Int.emod_nonneg (rest * 10000 + (limbs (ab z))[k - 1]?.getD 0) (b := d) (by omega)
   have hml := Int.emod_lt_of_pos (rest * 10000 + (limbs (ab z))[k - 1]?.getD 0) (b := d) (by omega)
   have HE := Lib.hid (show rest * 10000 + (limbs (ab z))[k - 1]?.getD 0 = d * ((rest * 10000 + (limbs (ab z))[k - 1]?.getD 0) / d) + (rest * 10000 + (limbs (ab z))[k - 1]?.getD 0) % d by have := Int.emod_add_mul_ediv (rest * 10000 + (limbs (ab z))[k - 1]?.getD 0) d; omega)
   clear hcs hqv hqn
   go_wp2_with fail
   go_roundw
   case rel => exact ⟨k - 1, _, qs.set (k - 1) _, rfl, by congr 1; omega, by omega, hmm, hml, by simp [HL.out], hqd.set _ hdd, HS.out _ _ HE.out, hrow.set _ _⟩
   case measure => simp [intOf]; omega
  ·obtain rfl : k = 0 := by omega
   have HA := Lib.hid (show ab z = d * val qs + rest by have := HQ.out; rw [List.drop_zero, List.drop_zero, val_ab'] at this; exact this)
   have hbw := hrow.below hb0 (by omega)
   have hsz := hrow.size
   have kC1 := (hrow.only.cell (b := w.heap.size + 1) (by omega) 0).trans kC
   have kD1 := (hrow.only.cell (b := w.heap.size + 1) (by omega) 1).trans kD
   have fC1 := fun o => (hrow.only.froz (b := w.heap.size + 1) (by omega) o).trans (f1 o)
   have hlz : val qs < 10000 ^ n := by have := val_lt hqd; rwa [HL.out] at this
   have hlq : ln (mkW true (val qs)) ≤ n := by rw [ln_le, mkW_ab (val_nonneg hqd)]; exact hlz
   have T0 : ∀ W, Below wr.heap.size wr W → Calls Tryz.prog 72 #[.bool true, .slice (some ⟨w.heap.size + 1 + 1, 0, none⟩) n n] W (NewW W (mkW true (val qs))) := fun W hW => trimmed_any true _ n n qs W ((hrow.sx hqn hnm).below hW) (by omega) hqd
   have hqn0 := val_nonneg hqd
   have hngz : ngB z = true := by simp [ngB, hneg]
   by_cases hrest : 0 < rest
   ·have hdn := div_neg (a := z) (n := d) (q := val qs) (r := rest) (by omega) HA.out ⟨hrest, hr2⟩ hneg
    rw [hngz] at hdn
    have HD := Lib.hid hdn
    have TS : ∀ (W : World) (b1 : Bool) (a1 : Option Addr) (n1 c1 : Nat) {b3 : Bool} {a3 : Option Addr} {n3 c3 : Nat}, Wx W b1 a1 n1 c1 (mkW true (val qs)) → Wx W b3 a3 n3 c3 (-1) → Calls Tryz.prog 54 #[.agg #[.bool b1, .slice a1 n1 c1], .agg #[.bool b3, .slice a3 n3 c3]] W (NewW W (z / d)) := fun W b1 a1 n1 c1 b3 a3 n3 c3 g1 g2 => by
     exact addWholes_eq g1 g2 (by have := HD.out.1; omega) (by omega) (by have := ln_small (a := -1) (by omega) (by omega); omega)
    have T1 := T0
    clear hqv hqn hrow hlz hlq hqn0 hdn T0
    generalize mkW true (val qs) = q at *
    go_wp2_with (first | (have _t := tok1; go_at_call 72; (with_reducible refine ((T1 _ bel)).mono ?_); rintro e w1 ⟨b1, a1, n1, c1, rfl, hv1, hf1, hb1⟩; clear tok1 _t; have hz1 := hb1.size; (try simp only [sA, sB, sC, sD] at hz1); (try (obtain ⟨kq, qg⟩ := cfAt hb1 (w.heap.size); have qc := kq 0; have qd := kq 1; clear kq; simp [go_sem, *] at qc qd qg)); (try have qk : w.heap.size < w1.heap.size := by omega); (try (obtain ⟨kq, qh⟩ := cfAt hb1 (w.heap.size + 1); have qe := kq 0; have qf := kq 1; clear kq; simp [go_sem, *] at qe qf qh)); (try have ql : w.heap.size + 1 < w1.heap.size := by omega)))
    go_region_held3 (fun w' => w'.cell? ⟨w1.heap.size, 0, none⟩ = some (.bool b1) ∧ w'.cell? ⟨w1.heap.size, 1, none⟩ = some (.slice a1 n1 c1)) (first | go_keep | exact ⟨afarW2 (by assumption) (by omega), afarW2 (by assumption) (by omega)⟩) (first | (have _t := tok2; go_at_call 53; (with_reducible refine ((wholeOf_any (-1) _ (by omega) (by omega))).mono ?_); rintro e w2 ⟨b2, a2, n2, c2, rfl, hv2, hf2, hb2⟩; clear tok2 _t; have hz2 := hb2.size; (try simp only [sA, sB, sC, sD] at hz2); (try (obtain ⟨kq, qt⟩ := cfAt hb2 (w.heap.size); have qm := kq 0; have qn := kq 1; clear kq; simp [go_sem, *] at qm qn qt)); (try have xf : w.heap.size < w2.heap.size := by omega); (try (obtain ⟨kq, qu⟩ := cfAt hb2 (w.heap.size + 1); have qo := kq 0; have qq := kq 1; clear kq; simp [go_sem, *] at qo qq qu)); (try have xg : w.heap.size + 1 < w2.heap.size := by omega); (try (obtain ⟨kq, qr⟩ := cfAt hb2 (w1.heap.size); have qi := kq 0; have qj := kq 1; clear kq; simp [go_sem, *] at qi qj qr)); (try have xd : w1.heap.size < w2.heap.size := by omega); (try clear qc qd qg); (try clear qk); (try clear qe qf qh); (try clear ql)) | (have _t := tok3; go_at_call 54; (with_reducible refine ((TS _ _ _ _ _ (hv1.below bel) hv2)).mono ?_); rintro e w3 ⟨b7, a7, n7, c7, rfl, h7, f7, hb3⟩; clear tok3 _t; have hz3 := hb3.size; (try simp only [sA, sB, sC, sD] at hz3); (try (obtain ⟨kq, xh⟩ := cfAt hb3 (w.heap.size); have qx := kq 0; have qy := kq 1; clear kq; simp [go_sem, *] at qx qy xh)); (try have xk : w.heap.size < w3.heap.size := by omega); (try (obtain ⟨kq, xi⟩ := cfAt hb3 (w.heap.size + 1); have qz := kq 0; have xc := kq 1; clear kq; simp [go_sem, *] at qz xc xi)); (try have xl : w.heap.size + 1 < w3.heap.size := by omega); (try (obtain ⟨kq, xe⟩ := cfAt hb3 (w1.heap.size); have qv := kq 0; have qw := kq 1; clear kq; simp [go_sem, *] at qv qw xe)); (try have xj : w1.heap.size < w3.heap.size := by omega); (try clear qc qd qg); (try clear qk); (try clear qe qf qh); (try clear ql); (try clear qm qn qt); (try clear xf); (try clear qo qq qu); (try clear xg); (try clear qi qj qr); (try clear xd)))
    go_wp2_with fail
    have hwr : IntKind.i64.wrap (d - rest) = d - rest := IntWalk.i64_in _ (by omega)
    refine bodyPost_ret (v := .tuple #[.agg #[.bool b7, .slice a7 n7 c7], .int .i64 (d - rest)]) (by simp [results, Tryz.results123, go_sem, *]) rfl ⟨_, _, _, _, by rw [← HD.out.2], ⟨h7.neg, ?_⟩, ?_, ?_⟩
    ·have hr7 := h7.row
     (repeat' first | exact hr7 | refine Sx.set ?_ ?_ _ _ | refine Sx.alloc ?_ _ | refine Sx.drew ?_ | (intro A e; have := f7 A e; (try simp only [sA, sB, sC, sD] at this); omega))
    ·(intro A e; have := f7 A e; (try simp only [sA, sB, sC, sD] at this); omega)
    exact bel
   ·obtain rfl : rest = 0 := by omega
    have hdp := div_pos (a := z) (n := d) (q := val qs) (r := 0) (by omega) HA.out ⟨by omega, by omega⟩ (.inr rfl)
    rw [hngz] at hdp
    have HD := Lib.hid hdp
    have T1 : ∀ W, Below wr.heap.size wr W → Calls Tryz.prog 72 #[.bool true, .slice (some ⟨w.heap.size + 1 + 1, 0, none⟩) n n] W (NewW W (z / d)) := fun W hW => by
     have := T0 W hW
     rw [HD.out.1] at this
     exact this
    clear hqv hqn hrow hlz hlq hqn0 hdp T0
    go_wp2_with (first | (have _t := tok1; go_at_call 72; (with_reducible refine ((T1 _ bel)).mono ?_); rintro e w1 ⟨b1, a1, n1, c1, rfl, hv1, hf1, hb1⟩; clear tok1 _t; have hz1 := hb1.size; (try simp only [sA, sB, sC, sD] at hz1); (try (obtain ⟨kq, qg⟩ := cfAt hb1 (w.heap.size); have qc := kq 0; have qd := kq 1; clear kq; simp [go_sem, *] at qc qd qg)); (try have qk : w.heap.size < w1.heap.size := by omega); (try (obtain ⟨kq, qh⟩ := cfAt hb1 (w.heap.size + 1); have qe := kq 0; have qf := kq 1; clear kq; simp [go_sem, *] at qe qf qh)); (try have ql : w.heap.size + 1 < w1.heap.size := by omega)))
    refine bodyPost_ret (v := .tuple #[.agg #[.bool b1, .slice a1 n1 c1], .int .i64 0]) (by simp [results, Tryz.results123, go_sem, *]) rfl ⟨_, _, _, _, by rw [← HD.out.2], ⟨hv1.neg, ?_⟩, ?_, ?_⟩
    ·have hr1 := hv1.row
     (repeat' first | exact hr1 | refine Sx.set ?_ ?_ _ _ | refine Sx.alloc ?_ _ | refine Sx.drew ?_ | (intro A e; have := hf1 A e; (try simp only [sA, sB, sC, sD] at this); omega))
    ·(intro A e; have := hf1 A e; (try simp only [sA, sB, sC, sD] at this); omega)
    exact bel
theorem divWhole_any {b : Bool} {a : Option Addr} {n c : Nat} {z d : Int} {w : World} (hs : Wx w b a n c z) (hl : ln z ≤ 9000) (hd : 1 ≤ d) (hd2 : d ≤ 100000000000000) :
  Calls Tryz.prog 123 #[.agg #[.bool b, .slice a n c], .int .i64 d] w (NewQ w z d) := by
 have hn := hs.ln
 cases b
 ·exact divWhole_pos a n c z d w hs (by omega) hd hd2
 ·exact divWhole_neg a n c z d w hs (by omega) hd hd2
end
end Go.Proofs.YtnkmgpmehkholaaGreat
