/- Sums of whole numbers: the reference. -/
import Derived.Test.YtijpfnkhaldfeaaBg5
import Derived.Test.YtijpfnkhaldfeaaPln
namespace Go.Proofs.Ytijpfnkhaldfeaa
open Go.RowKit
set_option linter.unusedVariables false
set_option maxHeartbeats 1000000
set_option maxRecDepth 20000
set_option linter.unusedSimpArgs false
attribute [local go_sem] openAt openUpon
def cmpI (x y : Int) : Int := if x < y then -1 else if y < x then 1 else 0
theorem cmp_lt {x y : Int} (h : x < y) : cmpI x y = -1 := by simp [cmpI, h]
theorem cmp_gt {x y : Int} (h : y < x) : cmpI x y = 1 := by simp [cmpI, h]; omega
theorem cmp_eq {x y : Int} (h : x = y) : cmpI x y = 0 := by subst h; simp [cmpI]
/-- a contract whose value is a slice of digits of the number V -/
def NewD (w : World) (V : Int) (m : Nat) (e : Ending) (w' : World) : Prop := ∃ a n c zs, e = .returned (.slice a n c) ∧ Sx w' a n c zs ∧ Dig zs ∧ val zs = V ∧ n ≤ m ∧ Fr w.heap.size a ∧ Below w.heap.size w w'
def openD (B : Nat) (V : Int) (m : Nat) : St where
  ok v W := ∃ a n c zs, v = .slice a n c ∧ Sx W a n c zs ∧ Dig zs ∧ val zs = V ∧ n ≤ m ∧ Fr B a
  keep v W W2 h hb := by
    obtain ⟨a, n, c, zs, h1, h2, h3⟩ := h
    exact ⟨a, n, c, zs, h1, h2.below hb, h3⟩
def openW (B : Nat) (z : Int) : St where
  ok v W := ∃ b a n c, v = .agg #[.bool b, .slice a n c] ∧ Wx W b a n c z ∧ Fr B a
  keep v W W2 h hb := by
    obtain ⟨b, a, n, c, h1, h2, h3⟩ := h
    exact ⟨b, a, n, c, h1, h2.below hb, h3⟩
theorem open_D {P : Program} {f : FuncId} {args : Array Value} {W : World} {V : Int} {m B : Nat} (h : Calls P f args W (NewD W V m)) (hB : B ≤ W.heap.size) : Calls P f args W fun e w' => ∃ v, e = .returned v ∧ (openD B V m).ok v w' ∧ Below W.heap.size W w' :=
  h.mono fun e w' ⟨a, n, c, zs, h1, h2, h3, h4, h5, h6, h7⟩ => ⟨_, h1, ⟨a, n, c, zs, rfl, h2, h3, h4, h5, h6.mono hB⟩, h7⟩
theorem open_W {P : Program} {f : FuncId} {args : Array Value} {W : World} {z : Int} {B : Nat} (h : Calls P f args W (NewW W z)) (hB : B ≤ W.heap.size) : Calls P f args W fun e w' => ∃ v, e = .returned v ∧ (openW B z).ok v w' ∧ Below W.heap.size W w' :=
  h.mono fun e w' ⟨b, a, n, c, h1, h2, h3, h4⟩ => ⟨_, h1, ⟨b, a, n, c, rfl, h2, h3.mono hB⟩, h4⟩
theorem Wx.ln {W : World} {b : Bool} {a : Option Addr} {n c : Nat} {z : Int} (h : Wx W b a n c z) : n = ln z := h.row.len.symm
theorem grown_below0 {w wr w1 : World} {X : Obj} {sv : Value} {B n : Nat} {xs : List Value} {T : TypeId} (hb : Below B w wr) (ho : wr.ownsRow B T 1 sv n xs) (hg : (wr.alloc X).grownBy w1 sv.ownBlock) (hB : B ≤ wr.heap.size) : Below B w w1 :=
  (hb.alloc (by omega) X).grown hg (by simp; omega) (fun k e => by have := ho.lt k e; omega)
def OrRel (zs ys : List Int) (m : Nat) (iv : Value) : Prop := ∃ k : Nat, iv = .int .i64 ((k : Int) - 1) ∧ k ≤ m ∧ val (zs.drop k) = val (ys.drop k)
theorem bgOrder_any (a a2 : Option Addr) (n c n2 c2 : Nat) (zs ys : List Int) (w : World) (hs : Sx w a n c zs) (hs2 : Sx w a2 n2 c2 ys) (hd : Dig zs) (hd2 : Dig ys) (hl : n ≤ 1000000) (hl2 : n2 ≤ 1000000) :
    Calls Try.prog 58 #[.slice a n c, .slice a2 n2 c2] w fun e w' => e = .returned (.int .i64 (cmpI (val zs) (val ys))) ∧ w = w' := by
  obtain ⟨m, hm⟩ : ∃ m, m = max n n2 := ⟨_, rfl⟩
  have T0 : ∀ W : World, Calls Try.prog 60 #[.int .i64 n, .int .i64 n2] W fun e w' => e = .returned (.int .i64 (m : Int)) ∧ W = w' := fun W => by
    have := l1Most_any n n2 W
    rwa [most_eq, show max (n : Int) (n2 : Int) = (m : Int) by omega] at this
  have hmb : m ≤ 1000000 := by omega
  have HL := Lib.hid hs.len
  have HL2 := Lib.hid hs2.len
  have hm1 : n ≤ m := by omega
  have hm2 : n2 ≤ m := by omega
  have T1 := fun (i : Int) (W : World) (hi : 0 ≤ i) (e : W = w) => bgLimb_any a n c zs i W (e ▸ hs) hi hl
  have T2 := fun (i : Int) (W : World) (hi : 0 ≤ i) (e : W = w) => bgLimb_any a2 n2 c2 ys i W (e ▸ hs2) hi hl2
  clear hm hs hs2
  go_enter Try.func58, Try.ntmps58
  go_wp2_with (first | (go_at_call 60; (with_reducible refine ((T0 _)).mono ?_); rintro e w' ⟨rfl, rfl⟩) | (go_at_call 67; (with_reducible refine ((T1 _ rfl)).mono ?_); rintro e w' ⟨rfl, rfl⟩) | (go_at_call 67; (with_reducible refine ((T2 _ rfl)).mono ?_); rintro e w' ⟨rfl, rfl⟩))
  go_loop [5] (fun iv => OrRel zs ys m iv) (fun iv => (intOf iv + 1).toNat)
  case atStart => exact ⟨m, rfl, Nat.le_refl _, by rw [List.drop_eq_nil_of_le (by have := HL.out; omega), List.drop_eq_nil_of_le (by have := HL2.out; omega)]⟩
  case round =>
    obtain ⟨k, rfl, hk, hv⟩ := hrel
    have HV := Lib.hid hv
    clear hv
    by_cases h0 : 0 < k
    · replace T1 := fun (W : World) (e : W = w) => T1 ((k : Int) - 1) W (by omega) e
      replace T2 := fun (W : World) (e : W = w) => T2 ((k : Int) - 1) W (by omega) e
      have ek : ((k : Int) - 1).toNat = k - 1 := by omega
      rw [ek] at T1 T2
      clear ek
      have HV1 := Lib.hid (show val (zs.drop (k - 1 + 1)) = val (ys.drop (k - 1 + 1)) by rw [show k - 1 + 1 = k by omega]; exact HV.out)
      have C1 := Lib.hid (fun h => cmp_hi hd hd2 HV1.out h)
      have C2 := Lib.hid (fun h => cmp_hi hd2 hd HV1.out.symm h)
      have C3 := Lib.hid (fun h => drop_eq_step HV1.out h)
      generalize zs.getD (k - 1) 0 = x at *
      generalize ys.getD (k - 1) 0 = y at *
      rcases Int.lt_trichotomy x y with h | h | h
      · go_wp2_with (first | (go_at_call 60; (with_reducible refine ((T0 _)).mono ?_); rintro e w' ⟨rfl, rfl⟩) | (go_at_call 67; (with_reducible refine ((T1 _ rfl)).mono ?_); rintro e w' ⟨rfl, rfl⟩) | (go_at_call 67; (with_reducible refine ((T2 _ rfl)).mono ?_); rintro e w' ⟨rfl, rfl⟩))
        go_ret
        exact ⟨ret_int (cmp_lt (C1.out h)).symm, rfl⟩
      · have HX := Lib.hid h
        have hx1 : ¬ x < y := by omega
        have hx2 : ¬ y < x := by omega
        clear h
        go_wp2_with (first | (go_at_call 60; (with_reducible refine ((T0 _)).mono ?_); rintro e w' ⟨rfl, rfl⟩) | (go_at_call 67; (with_reducible refine ((T1 _ rfl)).mono ?_); rintro e w' ⟨rfl, rfl⟩) | (go_at_call 67; (with_reducible refine ((T2 _ rfl)).mono ?_); rintro e w' ⟨rfl, rfl⟩))
        go_round
        case rel => exact ⟨k - 1, by congr 1; omega, by omega, C3.out HX.out⟩
        case measure => simp [intOf]; omega
      · have hx1 : ¬ x < y := by omega
        go_wp2_with (first | (go_at_call 60; (with_reducible refine ((T0 _)).mono ?_); rintro e w' ⟨rfl, rfl⟩) | (go_at_call 67; (with_reducible refine ((T1 _ rfl)).mono ?_); rintro e w' ⟨rfl, rfl⟩) | (go_at_call 67; (with_reducible refine ((T2 _ rfl)).mono ?_); rintro e w' ⟨rfl, rfl⟩))
        go_ret
        exact ⟨ret_int (cmp_gt (C2.out h)).symm, rfl⟩
    · obtain rfl : k = 0 := by omega
      go_wp2_with (first | (go_at_call 60; (with_reducible refine ((T0 _)).mono ?_); rintro e w' ⟨rfl, rfl⟩) | (go_at_call 67; (with_reducible refine ((T1 _ rfl)).mono ?_); rintro e w' ⟨rfl, rfl⟩) | (go_at_call 67; (with_reducible refine ((T2 _ rfl)).mono ?_); rintro e w' ⟨rfl, rfl⟩))
      go_ret
      exact ⟨ret_int (cmp_eq (by simpa using HV.out)).symm, rfl⟩
def CbRel (w : World) (zs ys : List Int) (s : Int) (m : Nat) (sv cv iv : Value) (wr : World) : Prop := ∃ (i : Nat) (qs : List Int) (c : Int), iv = .int .i64 i ∧ cv = .int .i64 c ∧ qs.length = i ∧ i ≤ m + 1 ∧ Dig qs ∧ (s - 1 ≤ 2 * c ∧ 2 * c ≤ s + 1) ∧
  val qs + 10000 ^ i * c = val (zs.take i) + s * val (ys.take i) ∧ (m < i → c = 0) ∧ wr.ownsRow w.heap.size 3 1 sv i (ints qs) ∧ Below w.heap.size w wr
theorem cb_last {zs ys qs : List Int} {s c : Int} {i n : Nat} (hd : Dig qs) (hq : qs.length = i) (h : val qs + 10000 ^ i * c = val (zs.take i) + s * val (ys.take i)) (h1 : zs.length ≤ i) (h2 : ys.length ≤ i) (hc : s - 1 ≤ 2 * c ∧ 2 * c ≤ s + 1) (hs : s = 1 ∨ s = -1) (hge : s = -1 → val ys ≤ val zs) : s = -1 → c = 0 := by
  intro e
  subst e
  have := hge rfl
  rw [val_take_all _ _ h1, val_take_all _ _ h2] at h
  have h3 := val_lt hd
  rw [hq] at h3
  have hp := p4_pos i
  rcases Int.lt_or_le c 0 with hc0 | hc0
  · exfalso
    have := Int.mul_le_mul_of_nonneg_left (show c ≤ -1 by omega) (show (0 : Int) ≤ 10000 ^ i by omega)
    omega
  · omega
theorem cb_next {w wr w1 : World} {zs ys qs : List Int} {s c r c' : Int} {m i : Nat} {v1 sv : Value} {X : Obj} (hq : qs.length = i) (hd : Dig qs) (hv : val qs + 10000 ^ i * c = val (zs.take i) + s * val (ys.take i)) (him : i ≤ m) (hz : zs.length ≤ m) (hy : ys.length ≤ m) (hs : s = 1 ∨ s = -1) (hge : s = -1 → val ys ≤ val zs) (hc : s - 1 ≤ 2 * c ∧ 2 * c ≤ s + 1)
    (hx : zs.getD i 0 + s * ys.getD i 0 + c = r + 10000 * c') (hr : 0 ≤ r ∧ r ≤ 9999) (hc' : s - 1 ≤ 2 * c' ∧ 2 * c' ≤ s + 1) (ho : wr.ownsRow w.heap.size 3 1 sv i (ints qs)) (hbw : Below w.heap.size w wr) (hg : (wr.alloc X).grownBy w1 sv.ownBlock) (hv1 : w1.ownsRow w.heap.size 3 1 v1 (i + 1) (ints qs ++ [.int .i64 r])) :
    CbRel w zs ys s m v1 (.int .i64 c') (.int .i64 ((i : Int) + 1)) w1 := by
  refine ⟨i + 1, qs ++ [r], c', by push_cast; rfl, rfl, by simp [hq], by omega, hd.append (Dig.cons hr Dig.nil), hc', sum_step hv hq (by omega) hx, fun hm => ?_, by rw [ints_append, ints_one]; exact hv1, grown_below0 hbw ho hg hbw.size⟩
  have e : i = m := by omega
  subst e
  rw [gD_ge hz, gD_ge hy] at hx
  have h0 := cb_last (n := 0) hd hq hv hz hy hc hs hge
  rcases hs with rfl | rfl
  · omega
  · have := h0 rfl
    omega
theorem bgCombine_any (a a2 : Option Addr) (n c n2 c2 m : Nat) (s : Int) (zs ys : List Int) (w : World) (hs : Sx w a n c zs) (hs2 : Sx w a2 n2 c2 ys) (hd : Dig zs) (hd2 : Dig ys) (hm1 : n ≤ m) (hm2 : n2 ≤ m) (hmb : m ≤ 100000) (hsg : s = 1 ∨ s = -1) (hge : s = -1 → val ys ≤ val zs) :
    Calls Try.prog 57 #[.slice a n c, .slice a2 n2 c2, .int .i64 s] w (NewD w (val zs + s * val ys) (m + 1)) := by
  obtain ⟨i0, hi, hz0, hz1, hz2⟩ := info_parts infoInt
  have HL := Lib.hid hs.len
  have HL2 := Lib.hid hs2.len
  have T1 := fun (i : Int) (W : World) (hi : 0 ≤ i) (h : Below w.heap.size w W) => bgLimb_any a n c zs i W (hs.below h) hi (by omega)
  have T2 := fun (i : Int) (W : World) (hi : 0 ≤ i) (h : Below w.heap.size w W) => bgLimb_any a2 n2 c2 ys i W (hs2.below h) hi (by omega)
  clear hs hs2
  have HG := Lib.hid hge
  clear hge
  rcases hsg with rfl | rfl
  · go_enter Try.func57, Try.ntmps57
    go_wp2_with fail
    go_loopw [7, 8, 9] (fun sv cv iv wr => CbRel w zs ys 1 m sv cv iv wr) (fun _ _ iv _ => m + 1 - (intOf iv).toNat)
    case atStart => exact ⟨0, [], 0, rfl, rfl, rfl, by omega, Dig.nil, by omega, by simp [val], fun _ => rfl, World.ownsRow_nil _ _ _ _, Below.refl _ _⟩
    case round =>
      obtain ⟨i, qs, cc, rfl, rfl, hq, hi1, hqd, hc, hv, he, ho, hbw⟩ := hrel
      have HQ := Lib.hid hq
      have HV := Lib.hid hv
      have HO := Lib.hid ho
      have HE := Lib.hid he
      have hsw := hbw.size
      have hcb : -1 ≤ cc ∧ cc ≤ 1 := by omega
      by_cases hgo : i < n ∨ i < n2 ∨ cc ≠ 0
      · have him : i ≤ m := by
          rcases Nat.lt_or_ge m i with h | h
          · have := he h
            omega
          · exact h
        have hi0 : (0 : Int) ≤ (i : Int) := by omega
        replace T1 := fun (W : World) (h : Below w.heap.size w W) => T1 (i : Int) W hi0 h
        replace T2 := fun (W : World) (h : Below w.heap.size w W) => T2 (i : Int) W hi0 h
        rw [Int.toNat_natCast] at T1 T2
        have dz := hd.getD i
        have dy := hd2.getD i
        have HN := Lib.hid (fun (w1 : World) (v1 sv : Value) (r c' : Int) (X : Obj) (h1 : _) (h2 : _) (h3 : _) (h4 : _) (h5 : _) (h6 : _) => cb_next (s := 1) (w := w) (w1 := w1) (v1 := v1) (sv := sv) (X := X) (r := r) (c' := c') HQ.out hqd HV.out him (by have := HL.out; omega) (by have := HL2.out; omega) (by omega) (fun e => HG.out (by first | trivial | exact e | omega)) hc h1 h2 h3 h4 hbw h5 h6)
        clear hv ho hq he hd hd2 HE hqd HV
        generalize zs.getD i 0 = x at *
        generalize ys.getD i 0 = y at *
        by_cases hA : i < n
        · clear hgo
          go_wp2_with (first | (go_at_call 67; (with_reducible refine ((T1 _ (by repeat' first | (with_reducible first | apply zRf | assumption | apply zDn | apply zDr | apply zAl | apply zSt | refine zVi (by assumption) ?_ ?_) | go_size))).mono ?_); rintro e w' ⟨rfl, rfl⟩) | (go_at_call 67; (with_reducible refine ((T2 _ (by repeat' first | (with_reducible first | apply zRf | assumption | apply zDn | apply zDr | apply zAl | apply zSt | refine zVi (by assumption) ?_ ?_) | go_size))).mono ?_); rintro e w' ⟨rfl, rfl⟩) | (at_builtin; refine wpList_append_own _ rfl _ _ 24 rfl w.heap.size 3 i0 (.int .i64 0) 1 8 Try.underlying24 hi hz0 hz1 hz2 rfl (by decide) _ _ _ rfl (HO.out.alloc _) ⟨wr.heap.size, 0, none⟩ 1 1 [_] rfl rfl (cell_one_new _ _ _) (by simp [Value.oneCell']) (by unfold maxLen; omega) (by omega) (by simp; omega) ?_; intro v1 w1 hv1 hg1 _))
          all_goals
            go_roundw
            case rel => exact HN.out _ _ _ _ _ _ (by omega) (by omega) (by omega) HO.out hg1 hv1
            case measure => simp [intOf]; omega
        · by_cases hB : i < n2
          · clear hgo
            go_wp2_with (first | (go_at_call 67; (with_reducible refine ((T1 _ (by repeat' first | (with_reducible first | apply zRf | assumption | apply zDn | apply zDr | apply zAl | apply zSt | refine zVi (by assumption) ?_ ?_) | go_size))).mono ?_); rintro e w' ⟨rfl, rfl⟩) | (go_at_call 67; (with_reducible refine ((T2 _ (by repeat' first | (with_reducible first | apply zRf | assumption | apply zDn | apply zDr | apply zAl | apply zSt | refine zVi (by assumption) ?_ ?_) | go_size))).mono ?_); rintro e w' ⟨rfl, rfl⟩) | (at_builtin; refine wpList_append_own _ rfl _ _ 24 rfl w.heap.size 3 i0 (.int .i64 0) 1 8 Try.underlying24 hi hz0 hz1 hz2 rfl (by decide) _ _ _ rfl (HO.out.alloc _) ⟨wr.heap.size, 0, none⟩ 1 1 [_] rfl rfl (cell_one_new _ _ _) (by simp [Value.oneCell']) (by unfold maxLen; omega) (by omega) (by simp; omega) ?_; intro v1 w1 hv1 hg1 _))
            all_goals
              go_roundw
              case rel => exact HN.out _ _ _ _ _ _ (by omega) (by omega) (by omega) HO.out hg1 hv1
              case measure => simp [intOf]; omega
          · have hC : (cc != 0) = true := by simp; omega
            clear hgo
            go_wp2_with (first | (go_at_call 67; (with_reducible refine ((T1 _ (by repeat' first | (with_reducible first | apply zRf | assumption | apply zDn | apply zDr | apply zAl | apply zSt | refine zVi (by assumption) ?_ ?_) | go_size))).mono ?_); rintro e w' ⟨rfl, rfl⟩) | (go_at_call 67; (with_reducible refine ((T2 _ (by repeat' first | (with_reducible first | apply zRf | assumption | apply zDn | apply zDr | apply zAl | apply zSt | refine zVi (by assumption) ?_ ?_) | go_size))).mono ?_); rintro e w' ⟨rfl, rfl⟩) | (at_builtin; refine wpList_append_own _ rfl _ _ 24 rfl w.heap.size 3 i0 (.int .i64 0) 1 8 Try.underlying24 hi hz0 hz1 hz2 rfl (by decide) _ _ _ rfl (HO.out.alloc _) ⟨wr.heap.size, 0, none⟩ 1 1 [_] rfl rfl (cell_one_new _ _ _) (by simp [Value.oneCell']) (by unfold maxLen; omega) (by omega) (by simp; omega) ?_; intro v1 w1 hv1 hg1 _))
            all_goals
              go_roundw
              case rel => exact HN.out _ _ _ _ _ _ (by omega) (by omega) (by omega) HO.out hg1 hv1
              case measure => simp [intOf]; omega
      · have h1 : ¬ i < n := by omega
        have h2 : ¬ i < n2 := by omega
        obtain rfl : cc = 0 := by omega
        clear hgo hv ho hq he T1 T2
        obtain ⟨a0, c0, rfl, hsx, hfr⟩ := Sx.of_owns HO.out
        go_wp2_with fail
        go_ret
        refine ⟨a0, i, c0, qs, rfl, hsx, hqd, ?_, by omega, hfr, hbw⟩
        have := HV.out
        rw [val_take_all _ _ (by have := HL.out; omega), val_take_all _ _ (by have := HL2.out; omega)] at this
        omega
  · go_enter Try.func57, Try.ntmps57
    go_wp2_with fail
    go_loopw [7, 8, 9] (fun sv cv iv wr => CbRel w zs ys (-1) m sv cv iv wr) (fun _ _ iv _ => m + 1 - (intOf iv).toNat)
    case atStart => exact ⟨0, [], 0, rfl, rfl, rfl, by omega, Dig.nil, by omega, by simp [val], fun _ => rfl, World.ownsRow_nil _ _ _ _, Below.refl _ _⟩
    case round =>
      obtain ⟨i, qs, cc, rfl, rfl, hq, hi1, hqd, hc, hv, he, ho, hbw⟩ := hrel
      have HQ := Lib.hid hq
      have HV := Lib.hid hv
      have HO := Lib.hid ho
      have HE := Lib.hid he
      have hsw := hbw.size
      have hcb : -1 ≤ cc ∧ cc ≤ 1 := by omega
      by_cases hgo : i < n ∨ i < n2 ∨ cc ≠ 0
      · have him : i ≤ m := by
          rcases Nat.lt_or_ge m i with h | h
          · have := he h
            omega
          · exact h
        have hi0 : (0 : Int) ≤ (i : Int) := by omega
        replace T1 := fun (W : World) (h : Below w.heap.size w W) => T1 (i : Int) W hi0 h
        replace T2 := fun (W : World) (h : Below w.heap.size w W) => T2 (i : Int) W hi0 h
        rw [Int.toNat_natCast] at T1 T2
        have dz := hd.getD i
        have dy := hd2.getD i
        have HN := Lib.hid (fun (w1 : World) (v1 sv : Value) (r c' : Int) (X : Obj) (h1 : _) (h2 : _) (h3 : _) (h4 : _) (h5 : _) (h6 : _) => cb_next (s := (-1)) (w := w) (w1 := w1) (v1 := v1) (sv := sv) (X := X) (r := r) (c' := c') HQ.out hqd HV.out him (by have := HL.out; omega) (by have := HL2.out; omega) (by omega) (fun e => HG.out (by first | trivial | exact e | omega)) hc h1 h2 h3 h4 hbw h5 h6)
        clear hv ho hq he hd hd2 HE hqd HV
        generalize zs.getD i 0 = x at *
        generalize ys.getD i 0 = y at *
        by_cases hA : i < n
        · clear hgo
          go_wp2_with (first | (go_at_call 67; (with_reducible refine ((T1 _ (by repeat' first | (with_reducible first | apply zRf | assumption | apply zDn | apply zDr | apply zAl | apply zSt | refine zVi (by assumption) ?_ ?_) | go_size))).mono ?_); rintro e w' ⟨rfl, rfl⟩) | (go_at_call 67; (with_reducible refine ((T2 _ (by repeat' first | (with_reducible first | apply zRf | assumption | apply zDn | apply zDr | apply zAl | apply zSt | refine zVi (by assumption) ?_ ?_) | go_size))).mono ?_); rintro e w' ⟨rfl, rfl⟩) | (at_builtin; refine wpList_append_own _ rfl _ _ 24 rfl w.heap.size 3 i0 (.int .i64 0) 1 8 Try.underlying24 hi hz0 hz1 hz2 rfl (by decide) _ _ _ rfl (HO.out.alloc _) ⟨wr.heap.size, 0, none⟩ 1 1 [_] rfl rfl (cell_one_new _ _ _) (by simp [Value.oneCell']) (by unfold maxLen; omega) (by omega) (by simp; omega) ?_; intro v1 w1 hv1 hg1 _))
          all_goals
            go_roundw
            case rel => exact HN.out _ _ _ _ _ _ (by omega) (by omega) (by omega) HO.out hg1 hv1
            case measure => simp [intOf]; omega
        · by_cases hB : i < n2
          · clear hgo
            go_wp2_with (first | (go_at_call 67; (with_reducible refine ((T1 _ (by repeat' first | (with_reducible first | apply zRf | assumption | apply zDn | apply zDr | apply zAl | apply zSt | refine zVi (by assumption) ?_ ?_) | go_size))).mono ?_); rintro e w' ⟨rfl, rfl⟩) | (go_at_call 67; (with_reducible refine ((T2 _ (by repeat' first | (with_reducible first | apply zRf | assumption | apply zDn | apply zDr | apply zAl | apply zSt | refine zVi (by assumption) ?_ ?_) | go_size))).mono ?_); rintro e w' ⟨rfl, rfl⟩) | (at_builtin; refine wpList_append_own _ rfl _ _ 24 rfl w.heap.size 3 i0 (.int .i64 0) 1 8 Try.underlying24 hi hz0 hz1 hz2 rfl (by decide) _ _ _ rfl (HO.out.alloc _) ⟨wr.heap.size, 0, none⟩ 1 1 [_] rfl rfl (cell_one_new _ _ _) (by simp [Value.oneCell']) (by unfold maxLen; omega) (by omega) (by simp; omega) ?_; intro v1 w1 hv1 hg1 _))
            all_goals
              go_roundw
              case rel => exact HN.out _ _ _ _ _ _ (by omega) (by omega) (by omega) HO.out hg1 hv1
              case measure => simp [intOf]; omega
          · have hC : (cc != 0) = true := by simp; omega
            clear hgo
            go_wp2_with (first | (go_at_call 67; (with_reducible refine ((T1 _ (by repeat' first | (with_reducible first | apply zRf | assumption | apply zDn | apply zDr | apply zAl | apply zSt | refine zVi (by assumption) ?_ ?_) | go_size))).mono ?_); rintro e w' ⟨rfl, rfl⟩) | (go_at_call 67; (with_reducible refine ((T2 _ (by repeat' first | (with_reducible first | apply zRf | assumption | apply zDn | apply zDr | apply zAl | apply zSt | refine zVi (by assumption) ?_ ?_) | go_size))).mono ?_); rintro e w' ⟨rfl, rfl⟩) | (at_builtin; refine wpList_append_own _ rfl _ _ 24 rfl w.heap.size 3 i0 (.int .i64 0) 1 8 Try.underlying24 hi hz0 hz1 hz2 rfl (by decide) _ _ _ rfl (HO.out.alloc _) ⟨wr.heap.size, 0, none⟩ 1 1 [_] rfl rfl (cell_one_new _ _ _) (by simp [Value.oneCell']) (by unfold maxLen; omega) (by omega) (by simp; omega) ?_; intro v1 w1 hv1 hg1 _))
            all_goals
              go_roundw
              case rel => exact HN.out _ _ _ _ _ _ (by omega) (by omega) (by omega) HO.out hg1 hv1
              case measure => simp [intOf]; omega
      · have h1 : ¬ i < n := by omega
        have h2 : ¬ i < n2 := by omega
        obtain rfl : cc = 0 := by omega
        clear hgo hv ho hq he T1 T2
        obtain ⟨a0, c0, rfl, hsx, hfr⟩ := Sx.of_owns HO.out
        go_wp2_with fail
        go_ret
        refine ⟨a0, i, c0, qs, rfl, hsx, hqd, ?_, by omega, hfr, hbw⟩
        have := HV.out
        rw [val_take_all _ _ (by have := HL.out; omega), val_take_all _ _ (by have := HL2.out; omega)] at this
        omega
end Go.Proofs.Ytijpfnkhaldfeaa
