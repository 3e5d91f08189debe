/- Lemmas and contracts of functions. No condition. -/
import Derived.Test.YtnemnkbcbokafaaGreatPk6
import Derived.Test.YtnemnkbcbokafaaGreatPk9
import Derived.Test.YtnemnkbcbokafaaGreatPk15
import Derived.Test.YtnemnkbcbokafaaGreatPk31
import Derived.Test.YtnemnkbcbokafaaGreatPk40
import Derived.Laws.Cover2
import Derived.Laws.Externs
namespace Go.Proofs.YtnemnkbcbokafaaGreat
open Go.RowKit
set_option linter.unusedVariables false
set_option maxHeartbeats 1000000
set_option maxRecDepth 20000
set_option linter.unusedSimpArgs false
attribute [local go_sem] openAt openUpon
theorem ngB_pos {z : Int} (h : 0 ≤ z) : ngB z = false := by unfold ngB; simp; omega
theorem ngB_neg {z : Int} (h : z < 0) : ngB z = true := by unfold ngB; simp; omega
theorem ab_of_pos {z : Int} (h : 0 ≤ z) : ab z = z := by unfold ab; omega
theorem ab_of_neg {z : Int} (h : z < 0) : ab z = -z := by unfold ab; omega
theorem cmpI_neg (x y : Int) : cmpI (-x) (-y) = cmpI y x := by
 rcases Int.lt_trichotomy x y with h | h | h
 ·rw [cmp_gt h, cmp_gt (by omega)]
 ·rw [cmp_eq h.symm, cmp_eq (by omega)]
 ·rw [cmp_lt h, cmp_lt (by omega)]
theorem compareWholes_any (b b2 : Bool) (a a2 : Option Addr) (n c n2 c2 : Nat) (x y : Int) (w : World) (hs : Wx w b a n c x) (hs2 : Wx w b2 a2 n2 c2 y) (l1 : ln x ≤ 10000) (l2 : ln y ≤ 10000) :
  Calls Tryz.prog 98 #[.agg #[.bool b, .slice a n c], .agg #[.bool b2, .slice a2 n2 c2]] w fun e w' => e = .returned (.int .i64 (cmpI x y)) ∧ Below w.heap.size w w' := by
 have hl : n ≤ 1000000 := by have := hs.ln; omega
 have hl2 : n2 ≤ 1000000 := by have := hs2.ln; omega
 have hb := hs.neg
 have hb2 := hs2.neg
 by_cases hx : x < 0
 ·rw [ngB_neg hx] at hb
  subst hb
  by_cases hy : y < 0
  ·rw [ngB_neg hy] at hb2
   subst hb2
   have E := show cmpI (ab y) (ab x) = cmpI x y by rw [ab_of_neg hx, ab_of_neg hy, cmpI_neg]
   rw [← E]
   have T1 : ∀ W, Below w.heap.size w W → Calls Tryz.prog 96 #[.agg #[.bool true, .slice a2 n2 c2], .agg #[.bool true, .slice a n c]] W fun e w' => e = .returned (.int .i64 (cmpI (ab y) (ab x))) ∧ Below W.heap.size W w' := fun W hW => compareSizes_any _ _ _ _ _ _ _ _ _ _ W (hs2.below hW) (hs.below hW) hl2 hl
   generalize cmpI (ab y) (ab x) = r at *
   clear hs hs2 E
   have tok1 := trivial
   go_enter Tryz.func98, Tryz.ntmps98
   go_wp2_with (first | (have _t := tok1; go_at_call 96; (with_reducible refine ((T1 _ bel)).mono ?_); rintro e w1 ⟨rfl, hb1⟩; clear tok1 _t; have hz1 := hb1.size; (try simp only [sA, sB, sC, sD] at hz1); (try (obtain ⟨qa, qb, qg⟩ := cf2 hb1 (w.heap.size); simp [go_sem, *] at qa qb qg)); (try have qi : w.heap.size < w1.heap.size := by omega); (try (obtain ⟨qc, qf, qh⟩ := cf2 hb1 (w.heap.size + 1); simp [go_sem, *] at qc qf qh)); (try have qj : w.heap.size + 1 < w1.heap.size := by omega)))
   go_ret
   exact ⟨rfl, by exact bel⟩
  ·rw [ngB_pos (by omega)] at hb2
   subst hb2
   rw [cmp_lt (by omega)]
   clear hs hs2
   have tok1 := trivial
   go_enter Tryz.func98, Tryz.ntmps98
   go_wp2_with fail
   go_ret
   exact ⟨rfl, by exact bel⟩
 ·rw [ngB_pos (by omega)] at hb
  subst hb
  by_cases hy : y < 0
  ·rw [ngB_neg hy] at hb2
   subst hb2
   rw [cmp_gt (by omega)]
   clear hs hs2
   have tok1 := trivial
   go_enter Tryz.func98, Tryz.ntmps98
   go_wp2_with fail
   go_ret
   exact ⟨rfl, by exact bel⟩
  ·rw [ngB_pos (by omega)] at hb2
   subst hb2
   have E := show cmpI (ab x) (ab y) = cmpI x y by rw [ab_of_pos (by omega), ab_of_pos (by omega)]
   rw [← E]
   have T1 : ∀ W, Below w.heap.size w W → Calls Tryz.prog 96 #[.agg #[.bool false, .slice a n c], .agg #[.bool false, .slice a2 n2 c2]] W fun e w' => e = .returned (.int .i64 (cmpI (ab x) (ab y))) ∧ Below W.heap.size W w' := fun W hW => compareSizes_any _ _ _ _ _ _ _ _ _ _ W (hs.below hW) (hs2.below hW) hl hl2
   generalize cmpI (ab x) (ab y) = r at *
   clear hs hs2 E
   have tok1 := trivial
   go_enter Tryz.func98, Tryz.ntmps98
   go_wp2_with (first | (have _t := tok1; go_at_call 96; (with_reducible refine ((T1 _ bel)).mono ?_); rintro e w1 ⟨rfl, hb1⟩; clear tok1 _t; have hz1 := hb1.size; (try simp only [sA, sB, sC, sD] at hz1); (try (obtain ⟨qa, qb, qg⟩ := cf2 hb1 (w.heap.size); simp [go_sem, *] at qa qb qg)); (try have qi : w.heap.size < w1.heap.size := by omega); (try (obtain ⟨qc, qf, qh⟩ := cf2 hb1 (w.heap.size + 1); simp [go_sem, *] at qc qf qh)); (try have qj : w.heap.size + 1 < w1.heap.size := by omega)))
   go_ret
   exact ⟨rfl, by exact bel⟩
theorem cmpW_open {B : Nat} {x y : Int} {v : Value} {W : World} {b2 : Bool} {a2 : Option Addr} {n2 c2 : Nat} (h : (openW B x).ok v W) (h2 : Wx W b2 a2 n2 c2 y) (l1 : ln x ≤ 10000) (l2 : ln y ≤ 10000) {r : Int} (hr : cmpI x y = r) :
  Calls Tryz.prog 98 #[v, .agg #[.bool b2, .slice a2 n2 c2]] W fun e w' => e = .returned (.int .i64 r) ∧ Below W.heap.size W w' := by
 subst hr
 obtain ⟨b, a, n, c, rfl, h, _⟩ := h
 exact compareWholes_any _ _ _ _ _ _ _ _ _ _ W h h2 l1 l2
theorem timesInt_eq {b : Bool} {a : Option Addr} {n c : Nat} {x k v : Int} {w : World} (hx : Wx w b a n c x) (hv : x * k = v) (l1 : ln x ≤ 10000) (h1 : -9223372036854775807 ≤ k) (h2 : k ≤ 9223372036854775807) :
  Calls Tryz.prog 83 #[.agg #[.bool b, .slice a n c], .int .i64 k] w (NewW w v) := by
 have l2 : ln k ≤ 10000 := Nat.le_trans (ln_small (by omega) (by omega)) (by omega)
 have HV := Lib.hid hv
 clear hv
 go_enter Tryz.func83, Tryz.ntmps83
 go_wp2_with fail
 refine chk (fun W => Below w.heap.size w W ∧ W.heap[w.heap.size]? = some (.cells #[.bool b, .slice a n c] 88 (0, 0)) ∧ W.heap[w.heap.size + 1]? = some (.cells #[.bool false, .slice none 0 0] 88 (0, 0)) ∧ Wx W b a n c x) (by refine ⟨?_, ?_, ?_, ?_⟩ <;> (exact ck)) ?_
 try clear hx
 rintro w1 ⟨hB1, qa, qb, hx'⟩
 obtain ⟨qg, qh, qt, xa⟩ := bk2 qa
 replace qa := Lib.hid qa
 obtain ⟨qj, qk, qu, xb⟩ := bk2 qb
 replace qb := Lib.hid qb
 have hx := hx'
 clear hx'
 refine wp_open (n := 4) (by kernel_rfl) (by kernel_rfl) (by kernel_rfl) (by kernel_rfl) ?_
 simp only [List.take_succ_cons, List.take_zero]
 apply wpS_quiet
 ·intro γ W hW hp
  have hs := hW.size
  (try simp only [sA, sB, sC, sD] at hs)
  have xg := fun x => (xcA hW (w.heap.size) 0 (by first | omega | go_size) x).trans qg
  have xh := fun x => (xcA hW (w.heap.size) 1 (by first | omega | go_size) x).trans qh
  clear hW hp
  refine ⟨rfl, ?_⟩
  go_big_quiet_op
  first | exact rfl
 ·exact locS_const _
 try simp only [Act.put, List.setIfInBounds_toArray, List.set_cons_succ, List.set_cons_zero, Nat.reduceAdd]
 apply wpS_quiet
 ·intro γ W hW hp
  refine ⟨rfl, ?_⟩
  go_big_quiet_op
  first | exact rfl
 ·exact locS_const _
 try simp only [Act.put, List.setIfInBounds_toArray, List.set_cons_succ, List.set_cons_zero, Nat.reduceAdd]
 apply wpS_open (openW w.heap.size k)
 ·intro γ W hW hp
  refine ⟨rfl, ?_⟩
  go_simp
  refine plainNew rfl ?_
  exact open_W (wholeOf_any k _ (by omega) (by omega)) (by (have := hW.size; (try simp only [sA, sB, sC, sD] at this); omega))
 try simp only [Act.put, List.setIfInBounds_toArray, List.set_cons_succ, List.set_cons_zero, Nat.reduceAdd]
 apply wpS_open (openW w.heap.size v)
 ·intro γ W hW hp
  have qr := hp _ (mR _) (by kernel_rfl)
  dsimp only at qr
  refine ⟨rfl, ?_⟩
  go_simp
  refine plainNew rfl ?_
  obtain ⟨b3, a3, n3, c3, e3, h3, _⟩ := qr
  rw [e3]
  exact open_W (mulWholes_eq (hx.below hW) h3 HV.out l1 l2) (by (have := hW.size; (try simp only [sA, sB, sC, sD] at this); omega))
 try simp only [Act.put, List.setIfInBounds_toArray, List.set_cons_succ, List.set_cons_zero, Nat.reduceAdd]
 apply wpS_end
 intro γ w2 hb2 hG2 hA2
 have qw := hG2 _ (mL _ (mR _))
 dsimp only at qw
 have qi := hG2 _ (mR _)
 dsimp only at qi
 clear hG2 hA2
 simp only [List.drop_succ_cons, List.drop_zero]
 have hz2 := hb2.size
 (try simp only [sA, sB, sC, sD] at hz2)
 obtain ⟨b7, a7, n7, c7, e7, h7, f7⟩ := qi
 simp only [e7]
 clear e7
 have qc := (hb2.block (w.heap.size) (blk_lt' qa.out)).trans qa.out
 clear qg qh qt qa
 obtain ⟨ql, qm, qz, xc⟩ := bk2 qc
 replace qc := Lib.hid qc
 have qf := (hb2.block (w.heap.size + 1) (blk_lt' qb.out)).trans qb.out
 clear qj qk qu qb
 obtain ⟨qp, qq, xe, xf⟩ := bk2 qf
 replace qf := Lib.hid qf
 replace hx := hx.below hb2
 have hB2 : Below w.heap.size w w2 := below_via hb2 (by assumption) (by first | exact hB1.size | go_size)
 clear ql
 clear qm
 clear qz qc
 clear hx l1 l2 h1 h2
 go_wp2_with fail
 refine bodyPost_ret (v := .agg #[.bool b7, .slice a7 n7 c7]) (by simp [results, Tryz.results83, go_sem, qp, qq]) rfl ⟨_, _, _, _, rfl, ?_, f7, ?_⟩
 ·have HO := qf.out
  (exact ck)
 ·(exact ck)
noncomputable def exR (n : Int) : Int × Bool := if n < 0 then (0, false) else if rtV n * rtV n = n then (rtV n, true) else (0, false)
theorem isRt_ex' (n : Nat) : ∃ r, IsRt n r := by
 induction n with
 | zero => exact ⟨0, by decide, by decide, by decide⟩
 | succ k ih =>
  obtain ⟨r, h0, h1, h2⟩ := ih
  by_cases h : (k : Int) + 1 < (r + 1) * (r + 1)
  ·exact ⟨r, h0, by omega, by omega⟩
  ·have : (r + 1 + 1) * (r + 1 + 1) = (r + 1) * (r + 1) + 2 * r + 3 := by grind
   exact ⟨r + 1, by omega, by omega, by omega⟩
theorem rtV_spec' {n : Int} (h : 0 ≤ n) : IsRt n (rtV n) := by
 obtain ⟨r, hr⟩ := isRt_ex' n.toNat
 rw [Int.toNat_of_nonneg h] at hr
 rw [rtV_eq hr]; exact hr
theorem sqrt_run {x r : Nat} (h : Ieee.double.sqrt x = some r) (W : World) : (callFunc 102 #[.float .f64 x]).run Tryz.prog W = .ok (.value (.float .f64 r)) W := by
 rw [run_callFunc_extern Tryz.func102 (by kernel_rfl) (by kernel_rfl) (by kernel_rfl) (e := Extern.MathSqrt.sqrt) (by kernel_rfl)]
 show (Sem.run _ (match FloatKind.f64.format.sqrt x with
  | some r => pure (Value.float .f64 r)
  | none => do pure (Value.float .f64 (← choose (.nanBits .f64 x x)))) W).andThen _ = _
 rw [show FloatKind.f64.format.sqrt x = some r from h]
 rfl
theorem sq_mono {a b : Int} (h0 : 0 ≤ a) (h : a ≤ b) : a * a ≤ b * b := Int.mul_le_mul h h h0 (by omega)
theorem mathSqrt_any {x r : Nat} (h : Ieee.double.sqrt x = some r) (w : World) : Calls Tryz.prog 99 #[.float .f64 x] w fun e w' => e = .returned (.float .f64 r) ∧ w = w' := by
 have hd := fun W => sqrt_run h W
 clear h
 go_enter Tryz.func99, Tryz.ntmps99
 go_wp2
 go_ret
 exact ⟨rfl, rfl⟩
theorem exactRoot_any (n : Int) (w : World) (h1 : -17592186044415 ≤ n) (h2 : n ≤ 17592186044415) : Calls Tryz.prog 84 #[.int .i64 n] w fun e w' => e = .returned (.tuple #[.int .i64 (exR n).1, .bool (exR n).2]) ∧ w = w' := by
 by_cases hn : n < 0
 ·rw [show exR n = (0, false) by simp [exR, hn]]
  go_enter Tryz.func84, Tryz.ntmps84
  go_wp2_with fail
  go_ret2
  exact ⟨rfl, rfl⟩
 ·obtain ⟨r, z, g1, g2, g3⟩ := sqrt_small (n := n.natAbs) (by omega)
  have hfl : floatOfInt .f64 n = Ieee.double.nearest false n.natAbs 0 := by
   show Ieee.double.nearest (decide (n < 0)) n.natAbs 0 = _
   rw [show decide (n < 0) = false by simpa using hn]
  obtain ⟨q0, q1, q2⟩ := rtV_spec' (n := n) (by omega)
  have hE : exR n = if rtV n * rtV n = n then (rtV n, true) else (0, false) := by simp only [exR, if_neg hn]
  rw [hE]
  clear hE
  generalize rtV n = R at *
  obtain ⟨ev, hev⟩ : ∃ v : Int × Bool, (if R * R = n then (R, true) else (0, false)) = v := ⟨_, rfl⟩
  rw [hev]
  have HV := Lib.hid hev
  clear hev
  have hR : R ≤ 4194304 := by
   apply Int.not_lt.1; intro h
   have := sq_mono (a := 4194305) (b := R) (by omega) (by omega)
   omega
  have hc := fun W : World => run_convert_int_float (P := Tryz.prog) W 3 101 .i64 .f64 n (by kernel_rfl) (by kernel_rfl)
  rw [hfl] at hc
  have TS := fun W : World => Lib.hid (mathSqrt_any g1 W)
  have hv := fun W : World => run_convert_float_int (P := Tryz.prog) (w := W) 101 3 .f64 .i64 r (z : Int) (by kernel_rfl) (by kernel_rfl) (by
   unfold floatToIntVal
   rw [show (FloatKind.decode .f64 r).toInt .zero = some (z : Int) from g2]
   simp [IntKind.min, IntKind.max, IntKind.bits, IntKind.signed]
   omega)
  clear g1 g2 hfl
  generalize Ieee.double.nearest false n.natAbs 0 = f0 at *
  have hz : (0 : Int) ≤ z ∧ (z : Int) < 16777216 := by omega
  generalize (z : Int) = z0 at *
  clear g3
  go_enter Tryz.func84, Tryz.ntmps84
  go_wp2_with (first | (go_at_call 99; (with_reducible refine ((TS _).out).mono ?_); rintro e w' ⟨rfl, rfl⟩))
  go_loopw [4] (fun rv wr => ∃ r : Int, rv = .int .i64 r ∧ 0 ≤ r ∧ r < 16777216 ∧ w = wr) (fun rv _ => (intOf rv).toNat)
  case atStart => exact ⟨z0, rfl, hz.1, hz.2, rfl⟩
  case round =>
   obtain ⟨s, rfl, s0, s1, rfl⟩ := hrel
   have ss := mul_bd (a := s) (b := s) (A := 16777216) (B := 16777216) (by omega) (by omega)
   by_cases hs : n < s * s
   ·have sp : 0 < s := by
     rcases Int.lt_or_eq_of_le s0 with h | h
     ·exact h
     ·subst h; omega
    go_wp2_with fail
    go_roundw
    case rel => exact ⟨s - 1, by go_num, by omega, by omega, trivial⟩
    case measure => simp [intOf]; omega
   ·have hsR : s ≤ R := by
     apply Int.not_lt.1; intro h
     have := sq_mono (a := R + 1) (b := s) (by omega) (by omega)
     omega
    have hS := Lib.hid hs
    go_wp2_with fail
    go_loopw [4] (fun rv wr => ∃ r : Int, rv = .int .i64 r ∧ 0 ≤ r ∧ r ≤ R ∧ w = wr) (fun rv _ => (R - intOf rv).toNat)
    case atStart => exact ⟨s, rfl, s0, hsR, rfl⟩
    case round =>
     clear ss hs hsR hS
     obtain ⟨u, rfl, u0, u1, rfl⟩ := hrel
     have uu := mul_bd (a := u + 1) (b := u + 1) (A := 16777216) (B := 16777216) (by omega) (by omega)
     have uv := mul_bd (a := u) (b := u) (A := 16777216) (B := 16777216) (by omega) (by omega)
     by_cases hu : u < R
     ·have := sq_mono (a := u + 1) (b := R) (by omega) (by omega)
      have hq : (u + 1) * (u + 1) ≤ n := by omega
      clear this
      go_wp2_with fail
      go_roundw
      case rel => exact ⟨u + 1, by go_num, by omega, by omega, trivial⟩
      case measure => simp [intOf]; omega
     ·obtain rfl : u = R := by omega
      have hq : ¬ (u + 1) * (u + 1) ≤ n := by omega
      by_cases he : u * u = n
      ·have hv2 := HV.out
       rw [if_pos he] at hv2
       subst hv2
       go_wp2_with fail
       go_ret2
       exact ⟨rfl, rfl⟩
      ·have hv2 := HV.out
       rw [if_neg he] at hv2
       subst hv2
       go_wp2_with fail
       go_ret2
       exact ⟨rfl, rfl⟩
def SqRel (w : World) (b b2 : Bool) (a a2 : Option Addr) (n c n2 c2 : Nat) (p q : Int) (lv hv : Value) (wr : World) : Prop := ∃ lo hi : Int, lv = .int .i64 lo ∧ hv = .int .i64 hi ∧ -10000 ≤ lo ∧ lo ≤ hi ∧ hi ≤ 10000 ∧ (∀ z, -10000 ≤ z → z < lo → q * z < p) ∧ (∀ z, hi < z → z ≤ 10000 → p < q * z) ∧
 wr.heap[w.heap.size]? = some (.cells #[.bool b, .slice a n c] 88 (0, 0)) ∧ wr.heap[w.heap.size + 1]? = some (.cells #[.bool b2, .slice a2 n2 c2] 88 (0, 0)) ∧ Below w.heap.size w wr
theorem smallQuotient_any {b b2 : Bool} {a a2 : Option Addr} {n c n2 c2 : Nat} {p q : Int} {w : World} (hx : Wx w b a n c p) (hy : Wx w b2 a2 n2 c2 q) (l1 : ln p ≤ 9000) (l2 : ln q ≤ 9000) (hq : 0 < q) :
  Calls Tryz.prog 82 #[.agg #[.bool b, .slice a n c], .agg #[.bool b2, .slice a2 n2 c2], .int .i64 10000] w fun e w' => ∃ lo : Int, e = .returned (.tuple #[.int .i64 lo, .bool (decide (q * lo = p))]) ∧ -10000 ≤ lo ∧ lo ≤ 10000 ∧ (∀ z, -10000 ≤ z → z ≤ 10000 → q * z = p → z = lo) ∧ Below w.heap.size w w' := by
 have l3' : ∀ m : Int, -20000 ≤ m → m ≤ 20000 → ln (q * m) ≤ 10000 := fun m h1 h2 => by
  have := ln_mul q m
  have := ln_small (a := m) (by omega) (by omega)
  omega
 have HQ := Lib.hid hq
 have hl1 : ln p ≤ 10000 := by omega
 have hl2 : ln q ≤ 10000 := by omega
 have HX := Lib.hid hx
 have HY := Lib.hid hy
 clear hq hx hy
 have tok1 := trivial
 have tok2 := trivial
 have tok3 := trivial
 have tok4 := trivial
 have tok5 := trivial
 have tok6 := trivial
 have tok7 := trivial
 have tok8 := trivial
 go_enter Tryz.func82, Tryz.ntmps82
 go_wp2_with fail
 go_loopw [8, 9] (fun lv hv wr => SqRel w b b2 a a2 n c n2 c2 p q lv hv wr) (fun lv hv _ => (intOf hv - intOf lv).toNat)
 case atStart => exact ⟨-10000, 10000, rfl, rfl, by omega, by omega, by omega, fun z h1 h2 => by omega, fun z h1 h2 => by omega, ck, ck, by exact bel⟩
 case round =>
  obtain ⟨lo, hi, rfl, rfl, r0, r1, r2, r3, r4, hA, hB, hbw⟩ := hrel
  have R3 := Lib.hid r3
  have R4 := Lib.hid r4
  clear r3 r4
  have hxp := HX.out.below hbw
  have hyq := HY.out.below hbw
  have l1 := hl1
  have l2 := hl2
  by_cases hlt : lo < hi
  ·have hd : lo ≤ (lo + hi) / 2 ∧ (lo + hi) / 2 < hi := by omega
   have TF := fun W : World => Lib.hid (floorOf_any (lo + hi) 2 W (by omega) (by omega) (by omega))
   rw [show down (lo + hi) 2 = (lo + hi) / 2 from rfl] at TF
   generalize (lo + hi) / 2 = m at *
   have l3 := l3' m (by omega) (by omega)
   by_cases hc : q * m < p
   ·have HC := Lib.hid (cmp_lt hc)
    have N3 := Lib.hid (show ∀ z, -10000 ≤ z → z < m + 1 → q * z < p from fun z h1 h2 => by
     have := Int.mul_le_mul_of_nonneg_left (show z ≤ m by omega) (show 0 ≤ q by have := HQ.out; omega)
     omega)
    clear hc
    go_upto_region 4 with (first | (go_at_call 97; (with_reducible refine ((TF _).out).mono ?_); rintro e w' ⟨rfl, rfl⟩))
    refine chk (fun W => Below w.heap.size w W ∧ W.heap[w.heap.size]? = some (.cells #[.bool b, .slice a n c] 88 (0, 0)) ∧ W.heap[w.heap.size + 1]? = some (.cells #[.bool b2, .slice a2 n2 c2] 88 (0, 0)) ∧ Wx W b a n c p ∧ Wx W b2 a2 n2 c2 q) (by refine ⟨?_, ?_, ?_, ?_, ?_⟩ <;> (exact ck)) ?_
    try clear hxp
    try clear hyq
    rintro w1 ⟨hB1, qa, qb, hxp', hyq'⟩
    obtain ⟨qg, qh, qk, xa⟩ := bk2 qa
    replace qa := Lib.hid qa
    obtain ⟨qi, qj, ql, xb⟩ := bk2 qb
    replace qb := Lib.hid qb
    have hxp := hxp'
    clear hxp'
    have hyq := hyq'
    clear hyq'
    clear hA hB
    refine wp_open (n := 5) (by kernel_rfl) (by kernel_rfl) (by kernel_rfl) (by kernel_rfl) ?_
    simp only [List.take_succ_cons, List.take_zero]
    apply wpS_quiet
    ·intro γ W hW hp
     have hs := hW.size
     (try simp only [sA, sB, sC, sD] at hs)
     have qm := fun x => (xcA hW (w.heap.size + 1) 0 (by first | omega | go_size) x).trans qi
     have qp := fun x => (xcA hW (w.heap.size + 1) 1 (by first | omega | go_size) x).trans qj
     clear hW hp
     refine ⟨rfl, ?_⟩
     go_big_quiet_op
     first | exact rfl
    ·exact locS_const _
    try simp only [Act.put, List.setIfInBounds_toArray, List.set_cons_succ, List.set_cons_zero, Nat.reduceAdd]
    apply wpS_quiet
    ·intro γ W hW hp
     refine ⟨rfl, ?_⟩
     go_big_quiet_op
     first | exact rfl
    ·exact locS_const _
    try simp only [Act.put, List.setIfInBounds_toArray, List.set_cons_succ, List.set_cons_zero, Nat.reduceAdd]
    apply wpS_open (openW w.heap.size (q * m))
    ·intro γ W hW hp
     refine ⟨rfl, ?_⟩
     go_simp
     refine plainNew rfl ?_
     exact open_W (timesInt_eq (hyq.below hW) rfl l2 (by omega) (by omega)) (by (have := hW.size; (try simp only [sA, sB, sC, sD] at this); omega))
    try simp only [Act.put, List.setIfInBounds_toArray, List.set_cons_succ, List.set_cons_zero, Nat.reduceAdd]
    apply wpS_quiet
    ·intro γ W hW hp
     have hs := hW.size
     (try simp only [sA, sB, sC, sD] at hs)
     have qm := fun x => (xcA hW (w.heap.size) 0 (by first | omega | go_size) x).trans qg
     have qp := fun x => (xcA hW (w.heap.size) 1 (by first | omega | go_size) x).trans qh
     clear hW hp
     refine ⟨rfl, ?_⟩
     go_big_quiet_op
     first | exact rfl
    ·exact locS_const _
    try simp only [Act.put, List.setIfInBounds_toArray, List.set_cons_succ, List.set_cons_zero, Nat.reduceAdd]
    apply wpS_quiet
    ·intro γ W hW hp
     have qq := hp _ (mR _) (by kernel_rfl)
     dsimp only at qq
     refine ⟨rfl, ?_⟩
     go_big_quiet_op
     apply Exists.intro
     refine ⟨fun x => ?_, ?_⟩
     ·(first | (go_at_call 98; exact draw_of _ (cmpW_open ((openW w.heap.size (q * m)).keep _ _ _ qq x.lies) ((hxp.below hW).below x.lies) l3 l1 HC.out)))
     exact rfl
    ·intro γ k g hk
     have xh : updV γ k g 2 = γ 2 := updV_other γ g (fun e => by subst e; exact absurd hk (by rw [show reachB .any _ 100 4 2 = true from by kernel_rfl]; simp))
     first | rfl | simp only [xh]
    try simp only [Act.put, List.setIfInBounds_toArray, List.set_cons_succ, List.set_cons_zero, Nat.reduceAdd]
    apply wpS_end
    intro γ w2 hb2 hG2 hA2
    have qz := hG2 _ (mR _)
    dsimp only at qz
    clear hG2 hA2
    simp only [List.drop_succ_cons, List.drop_zero]
    have hz2 := hb2.size
    (try simp only [sA, sB, sC, sD] at hz2)
    have qc := (hb2.block (w.heap.size) (blk_lt' qa.out)).trans qa.out
    clear qg qh qk qa
    obtain ⟨qr, qt, xc, xe⟩ := bk2 qc
    replace qc := Lib.hid qc
    have qf := (hb2.block (w.heap.size + 1) (blk_lt' qb.out)).trans qb.out
    clear qi qj ql qb
    obtain ⟨qu, qw, xf, xg⟩ := bk2 qf
    replace qf := Lib.hid qf
    replace hxp := hxp.below hb2
    replace hyq := hyq.below hb2
    have hB2 : Below w.heap.size w w2 := below_via hb2 (by assumption) (by first | exact hB1.size | go_size)
    clear hxp hyq
    go_wp2_with fail
    go_roundw
    case rel => exact ⟨m + 1, hi, by go_num, rfl, by omega, by omega, by omega, N3.out, R4.out, qc.out, qf.out, hB2⟩
    case measure => simp [intOf]; omega
   ·have N4 := Lib.hid (show ∀ z, m < z → z ≤ 10000 → p < q * z from fun z h1 h2 => by
     have := Int.mul_lt_mul_of_pos_left h1 HQ.out
     omega)
    obtain ⟨r, hr, hr0⟩ : ∃ r, cmpI (q * m) p = r ∧ 0 ≤ r := by
     rcases Int.lt_or_eq_of_le (show p ≤ q * m by omega) with h | h
     ·exact ⟨_, cmp_gt h, by omega⟩
     ·exact ⟨_, cmp_eq h.symm, by omega⟩
    have HC := Lib.hid hr
    clear hc hr
    go_upto_region 4 with (first | (go_at_call 97; (with_reducible refine ((TF _).out).mono ?_); rintro e w' ⟨rfl, rfl⟩))
    refine chk (fun W => Below w.heap.size w W ∧ W.heap[w.heap.size]? = some (.cells #[.bool b, .slice a n c] 88 (0, 0)) ∧ W.heap[w.heap.size + 1]? = some (.cells #[.bool b2, .slice a2 n2 c2] 88 (0, 0)) ∧ Wx W b a n c p ∧ Wx W b2 a2 n2 c2 q) (by refine ⟨?_, ?_, ?_, ?_, ?_⟩ <;> (exact ck)) ?_
    try clear hxp
    try clear hyq
    rintro w1 ⟨hB1, qa, qb, hxp', hyq'⟩
    obtain ⟨qg, qh, qk, xa⟩ := bk2 qa
    replace qa := Lib.hid qa
    obtain ⟨qi, qj, ql, xb⟩ := bk2 qb
    replace qb := Lib.hid qb
    have hxp := hxp'
    clear hxp'
    have hyq := hyq'
    clear hyq'
    clear hA hB
    refine wp_open (n := 5) (by kernel_rfl) (by kernel_rfl) (by kernel_rfl) (by kernel_rfl) ?_
    simp only [List.take_succ_cons, List.take_zero]
    apply wpS_quiet
    ·intro γ W hW hp
     have hs := hW.size
     (try simp only [sA, sB, sC, sD] at hs)
     have qm := fun x => (xcA hW (w.heap.size + 1) 0 (by first | omega | go_size) x).trans qi
     have qp := fun x => (xcA hW (w.heap.size + 1) 1 (by first | omega | go_size) x).trans qj
     clear hW hp
     refine ⟨rfl, ?_⟩
     go_big_quiet_op
     first | exact rfl
    ·exact locS_const _
    try simp only [Act.put, List.setIfInBounds_toArray, List.set_cons_succ, List.set_cons_zero, Nat.reduceAdd]
    apply wpS_quiet
    ·intro γ W hW hp
     refine ⟨rfl, ?_⟩
     go_big_quiet_op
     first | exact rfl
    ·exact locS_const _
    try simp only [Act.put, List.setIfInBounds_toArray, List.set_cons_succ, List.set_cons_zero, Nat.reduceAdd]
    apply wpS_open (openW w.heap.size (q * m))
    ·intro γ W hW hp
     refine ⟨rfl, ?_⟩
     go_simp
     refine plainNew rfl ?_
     exact open_W (timesInt_eq (hyq.below hW) rfl l2 (by omega) (by omega)) (by (have := hW.size; (try simp only [sA, sB, sC, sD] at this); omega))
    try simp only [Act.put, List.setIfInBounds_toArray, List.set_cons_succ, List.set_cons_zero, Nat.reduceAdd]
    apply wpS_quiet
    ·intro γ W hW hp
     have hs := hW.size
     (try simp only [sA, sB, sC, sD] at hs)
     have qm := fun x => (xcA hW (w.heap.size) 0 (by first | omega | go_size) x).trans qg
     have qp := fun x => (xcA hW (w.heap.size) 1 (by first | omega | go_size) x).trans qh
     clear hW hp
     refine ⟨rfl, ?_⟩
     go_big_quiet_op
     first | exact rfl
    ·exact locS_const _
    try simp only [Act.put, List.setIfInBounds_toArray, List.set_cons_succ, List.set_cons_zero, Nat.reduceAdd]
    apply wpS_quiet
    ·intro γ W hW hp
     have qq := hp _ (mR _) (by kernel_rfl)
     dsimp only at qq
     refine ⟨rfl, ?_⟩
     go_big_quiet_op
     apply Exists.intro
     refine ⟨fun x => ?_, ?_⟩
     ·(first | (go_at_call 98; exact draw_of _ (cmpW_open ((openW w.heap.size (q * m)).keep _ _ _ qq x.lies) ((hxp.below hW).below x.lies) l3 l1 HC.out)))
     exact rfl
    ·intro γ k g hk
     have xh : updV γ k g 2 = γ 2 := updV_other γ g (fun e => by subst e; exact absurd hk (by rw [show reachB .any _ 100 4 2 = true from by kernel_rfl]; simp))
     first | rfl | simp only [xh]
    try simp only [Act.put, List.setIfInBounds_toArray, List.set_cons_succ, List.set_cons_zero, Nat.reduceAdd]
    apply wpS_end
    intro γ w2 hb2 hG2 hA2
    have qz := hG2 _ (mR _)
    dsimp only at qz
    clear hG2 hA2
    simp only [List.drop_succ_cons, List.drop_zero]
    have hz2 := hb2.size
    (try simp only [sA, sB, sC, sD] at hz2)
    have qc := (hb2.block (w.heap.size) (blk_lt' qa.out)).trans qa.out
    clear qg qh qk qa
    obtain ⟨qr, qt, xc, xe⟩ := bk2 qc
    replace qc := Lib.hid qc
    have qf := (hb2.block (w.heap.size + 1) (blk_lt' qb.out)).trans qb.out
    clear qi qj ql qb
    obtain ⟨qu, qw, xf, xg⟩ := bk2 qf
    replace qf := Lib.hid qf
    replace hxp := hxp.below hb2
    replace hyq := hyq.below hb2
    have hB2 : Below w.heap.size w w2 := below_via hb2 (by assumption) (by first | exact hB1.size | go_size)
    clear hxp hyq
    go_wp2_with fail
    go_roundw
    case rel => exact ⟨lo, m, rfl, rfl, by omega, by omega, by omega, R3.out, N4.out, qc.out, qf.out, hB2⟩
    case measure => simp [intOf]; omega
  ·obtain rfl : lo = hi := by omega
   have l3 := l3' lo (by omega) (by omega)
   have HU := Lib.hid (show ∀ z, -10000 ≤ z → z ≤ 10000 → q * z = p → z = lo from fun z h1 h2 h3 => by
    rcases Int.lt_trichotomy z lo with h | h | h
    ·have := R3.out z h1 h; omega
    ·exact h
    ·have := R4.out z h h2; omega)
   obtain ⟨r, hr, hr0⟩ : ∃ r, cmpI (q * lo) p = r ∧ decide (q * lo = p) = (r == 0) := by
    rcases Int.lt_trichotomy (q * lo) p with h | h | h
    ·exact ⟨_, cmp_lt h, by simp; omega⟩
    ·exact ⟨_, cmp_eq h, by simp [h]⟩
    ·exact ⟨_, cmp_gt h, by simp; omega⟩
   have HC := Lib.hid hr
   have HD := Lib.hid hr0
   clear hr hr0
   go_upto_region 7 with fail
   refine chk (fun W => Below w.heap.size w W ∧ W.heap[w.heap.size]? = some (.cells #[.bool b, .slice a n c] 88 (0, 0)) ∧ W.heap[w.heap.size + 1]? = some (.cells #[.bool b2, .slice a2 n2 c2] 88 (0, 0)) ∧ Wx W b a n c p ∧ Wx W b2 a2 n2 c2 q) (by refine ⟨?_, ?_, ?_, ?_, ?_⟩ <;> (exact ck)) ?_
   try clear hxp
   try clear hyq
   rintro w1 ⟨hB1, qa, qb, hxp', hyq'⟩
   obtain ⟨qg, qh, qk, xa⟩ := bk2 qa
   replace qa := Lib.hid qa
   obtain ⟨qi, qj, ql, xb⟩ := bk2 qb
   replace qb := Lib.hid qb
   have hxp := hxp'
   clear hxp'
   have hyq := hyq'
   clear hyq'
   clear hA hB
   refine wp_open (n := 8) (by kernel_rfl) (by kernel_rfl) (by kernel_rfl) (by kernel_rfl) ?_
   simp only [List.take_succ_cons, List.take_zero]
   apply wpS_quiet
   ·intro γ W hW hp
    refine ⟨rfl, ?_⟩
    go_big_quiet_op
    first | exact rfl
   ·exact locS_const _
   try simp only [Act.put, List.setIfInBounds_toArray, List.set_cons_succ, List.set_cons_zero, Nat.reduceAdd]
   apply wpS_quiet
   ·intro γ W hW hp
    have hs := hW.size
    (try simp only [sA, sB, sC, sD] at hs)
    have qm := fun x => (xcA hW (w.heap.size + 1) 0 (by first | omega | go_size) x).trans qi
    have qp := fun x => (xcA hW (w.heap.size + 1) 1 (by first | omega | go_size) x).trans qj
    clear hW hp
    refine ⟨rfl, ?_⟩
    go_big_quiet_op
    first | exact rfl
   ·exact locS_const _
   try simp only [Act.put, List.setIfInBounds_toArray, List.set_cons_succ, List.set_cons_zero, Nat.reduceAdd]
   apply wpS_quiet
   ·intro γ W hW hp
    refine ⟨rfl, ?_⟩
    go_big_quiet_op
    first | exact rfl
   ·exact locS_const _
   try simp only [Act.put, List.setIfInBounds_toArray, List.set_cons_succ, List.set_cons_zero, Nat.reduceAdd]
   apply wpS_open (openW w.heap.size (q * lo))
   ·intro γ W hW hp
    refine ⟨rfl, ?_⟩
    go_simp
    refine plainNew rfl ?_
    exact open_W (timesInt_eq (hyq.below hW) rfl l2 (by omega) (by omega)) (by (have := hW.size; (try simp only [sA, sB, sC, sD] at this); omega))
   try simp only [Act.put, List.setIfInBounds_toArray, List.set_cons_succ, List.set_cons_zero, Nat.reduceAdd]
   apply wpS_quiet
   ·intro γ W hW hp
    have hs := hW.size
    (try simp only [sA, sB, sC, sD] at hs)
    have qm := fun x => (xcA hW (w.heap.size) 0 (by first | omega | go_size) x).trans qg
    have qp := fun x => (xcA hW (w.heap.size) 1 (by first | omega | go_size) x).trans qh
    clear hW hp
    refine ⟨rfl, ?_⟩
    go_big_quiet_op
    first | exact rfl
   ·exact locS_const _
   try simp only [Act.put, List.setIfInBounds_toArray, List.set_cons_succ, List.set_cons_zero, Nat.reduceAdd]
   apply wpS_quiet
   ·intro γ W hW hp
    have xi := hp _ (mR _) (by kernel_rfl)
    dsimp only at xi
    refine ⟨rfl, ?_⟩
    go_big_quiet_op
    apply Exists.intro
    refine ⟨fun x => ?_, ?_⟩
    ·(first | (go_at_call 98; exact draw_of _ (cmpW_open ((openW w.heap.size (q * lo)).keep _ _ _ xi x.lies) ((hxp.below hW).below x.lies) l3 l1 HC.out)))
    exact rfl
   ·intro γ k g hk
    have xk : updV γ k g 3 = γ 3 := updV_other γ g (fun e => by subst e; exact absurd hk (by rw [show reachB .any _ 100 5 3 = true from by kernel_rfl]; simp))
    first | rfl | simp only [xk]
   try simp only [Act.put, List.setIfInBounds_toArray, List.set_cons_succ, List.set_cons_zero, Nat.reduceAdd]
   apply wpS_quiet
   ·intro γ W hW hp
    refine ⟨rfl, ?_⟩
    go_big_quiet_op
    first | exact rfl
   ·exact locS_const _
   try simp only [Act.put, List.setIfInBounds_toArray, List.set_cons_succ, List.set_cons_zero, Nat.reduceAdd]
   apply wpS_quiet
   ·intro γ W hW hp
    refine ⟨rfl, ?_⟩
    go_big_quiet_op
    first | exact rfl
   ·exact locS_const _
   try simp only [Act.put, List.setIfInBounds_toArray, List.set_cons_succ, List.set_cons_zero, Nat.reduceAdd]
   apply wpS_end
   intro γ w2 hb2 hG2 hA2
   have xj := hG2 _ (mR _)
   dsimp only at xj
   clear hG2 hA2
   simp only [List.drop_succ_cons, List.drop_zero]
   have hz2 := hb2.size
   (try simp only [sA, sB, sC, sD] at hz2)
   have qc := (hb2.block (w.heap.size) (blk_lt' qa.out)).trans qa.out
   clear qg qh qk qa
   obtain ⟨qr, qt, xc, xe⟩ := bk2 qc
   replace qc := Lib.hid qc
   have qf := (hb2.block (w.heap.size + 1) (blk_lt' qb.out)).trans qb.out
   clear qi qj ql qb
   obtain ⟨qu, qw, xf, xg⟩ := bk2 qf
   replace qf := Lib.hid qf
   replace hxp := hxp.below hb2
   replace hyq := hyq.below hb2
   have hB2 : Below w.heap.size w w2 := below_via hb2 (by assumption) (by first | exact hB1.size | go_size)
   go_wp2_with fail
   go_ret2
   exact ⟨lo, by rw [HD.out]; rfl, r0, r2, HU.out, hB2⟩
end Go.Proofs.YtnemnkbcbokafaaGreat
