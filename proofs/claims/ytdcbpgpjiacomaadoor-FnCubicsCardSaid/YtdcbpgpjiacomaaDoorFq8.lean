/- FnCubics: what both sides return, as numbers of which the law's own tests hold. -/
import Derived.Test.YtdcbpgpjiacomaaDoorFq7
import Derived.Test.YtdcbpgpjiacomaaDoorFq4
import Derived.Test.YtdcbpgpjiacomaaDoorFq3
namespace Go.Proofs.YtdcbpgpjiacomaaDoor
open Go.RowKit
set_option linter.unusedVariables false
set_option maxHeartbeats 4000000
set_option maxRecDepth 20000
set_option linter.unusedSimpArgs false

theorem sh_back {a b c d k : Int} (h : shB a b c d k = true) : shB a (3 * a * k + b) (3 * a * k * k + 2 * b * k + c) (cuV a b c d k 1) (-k) = true ∧ 3 * a * (-k) + (3 * a * k + b) = b ∧
    3 * a * (-k) * (-k) + 2 * (3 * a * k + b) * (-k) + (3 * a * k * k + 2 * b * k + c) = c ∧ cuV a (3 * a * k + b) (3 * a * k * k + 2 * b * k + c) (cuV a b c d k 1) (-k) 1 = d := by
  have e1 : 3 * a * (-k) + (3 * a * k + b) = b := by grind
  have e2 : 3 * a * (-k) * (-k) + 2 * (3 * a * k + b) * (-k) + (3 * a * k * k + 2 * b * k + c) = c := by grind
  have e3 : cuV a (3 * a * k + b) (3 * a * k * k + 2 * b * k + c) (cuV a b c d k 1) (-k) 1 = d := by unfold cuV; grind
  refine ⟨?_, e1, e2, e3⟩
  unfold shB at h ⊢
  rw [e1, e2, e3]
  simp only [Bool.and_eq_true] at h ⊢
  obtain ⟨h1, h2, h3⟩ := h
  rw [inB_iff] at h2
  exact ⟨h3, inB_true (by omega) (by omega), h1⟩
theorem sh_at {a b c d k x : Int} (h : shB a b c d k = true) (h1 : -3 ≤ x) (h2 : x ≤ 3) : caB a (3 * a * k + b) (3 * a * k * k + 2 * b * k + c) (cuV a b c d k 1) x = true ∧ caB a b c d (x + k) = true ∧
    cuV a (3 * a * k + b) (3 * a * k * k + 2 * b * k + c) (cuV a b c d k 1) x 1 = cuV a b c d (x + k) 1 := by
  have e3 : cuV a (3 * a * k + b) (3 * a * k * k + 2 * b * k + c) (cuV a b c d k 1) x 1 = cuV a b c d (x + k) 1 := by unfold cuV; grind
  refine ⟨?_, ?_, e3⟩
  all_goals
    unfold shB at h
    unfold caB
    simp only [Bool.and_eq_true] at h ⊢
    obtain ⟨h3, h4, h5⟩ := h
    rw [inB_iff] at h4
    first | exact ⟨h5, inB_true (by omega) (by omega)⟩ | exact ⟨h3, inB_true (by omega) (by omega)⟩
theorem gcd_scale (n x y : Int) (h : 0 ≤ n) : gcdI (n * x) (n * y) = n * gcdI x y := by
  unfold gcdI
  rw [Int.gcd_mul_left, Int.natCast_mul, Int.natAbs_of_nonneg h]
theorem cn_parts (a b c d : Int) : cnG a b c d ∣ a ∧ cnG a b c d ∣ b ∧ cnG a b c d ∣ c ∧ cnG a b c d ∣ d := by
  have h1 : cnG a b c d ∣ gcdI a b := Int.gcd_dvd_left ..
  have h2 : cnG a b c d ∣ gcdI c d := Int.gcd_dvd_right ..
  exact ⟨Int.dvd_trans h1 (Int.gcd_dvd_left ..), Int.dvd_trans h1 (Int.gcd_dvd_right ..), Int.dvd_trans h2 (Int.gcd_dvd_left ..), Int.dvd_trans h2 (Int.gcd_dvd_right ..)⟩
theorem cn_one {a b c d : Int} (h : cuB a b c d = true) : 1 ≤ cnG a b c d ∧ cnG a b c d ≤ 1000 ∧ a.tdiv (cnG a b c d) * cnG a b c d = a ∧ d.tdiv (cnG a b c d) * cnG a b c d = d ∧
    cuB (a.tdiv (cnG a b c d)) (b.tdiv (cnG a b c d)) (c.tdiv (cnG a b c d)) (d.tdiv (cnG a b c d)) = true ∧ cnG (a.tdiv (cnG a b c d)) (b.tdiv (cnG a b c d)) (c.tdiv (cnG a b c d)) (d.tdiv (cnG a b c d)) = 1 := by
  obtain ⟨b0, b1, b2, b3, b4⟩ := cuB_bd h
  have hq := cnG_bd (b := b) (c := c) (d := d) b0 b1
  obtain ⟨⟨a', ha⟩, ⟨b', hb⟩, ⟨c', hc⟩, ⟨d', hd⟩⟩ := cn_parts a b c d
  have q1 := tdiv_bd a (cnG a b c d)
  have q2 := tdiv_bd b (cnG a b c d)
  have q3 := tdiv_bd c (cnG a b c d)
  have q4 := tdiv_bd d (cnG a b c d)
  have hg : cnG a b c d = gcdI (gcdI a b) (gcdI c d) := rfl
  generalize cnG a b c d = n at *
  have hn : n ≠ 0 := by omega
  subst ha hb hc hd
  rw [Int.mul_tdiv_cancel_left _ hn] at *
  rw [Int.mul_tdiv_cancel_left _ hn] at *
  rw [Int.mul_tdiv_cancel_left _ hn] at *
  rw [Int.mul_tdiv_cancel_left _ hn] at *
  refine ⟨hq.1, hq.2, Int.mul_comm .., Int.mul_comm .., ?_, ?_⟩
  · have : a' ≠ 0 := fun e => b0 (by rw [e]; simp)
    simp only [cuB, inB, Bool.and_eq_true, decide_eq_true_eq]
    omega
  · rw [gcd_scale _ _ _ (by omega), gcd_scale _ _ _ (by omega), gcd_scale _ _ _ (by omega)] at hg
    have : n * (cnG a' b' c' d' - 1) = 0 := by unfold cnG; rw [Int.mul_sub, ← hg]; omega
    rcases Int.mul_eq_zero.1 this with h | h
    · omega
    · omega
theorem rv_back {a b c d : Int} (h : rvB a b c d = true) : cuB a b c d = true ∧ rvB d c b a = true := by
  simp only [rvB, Bool.and_eq_true, decide_eq_true_eq] at h ⊢
  obtain ⟨h1, h2⟩ := h
  have := cuB_bd h1
  refine ⟨h1, ?_, this.1⟩
  simp only [cuB, inB, Bool.and_eq_true, decide_eq_true_eq]
  omega
theorem cf_sign {a b c d n : Int} (h : cfB a b c d n 1 = true) : caB a b c d n = true ∧ decide (0 < cuV a b c d n 1) = (cfV a b c d n 1 == 1) ∧ decide (cuV a b c d n 1 < 0) = (cfV a b c d n 1 == -1) := by
  have hv : cfV a b c d n 1 = sgnV (cuV a b c d n 1) := if_pos h
  rw [hv]
  simp only [cfB, Bool.and_eq_true] at h
  refine ⟨by simp only [caB, Bool.and_eq_true]; exact ⟨h.1, h.2.2.1⟩, ?_, ?_⟩
  all_goals
    unfold sgnV
    rcases Int.lt_trichotomy (cuV a b c d n 1) 0 with h | h | h
    · simp [h, show ¬ (0 < cuV a b c d n 1) by omega]
    · simp [h]
    · simp [h, show ¬ (cuV a b c d n 1 < 0) by omega]

def cub (a b c d : Int) : Value := .agg #[.int .i64 a, .int .i64 b, .int .i64 c, .int .i64 d]
/-- a call returns this value and touches nothing that was there -/
def RetC (f : FuncId) (args : Array Value) (r : Value) : Prop := ∀ W : World, Calls Tryd.prog f args W fun e w' => e = .returned r ∧ Below W.heap.size W w'

theorem cu_set1 (a b c d k : Int) : ∃ (S1 S2 S3 S4 : Int) (o1 : Bool),
    RetC 11 #[.agg #[.int .i64 a, .int .i64 b, .int .i64 c, .int .i64 d], .int .i64 k] (.tuple #[.agg #[.int .i64 S1, .int .i64 S2, .int .i64 S3, .int .i64 S4], .bool o1]) ∧
    RetC 12 #[.agg #[.int .i64 a, .int .i64 b, .int .i64 c, .int .i64 d], .int .i64 k] (.tuple #[.agg #[.int .i64 S1, .int .i64 S2, .int .i64 S3, .int .i64 S4], .bool o1]) ∧
    (o1 = true → RetC 11 #[.agg #[.int .i64 S1, .int .i64 S2, .int .i64 S3, .int .i64 S4], .int .i64 (-k)] (.tuple #[.agg #[.int .i64 a, .int .i64 b, .int .i64 c, .int .i64 d], .bool true])) ∧
    (o1 = true → ∀ x : Int, -3 ≤ x → x ≤ 3 → ∃ v : Int, RetC 24 #[.agg #[.int .i64 S1, .int .i64 S2, .int .i64 S3, .int .i64 S4], .int .i64 x] (.tuple #[.int .i64 v, .bool true]) ∧
      RetC 24 #[.agg #[.int .i64 a, .int .i64 b, .int .i64 c, .int .i64 d], .int .i64 (x + k)] (.tuple #[.int .i64 v, .bool true]) ∧ RetC 25 #[.agg #[.int .i64 a, .int .i64 b, .int .i64 c, .int .i64 d], .int .i64 (x + k)] (.tuple #[.int .i64 v, .bool true])) := by
  refine ⟨_, _, _, _, _, fun W => ShiftCubic_any a b c d k W, fun W => sShiftCubic_any a b c d k W, fun h W => ?_, fun h x h1 h2 => ?_⟩
  · obtain ⟨e0, e1, e2, e3⟩ := sh_back h
    have := ShiftCubic_any a (3 * a * k + b) (3 * a * k * k + 2 * b * k + c) (cuV a b c d k 1) (-k) W
    rw [e0, e1, e2, e3] at this
    rw [h]
    exact this
  · obtain ⟨e1, e2, e3⟩ := sh_at h h1 h2
    refine ⟨cuV a b c d (x + k) 1, fun W => ?_, fun W => ?_, fun W => ?_⟩
    · have := CubicAt_any a (3 * a * k + b) (3 * a * k * k + 2 * b * k + c) (cuV a b c d k 1) x W
      rw [e1, e3] at this
      rw [h]
      exact this
    · have := CubicAt_any a b c d (x + k) W
      rw [e2] at this
      exact this
    · have := sCubicAt_any a b c d (x + k) W
      rw [e2] at this
      exact this
theorem cu_set2 (ga gb gc gd : Int) : ∃ (N C1 C2 C3 C4 : Int) (o2 : Bool) (R1 R2 R3 R4 : Int) (o3 : Bool) (T : List UInt8),
    RetC 14 #[.agg #[.int .i64 ga, .int .i64 gb, .int .i64 gc, .int .i64 gd]] (.tuple #[.int .i64 N, .agg #[.int .i64 C1, .int .i64 C2, .int .i64 C3, .int .i64 C4], .bool o2]) ∧
    RetC 15 #[.agg #[.int .i64 ga, .int .i64 gb, .int .i64 gc, .int .i64 gd]] (.tuple #[.int .i64 N, .agg #[.int .i64 C1, .int .i64 C2, .int .i64 C3, .int .i64 C4], .bool o2]) ∧
    RetC 16 #[.agg #[.int .i64 ga, .int .i64 gb, .int .i64 gc, .int .i64 gd]] (.tuple #[.agg #[.int .i64 R1, .int .i64 R2, .int .i64 R3, .int .i64 R4], .bool o3]) ∧
    RetC 17 #[.agg #[.int .i64 ga, .int .i64 gb, .int .i64 gc, .int .i64 gd]] (.tuple #[.agg #[.int .i64 R1, .int .i64 R2, .int .i64 R3, .int .i64 R4], .bool o3]) ∧
    (∀ w0 w : World, Lib.TabIs Tryd.prog w0 "internal/strconv.uint64pow10" .u64 Lib.pow10Tab → Below w0.heap.size w0 w → Calls Tryd.prog 18 #[.agg #[.int .i64 ga, .int .i64 gb, .int .i64 gc, .int .i64 gd]] w fun r w' => r = .returned (.tuple #[.string ⟨T.toArray⟩, .bool o2]) ∧ Below w.heap.size w w') ∧
    RetC 19 #[.agg #[.int .i64 ga, .int .i64 gb, .int .i64 gc, .int .i64 gd]] (.tuple #[.string ⟨T.toArray⟩, .bool o2]) ∧
    RetC 26 #[.agg #[.int .i64 ga, .int .i64 gb, .int .i64 gc, .int .i64 gd]] (.bool o2) ∧
    (o3 = true → o2 = true) ∧
    (o2 = true → ∃ q1 q2 q3 q4 : Int, RetC 14 #[.agg #[.int .i64 C1, .int .i64 C2, .int .i64 C3, .int .i64 C4]] (.tuple #[.int .i64 1, .agg #[.int .i64 q1, .int .i64 q2, .int .i64 q3, .int .i64 q4], .bool true]) ∧ 1 ≤ N ∧ wrap64 (C1 * N) = ga ∧ wrap64 (C4 * N) = gd) ∧
    (o3 = true → RetC 16 #[.agg #[.int .i64 R1, .int .i64 R2, .int .i64 R3, .int .i64 R4]] (.tuple #[.agg #[.int .i64 ga, .int .i64 gb, .int .i64 gc, .int .i64 gd], .bool true])) := by
  refine ⟨_, _, _, _, _, _, _, _, _, _, _, ctS ga gb gc gd, fun W => ContentOf_any ga gb gc gd W, fun W => sContentOf_any ga gb gc gd W, fun W => ReverseCubic_any ga gb gc gd W, fun W => sReverseCubic_any ga gb gc gd W,
    fun w0 W ht hw => CubicText_any ga gb gc gd w0 W ht hw, fun W => sCubicText_any ga gb gc gd W, fun W => IsCubic_any ga gb gc gd W, fun h => (rv_back h).1, fun h => ?_, fun h W => ?_⟩
  · obtain ⟨e1, e2, e3, e4, e5, e6⟩ := cn_one h
    obtain ⟨b0, b1, b2, b3, b4⟩ := cuB_bd h
    refine ⟨iteZ true ((ga.tdiv (cnG ga gb gc gd)).tdiv 1), iteZ true ((gb.tdiv (cnG ga gb gc gd)).tdiv 1), iteZ true ((gc.tdiv (cnG ga gb gc gd)).tdiv 1), iteZ true ((gd.tdiv (cnG ga gb gc gd)).tdiv 1), fun W => ?_, ?_⟩
    rotate_left
    · rw [h]
      simp only [iteZ_t]
      refine ⟨e1, ?_, ?_⟩
      · rw [e3]; unfold wrap64; omega
      · rw [e4]; unfold wrap64; omega
    · have := ContentOf_any (ga.tdiv (cnG ga gb gc gd)) (gb.tdiv (cnG ga gb gc gd)) (gc.tdiv (cnG ga gb gc gd)) (gd.tdiv (cnG ga gb gc gd)) W
      rw [e5, e6] at this
      rw [h]
      exact this
  · obtain ⟨e1, e2⟩ := rv_back h
    have := ReverseCubic_any gd gc gb ga W
    rw [e2] at this
    rw [h]
    exact this
theorem cu_set3 (ha hb hc hd m e : Int) : ∃ (A : Int) (o7 : Bool),
    RetC 21 #[.agg #[.int .i64 ha, .int .i64 hb, .int .i64 hc, .int .i64 hd], .agg #[.int .i64 m, .int .i64 e]] (.tuple #[.int .i64 A, .bool o7]) ∧
    RetC 22 #[.agg #[.int .i64 ha, .int .i64 hb, .int .i64 hc, .int .i64 hd], .agg #[.int .i64 m, .int .i64 e]] (.tuple #[.int .i64 A, .bool o7]) ∧
    (o7 = true → e = 1 → ∃ v : Int, RetC 24 #[.agg #[.int .i64 ha, .int .i64 hb, .int .i64 hc, .int .i64 hd], .int .i64 m] (.tuple #[.int .i64 v, .bool true]) ∧ decide (0 < v) = (A == 1) ∧ decide (v < 0) = (A == -1)) := by
  refine ⟨_, _, fun W => CubicAtFraction_any ha hb hc hd m e W, fun W => sCubicAtFraction_any ha hb hc hd m e W, fun h he => ?_⟩
  subst he
  obtain ⟨e1, e2, e3⟩ := cf_sign h
  refine ⟨cuV ha hb hc hd m 1, fun W => ?_, e2, e3⟩
  have := CubicAt_any ha hb hc hd m W
  rw [e1] at this
  exact this
theorem cu_set4 (pa pb pc pd y : Int) : ∃ (V : Int) (o9 : Bool),
    RetC 24 #[.agg #[.int .i64 pa, .int .i64 pb, .int .i64 pc, .int .i64 pd], .int .i64 y] (.tuple #[.int .i64 V, .bool o9]) ∧
    RetC 25 #[.agg #[.int .i64 pa, .int .i64 pb, .int .i64 pc, .int .i64 pd], .int .i64 y] (.tuple #[.int .i64 V, .bool o9]) :=
  ⟨_, _, fun W => CubicAt_any pa pb pc pd y W, fun W => sCubicAt_any pa pb pc pd y W⟩

theorem eqCu_at (d : Nat) (a b c e : Int) (w : World) : (Op.equalIn (d + 1 + 1) 42 (.agg #[.int .i64 a, .int .i64 b, .int .i64 c, .int .i64 e]) (.agg #[.int .i64 a, .int .i64 b, .int .i64 c, .int .i64 e])).run Tryd.prog w = .ok true w := by
  have u3 := Tryd.underlying3
  have hS : Tryd.prog.underlying 42 = some (.struct (Tryd.prog.fieldsOf 42)) := by kernel_rfl
  have hp : Tryd.prog.stoodInHeld 42 = false := by kernel_rfl
  rw [run_equalIn_agg w (d + 1) 42 _ _ hS hp]
  simp only [Program.fieldsOf, Tryd.underlying42]
  go_simp
theorem neqCu_same (a b c d : Int) (w : World) : (binOp .neq 42 (.agg #[.int .i64 a, .int .i64 b, .int .i64 c, .int .i64 d]) (.agg #[.int .i64 a, .int .i64 b, .int .i64 c, .int .i64 d])).run Tryd.prog w = .ok (.bool false) w := by
  rw [run_neq_struct, show (10000 : Nat) = 9998 + 1 + 1 from rfl, eqCu_at]
  rfl
end Go.Proofs.YtdcbpgpjiacomaaDoor
