/- Lemmas and contracts of functions. No condition. -/
import Derived.Test.YtnkmgpmehkholaaGreatPq2
import Derived.Laws.FloatArith
namespace Go.Proofs.YtnkmgpmehkholaaGreat
section
open Go.RowKit
set_option linter.unusedVariables false
set_option linter.unusedSimpArgs false

structure Cal (T : TypeId) (w w' : World) (p : Nat) (v : Bool) : Prop where
  os : w'.os = w.os
  tape : w'.tape = w.tape
  output : w'.output = w.output
  size : w.heap.size ≤ w'.heap.size
  block : ∀ k, k < w.heap.size → k ≠ p → w'.heap[k]? = w.heap[k]?
  at_ : w'.heap[p]? = some (.cells #[.bool v] T (0, 0))
section
variable {T : TypeId} {w w1 w2 : World} {p : Nat} {v u : Bool}
theorem Cal.start (h : w.heap[p]? = some (.cells #[.bool v] T (0, 0))) : Cal T w w p v := ⟨rfl, rfl, rfl, Nat.le_refl _, fun _ _ _ => rfl, h⟩
theorem Cal.lt (h : Cal T w w1 p v) : p < w1.heap.size := lt_of_block h.at_
theorem Cal.drewN (h : Cal T w w1 p v) (n : Nat) : Cal T w (w1.drewN n) p v := ⟨h.os, h.tape, h.output, h.size, h.block, h.at_⟩
theorem Cal.drew (h : Cal T w w1 p v) : Cal T w w1.drew p v := ⟨h.os, h.tape, h.output, h.size, h.block, h.at_⟩
theorem Cal.alloc (h : Cal T w w1 p v) (o : Obj) : Cal T w (w1.alloc o) p v :=
  ⟨h.os, h.tape, h.output, by have := h.size; simp; omega, fun k hk hp => (Below.heap_alloc _ _ _ (by have := h.size; omega)).trans (h.block k hk hp), (Below.heap_alloc _ _ _ h.lt).trans h.at_⟩
theorem Cal.set (h : Cal T w w1 p v) (u : Bool) : Cal T w (w1.setCell ⟨p, 0, none⟩ (.bool u)) p u :=
  ⟨h.os, h.tape, h.output, by have := h.size; simp [World.setCell]; omega, fun k hk hp => (Below.heap_setCell w1 _ _ k hp).trans (h.block k hk hp), one_setCell h.at_⟩
theorem Cal.own (h : Cal T w w1 p v) {a : Addr} (ha : w.heap.size ≤ a.block) (hp : a.block ≠ p) (x : Value) : Cal T w (w1.setCell a x) p v :=
  ⟨h.os, h.tape, h.output, by have := h.size; simp [World.setCell]; omega, fun k hk hkp => (Below.heap_setCell w1 _ _ k (by omega)).trans (h.block k hk hkp), (Below.heap_setCell w1 _ _ p (fun e => hp e.symm)).trans h.at_⟩
theorem Cal.trans (h : Cal T w w1 p v) (k : Cal T w1 w2 p u) : Cal T w w2 p u :=
  ⟨k.os.trans h.os, k.tape.trans h.tape, k.output.trans h.output, Nat.le_trans h.size k.size, fun i hi hp => (k.block i (Nat.lt_of_lt_of_le hi h.size) hp).trans (h.block i hi hp), k.at_⟩
theorem Cal.step (h : Cal T w w1 p v) (k : Below w1.heap.size w1 w2) : Cal T w w2 p v :=
  ⟨k.os.trans h.os, k.tape.trans h.tape, k.output.trans h.output, Nat.le_trans h.size k.size, fun i hi hp => (k.block i (Nat.lt_of_lt_of_le hi h.size)).trans (h.block i hi hp), (k.block p h.lt).trans h.at_⟩
theorem Cal.below {B : Nat} (h : Cal T w w1 p v) (hB : B ≤ w.heap.size) (hp : B ≤ p) : Below B w w1 :=
  ⟨h.os, h.tape, h.output, h.size, fun k hk => h.block k (by omega) (by omega)⟩
def CalE (T : TypeId) (w w' : World) (p : Nat) : Prop := ∃ v, Cal T w w' p v
theorem CalE.of (h : Cal T w w1 p v) : CalE T w w1 p := ⟨v, h⟩
theorem CalE.alloc (h : CalE T w w1 p) (o : Obj) : CalE T w (w1.alloc o) p := h.elim fun v h => ⟨v, h.alloc o⟩
theorem CalE.drew (h : CalE T w w1 p) : CalE T w w1.drew p := h.elim fun v h => ⟨v, h.drew⟩
theorem CalE.drewN (h : CalE T w w1 p) (n : Nat) : CalE T w (w1.drewN n) p := h.elim fun v h => ⟨v, h.drewN n⟩
theorem CalE.own (h : CalE T w w1 p) {a : Addr} (ha : w.heap.size ≤ a.block) (hp : a.block ≠ p) (x : Value) : CalE T w (w1.setCell a x) p := h.elim fun v h => ⟨v, h.own ha hp x⟩
theorem CalE.via (hb : Cal T w1 w2 p u) (h : CalE T w w1 p) : CalE T w w2 p := h.elim fun v h => ⟨u, h.trans hb⟩
theorem CalE.step (hb : Below w1.heap.size w1 w2) (h : CalE T w w1 p) : CalE T w w2 p := h.elim fun v h => ⟨v, h.step hb⟩
theorem CalE.below {B : Nat} (h : CalE T w w1 p) (hB : B ≤ w.heap.size) (hp : B ≤ p) : Below B w w1 := h.elim fun v h => h.below hB hp
theorem cal_step (hb : Below w1.heap.size w1 w2) (h : Cal T w w1 p v) : Cal T w w2 p v := h.step hb
theorem calCell (h : Cal T w w1 p v) (b : Nat) (hb : b < w.heap.size) (hp : b ≠ p) : ∀ o, w1.cell? ⟨b, o, none⟩ = w.cell? ⟨b, o, none⟩ := fun o => World.cell?_of_block (h.block b hb hp)
theorem calFroz (h : Cal T w w1 p v) (b : Nat) (hb : b < w.heap.size) (hp : b ≠ p) : ∀ o, w1.frozen? ⟨b, o, none⟩ = w.frozen? ⟨b, o, none⟩ := fun o => World.frozen?_of_block (h.block b hb hp)
theorem calCell' {C : Prop} (h : Cal T w w1 p v) (b o : Nat) (hb : b < w.heap.size) (hp : b ≠ p) (k : w1.cell? ⟨b, o, none⟩ = w.cell? ⟨b, o, none⟩ → C) : C := k (calCell h b hb hp o)
theorem calFroz' {C : Prop} (h : Cal T w w1 p v) (b : Nat) (hb : b < w.heap.size) (hp : b ≠ p) (k : (∀ o, w1.frozen? ⟨b, o, none⟩ = w.frozen? ⟨b, o, none⟩) → C) : C := k (calFroz h b hb hp)
theorem calAt (h : Cal T w w1 p v) : w1.cell? ⟨p, 0, none⟩ = some (.bool v) := cell_of_one h.at_
theorem calFree (h : Cal T w w1 p v) : w1.frozen? ⟨p, 0, none⟩ = false := free_of_one h.at_
end
end
section
open Go.RowKit Ieee
set_option linter.unusedVariables false
set_option linter.unusedSimpArgs false
set_option maxRecDepth 20000
theorem rootFrom_sq (n : Nat) : ∀ todo root, root * root ≤ n → Datum.rootFrom n todo root * Datum.rootFrom n todo root ≤ n
  | 0, root, h => h
  | t + 1, root, h => by
    unfold Datum.rootFrom
    dsimp only
    split
    · exact rootFrom_sq n t _ (by assumption)
    · exact rootFrom_sq n t _ h
theorem log_lt (n : Nat) : n < 2 ^ (n.log2 + 1) := Nat.lt_log2_self
theorem cut_even_le {s : Bool} {N d : Nat} (h : N < 2 ^ 53 * 2 ^ d) : Toward.even.cut s N d ≤ 2 ^ 53 := by
  unfold Toward.cut
  dsimp only
  have hlow : N / (1 <<< min d (N.log2 + 2)) < 2 ^ 53 := by
    rw [Nat.one_shiftLeft]
    by_cases hd : d ≤ N.log2 + 2
    · rw [Nat.min_eq_left hd]
      exact Nat.div_lt_of_lt_mul (by rw [Nat.mul_comm]; exact h)
    · rw [Nat.min_eq_right (by omega), Nat.div_eq_of_lt]
      · exact Nat.two_pow_pos _
      · exact Nat.lt_of_lt_of_le (log_lt N) (Nat.pow_le_pow_right (by omega) (by omega))
  generalize N / (1 <<< min d (N.log2 + 2)) = a at *
  have hb : ∀ b : Bool, b.toNat ≤ 1 := fun b => by cases b <;> decide
  exact Nat.le_trans (Nat.add_le_add_left (hb _) a) hlow
theorem cut_zero_lt {s : Bool} {N d k : Nat} (h : N < 2 ^ k * 2 ^ d) : Toward.zero.cut s N d < 2 ^ k := by
  unfold Toward.cut
  dsimp only
  simp only [Bool.toNat_false, Nat.add_zero]
  rw [Nat.one_shiftLeft]
  by_cases hd : d ≤ N.log2 + 2
  · rw [Nat.min_eq_left hd]
    exact Nat.div_lt_of_lt_mul (by rw [Nat.mul_comm]; exact h)
  · rw [Nat.min_eq_right (by omega), Nat.div_eq_of_lt]
    · exact Nat.two_pow_pos _
    · exact Nat.lt_of_lt_of_le (log_lt N) (Nat.pow_le_pow_right (by omega) (by omega))
theorem near_rung {m : Nat} {p k : Int} (hm : m ≠ 0) (hL : (m.log2 : Int) + p ≤ k) (hk : -1000 ≤ k) : double.nearest false m p ≤ (k + 1022).toNat * 2 ^ 52 + 2 ^ 53 := by
  unfold Format.nearest
  rw [if_neg hm]
  dsimp only
  have e1 : double.leastPlace = -1074 := by decide
  have e2 : double.fractionBits = 52 := rfl
  have e3 : double.binade = 2 ^ 52 := rfl
  rw [e1, e2, e3]
  generalize hl : max (p + (m.log2 : Int) - (52 : Nat)) (-1074) = last
  have hcut : Toward.even.cut false (m <<< (p - last).toNat) (last - p).toNat ≤ 2 ^ 53 := by
    apply cut_even_le
    rw [Nat.shiftLeft_eq, ← Nat.pow_add]
    calc m * 2 ^ (p - last).toNat < 2 ^ (m.log2 + 1) * 2 ^ (p - last).toNat := Nat.mul_lt_mul_of_pos_right (log_lt m) (Nat.two_pow_pos _)
      _ = 2 ^ (m.log2 + 1 + (p - last).toNat) := (Nat.pow_add 2 (m.log2 + 1) _).symm
      _ ≤ 2 ^ (53 + (last - p).toNat) := Nat.pow_le_pow_right (by omega) (by omega)
  have h4 : (last - -1074).toNat ≤ (k + 1022).toNat := by omega
  show (if false = true then _ else _) ≤ _
  rw [if_neg (by decide)]
  refine Nat.le_trans (Nat.min_le_left _ _) ?_
  exact Nat.add_le_add (Nat.mul_le_mul_right _ h4) hcut
theorem read_lt {r : Nat} {k : Int} (hk : -1000 ≤ k) (hk2 : k ≤ 900) (h : r ≤ (k + 1022).toNat * 2 ^ 52 + 2 ^ 53) : ∃ m e, double.read r = .number false m e ∧ m < 2 ^ 53 ∧ e ≤ k - 51 := by
  have e1 : double.leastPlace = -1074 := by decide
  have e3 : double.binade = 2 ^ 52 := rfl
  have e4 : double.signWeight = 2 ^ 63 := rfl
  have e5 : double.infRung = 2047 * 2 ^ 52 := by decide
  unfold Format.read
  rw [e1, e3, e4, e5]
  have hr : r < 2047 * 2 ^ 52 := by omega
  have h1 : r % 2 ^ 63 = r := Nat.mod_eq_of_lt (by omega)
  have h2 : r / 2 ^ 63 = 0 := Nat.div_eq_of_lt (by omega)
  rw [h1, h2]
  dsimp only
  by_cases h3 : r < 2 ^ 52
  · rw [if_pos h3]
    exact ⟨r, -1074, rfl, by omega, by omega⟩
  · rw [if_neg h3, if_pos hr]
    exact ⟨_, _, rfl, by omega, by omega⟩
/-- the number that a square root in floating point gives, cut to an integer -/
theorem sqrt_small {n : Nat} (h : n < 2 ^ 44) : ∃ r : Nat, ∃ z : Nat, double.sqrt (double.nearest false n 0) = some r ∧ (double.read r).toInt .zero = some (z : Int) ∧ z < 2 ^ 24 := by
  have hx : ∃ m e, double.read (double.nearest false n 0) = .number false m e ∧ m < 2 ^ 53 ∧ e ≤ -8 := by
    by_cases hn : n = 0
    · subst hn
      exact ⟨0, -1074, by decide, by decide, by decide⟩
    · have hl : n.log2 < 44 := (Nat.log2_lt hn).2 h
      exact read_lt (k := 43) (by omega) (by omega) (near_rung hn (by omega) (by omega))
  obtain ⟨m, i, hr, hm, hi⟩ := hx
  unfold Format.sqrt
  rw [hr]
  unfold Datum.root
  dsimp only
  by_cases h0 : m = 0
  · rw [if_pos h0]
    refine ⟨0, 0, ?_, by decide, by decide⟩
    subst h0
    rfl
  · rw [if_neg h0, if_neg (by decide)]
    have e2 : double.fractionBits + 2 = 54 := rfl
    rw [e2]
    generalize hmo : 2 * 54 - m.log2 + ((i - ((2 * 54 - m.log2 : Nat) : Int)) % 2).toNat = more
    have hml : m.log2 < 53 := (Nat.log2_lt h0).2 hm
    have hmo1 : m.log2 + 1 + more ≤ 110 := by omega
    have hmo2 : 56 ≤ more := by omega
    have hsq := rootFrom_sq (m <<< more) ((m <<< more).log2 / 2 + 1) 0 (Nat.zero_le _)
    generalize Datum.rootFrom (m <<< more) ((m <<< more).log2 / 2 + 1) 0 = wh at *
    have hlt : m <<< more < 2 ^ 110 := by
      rw [Nat.shiftLeft_eq]
      calc m * 2 ^ more < 2 ^ (m.log2 + 1) * 2 ^ more := Nat.mul_lt_mul_of_pos_right (log_lt m) (Nat.two_pow_pos _)
        _ = 2 ^ (m.log2 + 1 + more) := (Nat.pow_add 2 (m.log2 + 1) _).symm
        _ ≤ 2 ^ 110 := Nat.pow_le_pow_right (by omega) (by omega)
    have hw : wh < 2 ^ 55 := by
      apply Nat.lt_of_not_le; intro hge
      have := Nat.mul_le_mul hge hge
      omega
    have hq : ∀ b : Bool, 2 * wh + b.toNat < 2 ^ 56 := fun b => by cases b <;> simp <;> omega
    generalize hqq : 2 * wh + (wh * wh != m <<< more).toNat = q
    have hq1 : q < 2 ^ 56 := hqq ▸ hq _
    have hp : (i - (more : Int)) / 2 - 1 ≤ -33 := by omega
    generalize (i - (more : Int)) / 2 - 1 = pl at *
    have hy : ∃ m3 e3, double.read (double.write (.number false q pl)) = .number false m3 e3 ∧ m3 < 2 ^ 53 ∧ e3 ≤ -29 := by
      show ∃ m3 e3, double.read (double.nearest false q pl) = .number false m3 e3 ∧ m3 < 2 ^ 53 ∧ e3 ≤ -29
      by_cases hn : q = 0
      · subst hn
        refine ⟨0, -1074, ?_, by decide, by decide⟩
        unfold Format.nearest
        rw [if_pos rfl]
        decide
      · have hl : q.log2 < 56 := (Nat.log2_lt hn).2 hq1
        exact read_lt (k := 22) (by omega) (by omega) (near_rung hn (by omega) (by omega))
    obtain ⟨m3, e3, hr3, hm3, he3⟩ := hy
    refine ⟨_, Toward.zero.cut false (m3 <<< e3.toNat) (-e3).toNat, rfl, ?_, ?_⟩
    · rw [hr3]; simp [Datum.toInt, Datum.integral, signed]
    · have he0 : e3.toNat = 0 := by omega
      rw [he0, Nat.shiftLeft_zero]
      apply cut_zero_lt
      rw [← Nat.pow_add]
      exact Nat.lt_of_lt_of_le hm3 (Nat.pow_le_pow_right (by omega) (by omega))
end
end Go.Proofs.YtnkmgpmehkholaaGreat
