/- Plain words: the lists of rational roots that both texts make are the same. No program in sight. -/
import Derived.Test.YtldonmcbnhgbdaaCuP
namespace Go.Proofs.Ytldonmcbnhgbdaa
open Go.RowKit
set_option linter.unusedVariables false
set_option linter.unusedSimpArgs false
instance (x y : Fr2) : Decidable (ltF x y) := by unfold ltF; infer_instance
/-! ### an increasing list -/
structure LoP (x : Fr2) : Prop where
  den : 1 ≤ x.2
  low : Int.gcd x.1 x.2 = 1
def putF : List Fr2 → Fr2 → List Fr2
  | [], x => [x]
  | y :: l, x => if ltF y x then y :: putF l x else if y = x then y :: l else x :: y :: l
theorem putF_mem : ∀ {l : List Fr2} {x z : Fr2}, z ∈ putF l x ↔ z ∈ l ∨ z = x
  | [], x, z => by simp [putF]
  | y :: l, x, z => by
    unfold putF
    split
    · simp only [List.mem_cons, putF_mem (l := l), or_assoc]
    · split
      · rename_i h; subst h
        simp only [List.mem_cons]
        constructor
        · intro h; exact .inl h
        · rintro (h | h)
          · exact h
          · exact .inl h
      · simp only [List.mem_cons]
        constructor
        · rintro (h | h)
          · exact .inr h
          · exact .inl h
        · rintro (h | h)
          · exact .inr h
          · exact .inl h
theorem putF_sorted : ∀ {l : List Fr2} {x : Fr2}, (∀ y ∈ l, LoP y) → LoP x → l.Pairwise ltF → (putF l x).Pairwise ltF
  | [], x, _, _, _ => by simp [putF]
  | y :: l, x, hl, hx, h => by
    have hy := hl y (by simp)
    rw [List.pairwise_cons] at h
    unfold putF
    split
    · rename_i h1
      rw [List.pairwise_cons]
      refine ⟨fun z hz => ?_, putF_sorted (fun z hz => hl z (by simp [hz])) hx h.2⟩
      rcases putF_mem.1 hz with q | q
      · exact h.1 z q
      · rw [q]; exact h1
    · rename_i h1
      split
      · rw [List.pairwise_cons]; exact h
      · rename_i h2
        have hlt : ltF x y := by
          rcases ltF_total hy.den hx.den hy.low hx.low h2 with q | q
          · exact (h1 q).elim
          · exact q
        rw [List.pairwise_cons]
        refine ⟨fun z hz => ?_, by rw [List.pairwise_cons]; exact h⟩
        rcases List.mem_cons.1 hz with q | q
        · rw [q]; exact hlt
        · exact ltF_trans hx.den hy.den (hl z (by simp [q])).den hlt (h.1 z q)
/-! ### lowest terms -/
def redF (n e : Int) : Fr2 := (n.tdiv (gcdI n e), e.tdiv (gcdI n e))
theorem redF_spec {n e : Int} (he : 1 ≤ e) : LoP (redF n e) ∧ n = gcdI n e * (redF n e).1 ∧ e = gcdI n e * (redF n e).2 ∧ 1 ≤ gcdI n e := by
  have hg := gcdI_pos (a := n) (show e ≠ 0 by omega)
  have h1 : (gcdI n e) ∣ n := Int.gcd_dvd_left n e
  have h2 : (gcdI n e) ∣ e := Int.gcd_dvd_right n e
  have e1 : gcdI n e * n.tdiv (gcdI n e) = n := Int.mul_tdiv_cancel' h1
  have e2 : gcdI n e * e.tdiv (gcdI n e) = e := Int.mul_tdiv_cancel' h2
  refine ⟨⟨?_, ?_⟩, e1.symm, e2.symm, hg⟩
  · show 1 ≤ e.tdiv (gcdI n e)
    rcases Int.lt_or_le 0 (e.tdiv (gcdI n e)) with q | q
    · omega
    · have := Int.mul_nonpos_of_nonneg_of_nonpos (show 0 ≤ gcdI n e by omega) q
      omega
  · show Int.gcd (n.tdiv (gcdI n e)) (e.tdiv (gcdI n e)) = 1
    have h3 : Int.gcd (gcdI n e * n.tdiv (gcdI n e)) (gcdI n e * e.tdiv (gcdI n e)) = (gcdI n e).natAbs * Int.gcd (n.tdiv (gcdI n e)) (e.tdiv (gcdI n e)) := Int.gcd_mul_left ..
    rw [e1, e2] at h3
    have h4 : (gcdI n e).natAbs = Int.gcd n e := by unfold gcdI; simp
    rw [h4] at h3
    have h5 : 0 < Int.gcd n e := by have : gcdI n e = (Int.gcd n e : Int) := rfl; omega
    exact (Nat.eq_of_mul_eq_mul_left h5 (by omega)).symm
theorem redF_low {n e : Int} (h : Int.gcd n e = 1) : redF n e = (n, e) := by
  have : gcdI n e = 1 := by unfold gcdI; omega
  unfold redF; rw [this, Int.tdiv_one, Int.tdiv_one]
theorem cuV_scale (a b c d g n e : Int) : cuV a b c d (g * n) (g * e) = g * g * g * cuV a b c d n e := by unfold cuV; grind
theorem redF_root {a b c d n e : Int} (he : 1 ≤ e) (hz : cuV a b c d n e = 0) : RtP a b c d (redF n e) := by
  obtain ⟨h1, h2, h3, h4⟩ := redF_spec (n := n) he
  refine ⟨h1.den, h1.low, ?_⟩
  have h5 := cuV_scale a b c d (gcdI n e) (redF n e).1 (redF n e).2
  rw [← h2, ← h3, hz] at h5
  have h6 : gcdI n e * gcdI n e * gcdI n e ≠ 0 := Int.mul_ne_zero (Int.mul_ne_zero (by omega) (by omega)) (by omega)
  rcases Int.mul_eq_zero.1 h5.symm with q | q
  · exact (h6 q).elim
  · exact q
/-! ### the reference's list -/
/-- the divisors of N among 1 .. k -/
def cdV (N : Int) (k : Nat) : List Int := ((List.range k).filter fun i : Nat => decide (N % ((i : Int) + 1) = 0)).map fun i : Nat => (i : Int) + 1
theorem cdV_mem {N : Int} {k : Nat} {x : Int} : x ∈ cdV N k ↔ 1 ≤ x ∧ x ≤ k ∧ N % x = 0 := by
  unfold cdV
  simp only [List.mem_map, List.mem_filter, List.mem_range, decide_eq_true_eq]
  constructor
  · rintro ⟨i, ⟨h1, h2⟩, rfl⟩; exact ⟨by omega, by omega, h2⟩
  · rintro ⟨h1, h2, h3⟩
    refine ⟨x.toNat - 1, ⟨by omega, ?_⟩, by omega⟩
    rw [show (((x.toNat - 1 : Nat) : Int) + 1) = x by omega]; exact h3
theorem cdV_succ (N : Int) (k : Nat) : cdV N (k + 1) = cdV N k ++ (if N % ((k : Int) + 1) = 0 then [(k : Int) + 1] else []) := by
  unfold cdV
  rw [List.range_succ, List.filter_append, List.map_append]
  congr 1
  by_cases h : N % ((k : Int) + 1) = 0 <;> simp [h]
theorem cdV_len (N : Int) (k : Nat) : (cdV N k).length ≤ k := by
  unfold cdV
  rw [List.length_map]
  have := List.length_filter_le (fun i : Nat => decide (N % ((i : Int) + 1) = 0)) (List.range k)
  rw [List.length_range] at this; exact this
/-- one try -/
def spP (a b c d : Int) (l : List Fr2) (n e : Int) : List Fr2 := if cuV a b c d n e = 0 then putF l (redF n e) else l
def spE (a b c d n : Int) (l : List Fr2) (e : Int) : List Fr2 := spP a b c d (spP a b c d l n e) (-n) e
def spN (a b c d : Int) (es : List Int) (l : List Fr2) (n : Int) : List Fr2 := es.foldl (spE a b c d n) l
def spB (d : Int) : List Fr2 := if d = 0 then [(0, 1)] else []
def spL (a b c d : Int) : List Fr2 := if laV b c d = 0 then spB d else (cdV (laV b c d).natAbs (laV b c d).natAbs).foldl (spN a b c d (cdV a.natAbs a.natAbs)) (spB d)
/-- what holds of a list of roots: increasing, all roots -/
structure RoL (a b c d : Int) (l : List Fr2) : Prop where
  inc : l.Pairwise ltF
  all : ∀ x ∈ l, RtP a b c d x
theorem RtP.lo {a b c d : Int} {x : Fr2} (h : RtP a b c d x) : LoP x := ⟨h.den, h.low⟩
theorem RoL.put {a b c d : Int} {l : List Fr2} (h : RoL a b c d l) {n e : Int} (he : 1 ≤ e) : RoL a b c d (spP a b c d l n e) := by
  unfold spP
  split
  · rename_i hz
    have hr := redF_root he hz
    exact ⟨putF_sorted (fun y hy => (h.all y hy).lo) hr.lo h.inc, fun x hx => by
      rcases putF_mem.1 hx with q | q
      · exact h.all x q
      · rw [q]; exact hr⟩
  · exact h
theorem spP_sub {a b c d : Int} {l : List Fr2} {n e : Int} {x : Fr2} (h : x ∈ l) : x ∈ spP a b c d l n e := by
  unfold spP; split
  · exact putF_mem.2 (.inl h)
  · exact h
theorem spE_sub {a b c d n : Int} {l : List Fr2} {e : Int} {x : Fr2} (h : x ∈ l) : x ∈ spE a b c d n l e := spP_sub (spP_sub h)
theorem spN_sub {a b c d n : Int} {x : Fr2} : ∀ {es : List Int} {l : List Fr2}, x ∈ l → x ∈ spN a b c d es l n
  | [], l, h => h
  | e :: es, l, h => spN_sub (es := es) (spE_sub h)
theorem spNs_sub {a b c d : Int} {es : List Int} {x : Fr2} : ∀ {ns : List Int} {l : List Fr2}, x ∈ l → x ∈ ns.foldl (spN a b c d es) l
  | [], l, h => h
  | n :: ns, l, h => spNs_sub (ns := ns) (spN_sub h)
theorem RoL.spE {a b c d : Int} {l : List Fr2} (h : RoL a b c d l) {n e : Int} (he : 1 ≤ e) : RoL a b c d (spE a b c d n l e) := (h.put he).put he
theorem RoL.spN {a b c d n : Int} : ∀ {es : List Int} {l : List Fr2}, RoL a b c d l → (∀ e ∈ es, 1 ≤ e) → RoL a b c d (spN a b c d es l n)
  | [], l, h, _ => h
  | e :: es, l, h, he => RoL.spN (es := es) (h.spE (he e (by simp))) (fun x hx => he x (by simp [hx]))
theorem RoL.spNs {a b c d : Int} {es : List Int} (he : ∀ e ∈ es, 1 ≤ e) : ∀ {ns : List Int} {l : List Fr2}, RoL a b c d l → RoL a b c d (ns.foldl (Go.Proofs.Ytldonmcbnhgbdaa.spN a b c d es) l)
  | [], l, h => h
  | n :: ns, l, h => RoL.spNs he (ns := ns) (h.spN he)
theorem RoL.base (a b c d : Int) : RoL a b c d (spB d) := by
  unfold spB
  split
  · rename_i h
    subst h
    refine ⟨by simp, fun x hx => ?_⟩
    simp only [List.mem_singleton] at hx
    subst hx
    exact ⟨by simp, by simp, by simp [cuV]⟩
  · exact ⟨by simp, fun x hx => by cases hx⟩
theorem spL_ro {a b c d : Int} : RoL a b c d (spL a b c d) := by
  unfold spL
  split
  · exact RoL.base a b c d
  · exact RoL.spNs (fun e he => (cdV_mem.1 he).1) (RoL.base a b c d)
theorem in_spE {a b c d n e : Int} {l : List Fr2} (hz : cuV a b c d n e = 0) : redF n e ∈ spE a b c d n l e := by
  refine spP_sub ?_
  unfold spP; rw [if_pos hz]; exact putF_mem.2 (.inr rfl)
theorem in_spE' {a b c d n e : Int} {l : List Fr2} (hz : cuV a b c d (-n) e = 0) : redF (-n) e ∈ spE a b c d n l e := by
  unfold spE spP; rw [if_pos hz]; exact putF_mem.2 (.inr rfl)
theorem in_spN {a b c d n e : Int} {x : Fr2} (h : ∀ l, x ∈ spE a b c d n l e) : ∀ {es : List Int} {l : List Fr2}, e ∈ es → x ∈ spN a b c d es l n
  | y :: es, l, he => by
    rcases List.mem_cons.1 he with q | q
    · subst q; exact spN_sub (es := es) (h l)
    · exact in_spN h (es := es) q
theorem in_spNs {a b c d n : Int} {es : List Int} {x : Fr2} (h : ∀ l, x ∈ spN a b c d es l n) : ∀ {ns : List Int} {l : List Fr2}, n ∈ ns → x ∈ ns.foldl (spN a b c d es) l
  | y :: ns, l, hn => by
    rcases List.mem_cons.1 hn with q | q
    · subst q; exact spNs_sub (ns := ns) (h l)
    · exact in_spNs h (ns := ns) q
theorem abs_dvd_mod {x N : Int} (h : x ∣ N) : (N.natAbs : Int) % (x.natAbs : Int) = 0 := by
  apply Int.emod_eq_zero_of_dvd
  exact Int.natCast_dvd_natCast.2 (Int.natAbs_dvd_natAbs.2 h)
theorem spL_mem {a b c d : Int} (ha : a ≠ 0) {x : Fr2} : x ∈ spL a b c d ↔ RtP a b c d x := by
  refine ⟨fun h => spL_ro.all x h, fun h => ?_⟩
  obtain ⟨n, e⟩ := x
  have hden : 1 ≤ e := h.den
  have hlow : Int.gcd n e = 1 := h.low
  have hz : cuV a b c d n e = 0 := h.zero
  by_cases hn : n = 0
  · subst hn
    obtain ⟨hd, he⟩ := root_zero hden hlow hz
    subst hd; subst he
    unfold spL
    split
    · simp [spB]
    · exact spNs_sub (by simp [spB])
  · have h1 := root_num hlow hn hz
    have h2 := root_den hlow hz
    have hla : laV b c d ≠ 0 := by
      intro h0
      have hb : b = 0 ∧ c = 0 ∧ d = 0 := by
        unfold laV at h0
        split at h0
        · omega
        · split at h0 <;> omega
      obtain ⟨rfl, rfl, rfl⟩ := hb
      have : a * n * n * n = 0 := by unfold cuV at hz; grind
      exact Int.mul_ne_zero (Int.mul_ne_zero (Int.mul_ne_zero ha hn) hn) hn this
    rw [if_neg hla] at h1
    unfold spL
    rw [if_neg hla]
    have m2 : e ∈ cdV a.natAbs a.natAbs := by
      refine cdV_mem.2 ⟨hden, ?_, ?_⟩
      · have := Int.le_of_dvd (b := a.natAbs) (by omega) (Int.dvd_natAbs.2 h2); omega
      · have := abs_dvd_mod h2; rwa [show ((e.natAbs : Nat) : Int) = e by omega] at this
    have m1 : (n.natAbs : Int) ∈ cdV (laV b c d).natAbs (laV b c d).natAbs := by
      refine cdV_mem.2 ⟨by omega, ?_, abs_dvd_mod h1⟩
      have := Int.le_of_dvd (b := (laV b c d).natAbs) (by omega) (Int.natCast_dvd_natCast.2 (Int.natAbs_dvd_natAbs.2 h1)); exact this
    refine in_spNs (n := n.natAbs) (fun l => in_spN (e := e) (fun l => ?_) m2) m1
    rcases (show (n.natAbs : Int) = n ∨ (n.natAbs : Int) = -n by omega) with q | q
    · have := in_spE (l := l) hz
      rw [redF_low hlow] at this
      rw [q]; exact this
    · have := in_spE' (n := -n) (l := l) (by rw [Int.neg_neg]; exact hz)
      rw [Int.neg_neg, redF_low hlow] at this
      rw [q]; exact this
end Go.Proofs.Ytldonmcbnhgbdaa
