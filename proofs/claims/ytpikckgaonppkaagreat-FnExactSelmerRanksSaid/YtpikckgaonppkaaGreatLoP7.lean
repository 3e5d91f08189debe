/- Plain words: the squarefree divisors of a number, as both texts make them. No program in sight. -/
import Derived.Test.YtpikckgaonppkaaGreatLoP6
namespace Go.Proofs.YtpikckgaonppkaaGreat
open Go.RowKit
set_option linter.unusedVariables false
set_option linter.unusedSimpArgs false
/-! ### the numbers found are pairwise coprime -/
/-- n has no divisor in 2 .. p - 1 -/
def NoDv (n p : Int) : Prop := ∀ e : Int, 2 ≤ e → e < p → n % e ≠ 0
theorem strip_dvd {n q : Int} (hn : 1 ≤ n) (hq : 2 ≤ q) : strip n q ∣ n := ⟨q ^ vl n q, (vl_div hq (show n ≠ 0 by omega)).1⟩
theorem strip_not {n q : Int} (hn : 1 ≤ n) (hq : 2 ≤ q) : strip n q % q ≠ 0 := (vl_div hq (show n ≠ 0 by omega)).2
theorem NoDv.of_dvd {n m p : Int} (h : NoDv n p) (hd : m ∣ n) : NoDv m p := fun e h1 h2 h3 => h e h1 h2 (Int.emod_eq_zero_of_dvd (Int.dvd_trans (Int.dvd_of_emod_eq_zero h3) hd))
/-- the number of a round that divides has no divisor but 1 and itself -/
theorem prQ_prime {n p : Int} (h : 1 < n) (hp : 2 ≤ p) (hd : NoDv n p) (hz : n % prQ n p = 0) : ∀ e : Int, 2 ≤ e → e < prQ n p → prQ n p % e ≠ 0 := by
  intro e h1 h2 h3
  have hqn : prQ n p ∣ n := Int.dvd_of_emod_eq_zero hz
  have hen : e ∣ n := Int.dvd_trans (Int.dvd_of_emod_eq_zero h3) hqn
  by_cases h4 : n < p * p
  · unfold prQ at h2 h3
    rw [if_pos h4] at h2 h3
    obtain ⟨f, hf⟩ := hen
    have hf1 : 2 ≤ f := by
      rcases Int.lt_or_le f 2 with h5 | h5
      · exfalso
        rcases Int.lt_or_le f 1 with h6 | h6
        · have : e * f ≤ 0 := Int.mul_nonpos_of_nonneg_of_nonpos (by omega) (by omega)
          omega
        · obtain rfl : f = 1 := by omega
          omega
      · exact h5
    rcases Int.lt_or_le e p with h5 | h5
    · exact hd e h1 h5 (Int.emod_eq_zero_of_dvd ⟨f, hf⟩)
    · rcases Int.lt_or_le f p with h6 | h6
      · exact hd f hf1 h6 (Int.emod_eq_zero_of_dvd ⟨e, by rw [hf, Int.mul_comm]⟩)
      · have := Int.mul_le_mul h5 h6 (by omega) (by omega)
        omega
  · have : prQ n p = p := by unfold prQ; rw [if_neg h4]
    rw [this] at h2
    exact hd e h1 h2 (Int.emod_eq_zero_of_dvd hen)
theorem noDv_next {n p : Int} (h : 1 < n) (hp : 2 ≤ p) (hd : NoDv n p) : NoDv (strip n (prQ n p)) (prQ n p + 1) := by
  have hq := prQ_bd h hp
  intro e h1 h2 h3
  by_cases e1 : e = prQ n p
  · subst e1; exact strip_not (by omega) hq.1 h3
  · by_cases h4 : n < p * p
    · have e2 : prQ n p = n := by unfold prQ; rw [if_pos h4]
      rw [e2, strip_self (by omega)] at h3
      rw [Int.emod_eq_of_lt (by omega) (by omega)] at h3
      omega
    · have e2 : prQ n p = p := by unfold prQ; rw [if_neg h4]
      rw [e2] at h2 e1 h3
      exact (hd.of_dvd (strip_dvd (by omega) hp)) e h1 (by omega) h3
theorem prW_dvd : ∀ (f : Nat) (n p : Int), msP n p ≤ f → ∀ x ∈ prW n p, x ∣ n
  | 0, n, p, h, x, hx => by
    unfold msP at h
    rw [prW_none (by intro q; rw [if_pos q] at h; omega)] at hx; cases hx
  | f + 1, n, p, h, x, hx => by
    by_cases hn : 1 < n ∧ 2 ≤ p
    · have h2 := prW_less hn.1 hn.2
      have h4 := prQ_bd hn.1 hn.2
      rw [prW_round hn.1 hn.2, List.mem_append] at hx
      rcases hx with hx | hx
      · split at hx
        · rename_i hz
          simp only [List.mem_singleton] at hx
          subst hx; exact Int.dvd_of_emod_eq_zero hz
        · cases hx
      · exact Int.dvd_trans (prW_dvd f _ _ (by omega) x hx) (strip_dvd (by omega) h4.1)
    · rw [prW, dif_neg hn] at hx; cases hx
def Cop (a b : Int) : Prop := Nat.Coprime a.natAbs b.natAbs
theorem cop_of_prime {q x : Int} (hq : 2 ≤ q) (hpr : ∀ e : Int, 2 ≤ e → e < q → q % e ≠ 0) (hx : ¬ q ∣ x) : Cop q x := by
  unfold Cop Nat.Coprime
  have h1 : Nat.gcd q.natAbs x.natAbs ∣ q.natAbs := Nat.gcd_dvd_left _ _
  have h2 : Nat.gcd q.natAbs x.natAbs ∣ x.natAbs := Nat.gcd_dvd_right _ _
  generalize Nat.gcd q.natAbs x.natAbs = g at *
  have hle : g ≤ q.natAbs := Nat.le_of_dvd (by omega) h1
  have h0 : g ≠ 0 := by intro e; subst e; have := Nat.eq_zero_of_zero_dvd h1; omega
  by_cases e1 : g = 1
  · exact e1
  · exfalso
    by_cases e2 : g = q.natAbs
    · exact hx (by rw [e2] at h2; exact Int.natAbs_dvd_natAbs.1 h2)
    · refine hpr g (by omega) (by omega) (Int.emod_eq_zero_of_dvd ?_)
      exact Int.natAbs_dvd_natAbs.1 (by simpa using h1)
theorem prW_cop : ∀ (f : Nat) (n p : Int), msP n p ≤ f → 2 ≤ p → NoDv n p → (prW n p).Pairwise Cop
  | 0, n, p, h, hp, hd => by
    unfold msP at h
    rw [prW_none (by intro q; rw [if_pos q] at h; omega)]; exact List.Pairwise.nil
  | f + 1, n, p, h, hp, hd => by
    by_cases hn : 1 < n
    · have h2 := prW_less hn hp
      have h4 := prQ_bd hn hp
      have ih := prW_cop f _ _ (by omega) (by omega) (noDv_next hn hp hd)
      rw [prW_round hn hp]
      by_cases hz : n % prQ n p = 0
      · rw [if_pos hz, List.singleton_append, List.pairwise_cons]
        refine ⟨fun x hx => cop_of_prime h4.1 (prQ_prime hn hp hd hz) fun hqx => ?_, ih⟩
        have hxs := prW_dvd _ _ _ (Nat.le_refl _) x hx
        exact strip_not (by omega) h4.1 (Int.emod_eq_zero_of_dvd (Int.dvd_trans hqx hxs))
      · rw [if_neg hz, List.nil_append]; exact ih
    · rw [prW_none hn]; exact List.Pairwise.nil
theorem prL_cop (n : Int) : (prL n).Pairwise Cop := prW_cop _ n 2 (Nat.le_refl _) (by omega) (fun e h1 h2 => by omega)
/-! ### their product -/
def prodL (l : List Int) : Int := l.foldr (· * ·) 1
theorem prodL_pos : ∀ {l : List Int}, (∀ x ∈ l, 2 ≤ x) → 1 ≤ prodL l
  | [], _ => by simp [prodL]
  | x :: l, h => by
    have h1 := prodL_pos (l := l) (fun y hy => h y (by simp [hy]))
    have h2 := h x (by simp)
    have := Int.mul_le_mul (show 1 ≤ x by omega) h1 (by omega) (by omega)
    show 1 ≤ x * prodL l
    omega
theorem prW_prod : ∀ (f : Nat) (n p : Int), msP n p ≤ f → 1 ≤ n → prodL (prW n p) ≤ n
  | 0, n, p, h, h1 => by
    unfold msP at h
    rw [prW_none (by intro q; rw [if_pos q] at h; omega)]
    simpa [prodL] using h1
  | f + 1, n, p, h, h1 => by
    by_cases hn : 1 < n ∧ 2 ≤ p
    · have h2 := prW_less hn.1 hn.2
      have h4 := prQ_bd hn.1 hn.2
      have h5 := strip_le (n := n) (q := prQ n p) (by omega) h4.1
      have ih := prW_prod f (strip n (prQ n p)) (prQ n p + 1) (by omega) h5.1
      rw [prW_round hn.1 hn.2]
      by_cases hz : n % prQ n p = 0
      · rw [if_pos hz]
        show prQ n p * prodL (prW (strip n (prQ n p)) (prQ n p + 1)) ≤ n
        have h6 : prQ n p * prodL (prW (strip n (prQ n p)) (prQ n p + 1)) ≤ prQ n p * strip n (prQ n p) := Int.mul_le_mul_of_nonneg_left ih (by omega)
        have h7 := (vl_div h4.1 (show n ≠ 0 by omega)).1
        have h8 : n / prQ n p ^ vl n (prQ n p) = strip n (prQ n p) := rfl
        rw [h8] at h7
        have h9 : 1 ≤ vl n (prQ n p) := by
          rcases Nat.eq_zero_or_pos (vl n (prQ n p)) with h0 | h0
          · have := (vl_div h4.1 (show n ≠ 0 by omega)).2
            rw [h0, Int.pow_zero, Int.ediv_one] at this
            exact (this hz).elim
          · exact h0
        have h10 := pow_mono' (p := prQ n p) (by omega) h9
        rw [show prQ n p ^ 1 = prQ n p by rw [Int.pow_succ, Int.pow_zero, Int.one_mul]] at h10
        have h11 := Int.mul_le_mul_of_nonneg_left h10 (show 0 ≤ strip n (prQ n p) by omega)
        rw [Int.mul_comm (prQ n p) (strip n (prQ n p))] at h6
        omega
      · rw [if_neg hz, List.nil_append]
        omega
    · rw [prW, dif_neg hn]; simpa [prodL] using h1
theorem prL_prod {n : Int} (h : 1 ≤ n) : prodL (prL n) ≤ n := prW_prod _ n 2 (Nat.le_refl _) h
/-! ### the divisors -/
def dvS (l : List Int) (p : Int) : List Int := l ++ l.map (· * p)
def dvA (l ps : List Int) : List Int := ps.foldl dvS l
/-- the reference's way: an increasing list -/
def dvT (l : List Int) (p : Int) : List Int := putA l (l.map (· * p))
def dvB (l ps : List Int) : List Int := ps.foldl dvT l
theorem dvS_mem {l : List Int} {p x : Int} : x ∈ dvS l p ↔ x ∈ l ∨ ∃ y, y ∈ l ∧ y * p = x := by simp [dvS]
theorem dvT_mem {l : List Int} {p x : Int} : x ∈ dvT l p ↔ x ∈ l ∨ ∃ y, y ∈ l ∧ y * p = x := by simp [dvT, putA_mem]
theorem dv_same : ∀ {ps l m : List Int}, (∀ x, x ∈ l ↔ x ∈ m) → ∀ x, x ∈ dvA l ps ↔ x ∈ dvB m ps
  | [], l, m, h, x => h x
  | p :: ps, l, m, h, x => dv_same (ps := ps) (fun y => by rw [dvS_mem, dvT_mem, h]; exact or_congr Iff.rfl ⟨fun ⟨z, a, b⟩ => ⟨z, (h z).1 a, b⟩, fun ⟨z, a, b⟩ => ⟨z, (h z).2 a, b⟩⟩) x
theorem dvB_sorted : ∀ {ps l : List Int}, l.Pairwise (· < ·) → (dvB l ps).Pairwise (· < ·)
  | [], l, h => h
  | p :: ps, l, h => dvB_sorted (ps := ps) (putA_sorted h)
theorem dvS_len (l : List Int) (p : Int) : (dvS l p).length = 2 * l.length := by simp [dvS]; omega
theorem dvA_len : ∀ (ps l : List Int), (dvA l ps).length = 2 ^ ps.length * l.length
  | [], l => by simp [dvA]
  | p :: ps, l => by
    show (dvA (dvS l p) ps).length = _
    rw [dvA_len ps, dvS_len, List.length_cons, Nat.pow_succ, Nat.mul_assoc]
/-- no number twice, none 0, each coprime to what comes -/
structure DvOk (l ps : List Int) (M : Int) : Prop where
  nodup : l.Nodup
  cop : ∀ x ∈ l, ∀ p ∈ ps, Cop p x
  bd : ∀ x ∈ l, x ≠ 0 ∧ x.natAbs ≤ M
theorem DvOk.step {l ps : List Int} {p M : Int} (h : DvOk l (p :: ps) M) (hp : 2 ≤ p) (hpp : ∀ q ∈ ps, Cop p q) : DvOk (dvS l p) ps (M * p) := by
  refine ⟨?_, ?_, ?_⟩
  · unfold dvS
    rw [List.nodup_append]
    refine ⟨h.nodup, ?_, ?_⟩
    · rw [List.nodup_iff_pairwise_ne, List.pairwise_map]
      refine (List.nodup_iff_pairwise_ne.1 h.nodup).imp fun hab e => hab ?_
      exact Int.eq_of_mul_eq_mul_right (by omega) e
    · intro a ha b hb e
      subst e
      obtain ⟨y, hy, e⟩ := List.mem_map.1 hb
      have h1 : Cop p a := h.cop a ha p (by simp)
      have h2 : p.natAbs ∣ a.natAbs := ⟨y.natAbs, by rw [← e, Int.natAbs_mul, Nat.mul_comm]⟩
      unfold Cop at h1
      have := Nat.Coprime.eq_one_of_dvd h1 h2
      omega
  · intro x hx q hq
    rcases dvS_mem.1 hx with h1 | ⟨y, h1, rfl⟩
    · exact h.cop x h1 q (by simp [hq])
    · have h2 := h.cop y h1 q (by simp [hq])
      have h3 := hpp q hq
      unfold Cop at *
      rw [Int.natAbs_mul]
      exact Nat.Coprime.mul_right h2 (Nat.Coprime.symm h3)
  · intro x hx
    rcases dvS_mem.1 hx with h1 | ⟨y, h1, rfl⟩
    · have h2 := h.bd x h1
      refine ⟨h2.1, ?_⟩
      have : M * 1 ≤ M * p := Int.mul_le_mul_of_nonneg_left (by omega) (by omega)
      omega
    · have h2 := h.bd y h1
      refine ⟨Int.mul_ne_zero h2.1 (by omega), ?_⟩
      rw [Int.natAbs_mul]
      push_cast
      have h3 : (p.natAbs : Int) = p := by omega
      have h4 : (y.natAbs : Int) * p ≤ M * p := Int.mul_le_mul_of_nonneg_right h2.2 (by omega)
      rw [h3]; exact h4
theorem DvOk.all : ∀ {ps l : List Int} {M : Int}, DvOk l ps M → (∀ p ∈ ps, 2 ≤ p) → ps.Pairwise Cop → DvOk (dvA l ps) [] (M * prodL ps)
  | [], l, M, h, _, _ => by
    have : M * prodL [] = M := by simp [prodL]
    rw [this]; exact ⟨h.nodup, (fun x hx p hp => by cases hp), h.bd⟩
  | p :: ps, l, M, h, h2, h3 => by
    rw [List.pairwise_cons] at h3
    have := (h.step (h2 p (by simp)) h3.1).all (ps := ps) (fun q hq => h2 q (by simp [hq])) h3.2
    have e : M * prodL (p :: ps) = M * p * prodL ps := by
      show M * (p * prodL ps) = _
      rw [Int.mul_assoc]
    rw [e]; exact this
def dvL (n : Int) : List Int := dvA [-1, 1] (prL n)
theorem dvL_ok {n : Int} (h : 1 ≤ n) : DvOk (dvL n) [] (prodL (prL n)) := by
  have h0 : DvOk [-1, 1] (prL n) 1 := by
    refine ⟨by decide, fun x hx p hp => ?_, fun x hx => ?_⟩
    · have : x.natAbs = 1 := by
        simp only [List.mem_cons, List.not_mem_nil, or_false] at hx
        omega
      unfold Cop
      rw [this]; exact Nat.coprime_one_right _
    · simp only [List.mem_cons, List.not_mem_nil, or_false] at hx
      omega
  have := h0.all (fun p hp => (prL_bd h p hp).1) (prL_cop n)
  rw [Int.one_mul] at this
  exact this
theorem dvL_bd {n : Int} (h : 1 ≤ n) : ∀ x ∈ dvL n, x ≠ 0 ∧ x.natAbs ≤ n := fun x hx => by
  have h1 := (dvL_ok h).bd x hx
  have h2 := prL_prod h
  omega
/-- the divisors, increasing -/
def dvR (n : Int) : List Int := dvB [-1, 1] (prL n)
theorem dvR_sorted (n : Int) : (dvR n).Pairwise (· < ·) := dvB_sorted (by decide)
theorem dvR_mem (n x : Int) : x ∈ dvL n ↔ x ∈ dvR n := dv_same (fun _ => Iff.rfl) x
theorem dvR_bd {n : Int} (h : 1 ≤ n) : ∀ x ∈ dvR n, x ≠ 0 ∧ x.natAbs ≤ n := fun x hx => dvL_bd h x ((dvR_mem n x).2 hx)
theorem dv_sort {n : Int} (h : 1 ≤ n) {l : List Int} (hs : l.Pairwise (· ≤ ·)) (hp : l.Perm (dvL n)) : l = dvR n := by
  refine sorted_ext ?_ (dvR_sorted n) fun x => by rw [hp.mem_iff, dvR_mem]
  have hn : l.Nodup := hp.nodup_iff.2 (dvL_ok h).nodup
  have h2 := List.nodup_iff_pairwise_ne.1 hn
  have h3 := hs.and h2
  exact h3.imp fun ⟨a, b⟩ => by omega
theorem two_prod : ∀ {ps : List Int}, (∀ p ∈ ps, 2 ≤ p) → ((2 ^ ps.length : Nat) : Int) ≤ prodL ps
  | [], _ => by simp [prodL]
  | p :: ps, h => by
    have h1 := two_prod (ps := ps) (fun q hq => h q (by simp [hq]))
    have h2 := h p (by simp)
    rw [List.length_cons, Nat.pow_succ]
    show _ ≤ p * prodL ps
    have h3 : (2 : Int) * ((2 ^ ps.length : Nat) : Int) ≤ p * prodL ps := Int.mul_le_mul h2 h1 (Int.natCast_nonneg _) (by omega)
    push_cast at h3 ⊢
    omega
theorem dvL_len {n : Int} (h : 1 ≤ n) : ((dvL n).length : Int) ≤ 2 * n := by
  unfold dvL
  rw [dvA_len]
  have h1 := two_prod (ps := prL n) (fun p hp => (prL_bd h p hp).1)
  have h2 := prL_prod h
  simp only [List.length_cons, List.length_nil]
  omega
theorem dvA_take_len {n : Int} (h : 1 ≤ n) (j : Nat) : ((dvA [-1, 1] ((prL n).take j)).length : Int) ≤ 2 * n := by
  have h1 := dvL_len h
  unfold dvL at h1
  rw [dvA_len] at h1 ⊢
  have h3 : ((prL n).take j).length ≤ (prL n).length := by rw [List.length_take]; omega
  have h4 := Nat.pow_le_pow_right (n := 2) (by omega) h3
  simp only [List.length_cons, List.length_nil] at h1 ⊢
  omega
theorem dvA_snoc (l ps : List Int) {j : Nat} (h : j < ps.length) : dvA l (ps.take (j + 1)) = dvS (dvA l (ps.take j)) (ps[j]?.getD 0) := by
  unfold dvA
  rw [List.take_add_one, List.getElem?_eq_getElem h, List.foldl_append]; rfl
theorem dvB_snoc (l ps : List Int) {j : Nat} (h : j < ps.length) : dvB l (ps.take (j + 1)) = dvT (dvB l (ps.take j)) (ps[j]?.getD 0) := by
  unfold dvB
  rw [List.take_add_one, List.getElem?_eq_getElem h, List.foldl_append]; rfl
theorem dvT_len (l : List Int) (p : Int) : (dvT l p).length ≤ 2 * l.length := by
  unfold dvT
  have := putA_len (l.map (· * p)) l
  rw [List.length_map] at this; omega
theorem dvB_len : ∀ (ps l : List Int), (dvB l ps).length ≤ 2 ^ ps.length * l.length
  | [], l => by simp [dvB]
  | p :: ps, l => by
    show (dvB (dvT l p) ps).length ≤ _
    refine Nat.le_trans (dvB_len ps _) ?_
    rw [List.length_cons, Nat.pow_succ, Nat.mul_assoc]
    exact Nat.mul_le_mul_left _ (dvT_len l p)
theorem dvB_take_len {n : Int} (h : 1 ≤ n) (j : Nat) : ((dvB [-1, 1] ((prL n).take j)).length : Int) ≤ 2 * n := by
  have h1 := dvA_take_len h j
  rw [dvA_len] at h1
  have h2 := dvB_len ((prL n).take j) [-1, 1]
  omega
end Go.Proofs.YtpikckgaonppkaaGreat
