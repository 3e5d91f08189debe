/- Plain words: pairs that are possible modulo growing powers of a prime, level after level, and all at once. No program in sight. -/
import Derived.Test.YtegiddpakocodaaLoPlain2
namespace Go.Proofs.Ytegiddpakocodaa
open Go.RowKit
set_option linter.unusedVariables false
set_option linter.unusedSimpArgs false

/-! ### squares stay squares modulo smaller powers -/
theorem vl_red {p n : Int} {k : Nat} (hp : 2 ≤ p) (hn : n % p ^ k ≠ 0) : vl (n % p ^ k) p = vl n p ∧ vl n p < k ∧ ∃ t, n / p ^ vl n p = n % p ^ k / p ^ vl n p + t * p ^ (k - vl n p) := by
  have hq := pow_pos' (p := p) (by omega) k
  have h1 : 0 ≤ n % p ^ k := Int.emod_nonneg _ (by omega)
  have h2 : n % p ^ k < p ^ k := Int.emod_lt_of_pos _ (by omega)
  generalize hr : n % p ^ k = r at *
  have hv := vl_lt hp (by omega) h2
  obtain ⟨hd1, hd2⟩ := vl_div hp hn
  have hsplit : p ^ k = p ^ (k - vl r p) * p ^ vl r p := by rw [← Int.pow_add]; congr 1; omega
  have hne : n = r + n / p ^ k * p ^ k := by have := Int.emod_add_mul_ediv n (p ^ k); rw [hr] at this; rw [Int.mul_comm (n / p ^ k)]; omega
  have e : n = (r / p ^ vl r p + n / p ^ k * p ^ (k - vl r p)) * p ^ vl r p := by
    rw [Int.add_mul, ← hd1, Int.mul_assoc, ← hsplit]; exact hne
  have hmod : (r / p ^ vl r p + n / p ^ k * p ^ (k - vl r p)) % p ≠ 0 := by
    obtain ⟨d, hd⟩ : ∃ d, k - vl r p = d + 1 := ⟨k - vl r p - 1, by omega⟩
    rw [hd, Int.pow_succ, ← Int.mul_assoc, Int.add_mul_emod_self_right]; exact hd2
  have hn0 : n ≠ 0 := by intro h; rw [h] at hr; simp at hr; omega
  have hvn : vl n p = vl r p := vl_eq hp hn0 e hmod
  refine ⟨hvn.symm, by omega, n / p ^ k, ?_⟩
  rw [hvn]
  have hq2 := pow_pos' (p := p) (by omega) (vl r p)
  have : n / p ^ vl r p = (r / p ^ vl r p + n / p ^ k * p ^ (k - vl r p)) * p ^ vl r p / p ^ vl r p := by rw [← e]
  rw [this, Int.mul_ediv_cancel _ (by omega)]
theorem sy_red {a p t : Int} {d : Nat} (hp : 2 ≤ p) (hd : 1 ≤ d) : symB (a + t * p ^ d) p = symB a p := by
  obtain ⟨c, rfl⟩ : ∃ c, d = c + 1 := ⟨d - 1, by omega⟩
  unfold symB
  have : Cg p (a + t * p ^ (c + 1)) a := by unfold Cg; rw [Int.pow_succ, ← Int.mul_assoc, Int.add_mul_emod_self_right]
  have := Cg.pow this ((p - 1) / 2).toNat
  unfold Cg at this
  rw [this]
theorem sq_mono {p n : Int} {k : Nat} (hp : 2 ≤ p) (h : sqLo (n % p ^ (k + 1)) p (k + 1) = true) : sqLo (n % p ^ k) p k = true := by
  by_cases h0 : n % p ^ k = 0
  · simp [sqLo, h0]
  · have h1 : n % p ^ (k + 1) ≠ 0 := by
      intro e
      apply h0
      have h3 : p ^ (k + 1) ∣ n := Int.dvd_of_emod_eq_zero e
      exact Int.emod_eq_zero_of_dvd (Int.dvd_trans ⟨p, Int.pow_succ _ _⟩ h3)
    obtain ⟨a1, a2, t, a3⟩ := vl_red hp h0
    obtain ⟨b1, b2, u, b3⟩ := vl_red hp h1
    unfold sqLo at h ⊢
    rw [if_neg h1, b1] at h
    rw [if_neg h0, a1]
    by_cases ho : vl n p % 2 = 1
    · simp [ho] at h
    · rw [if_neg ho] at h ⊢
      have e : n % p ^ (k + 1) / p ^ vl n p + u * p ^ (k + 1 - vl n p) = n % p ^ k / p ^ vl n p + t * p ^ (k - vl n p) := by rw [← b3, ← a3]
      by_cases h2 : 2 < p
      · rw [if_pos h2] at h ⊢
        rw [← h, ← sy_red (t := t) (d := k - vl n p) hp (by omega), ← e, sy_red hp (by omega)]
      · rw [if_neg h2] at h ⊢
        have hp2 : p = 2 := by omega
        subst hp2
        simp only [decide_eq_true_eq] at h ⊢
        generalize n % 2 ^ (k + 1) / 2 ^ vl n 2 = x at *
        generalize n % 2 ^ k / 2 ^ vl n 2 = y at *
        have hd : k + 1 - vl n 2 = (k - vl n 2) + 1 := by omega
        rw [hd] at e h
        have hm : (k - vl n 2 = 1) ∨ (k - vl n 2 = 2) ∨ (3 ≤ k - vl n 2) := by omega
        generalize k - vl n 2 = d at *
        rcases hm with rfl | rfl | hm
        · simp [Int.pow_succ] at h e ⊢; omega
        · simp [Int.pow_succ] at h e ⊢; omega
        · obtain ⟨c, rfl⟩ : ∃ c, d = c + 3 := ⟨d - 3, by omega⟩
          have m1 : min 3 (c + 3) = 3 := by omega
          have m2 : min 3 (c + 3 + 1) = 3 := by omega
          rw [m1]; rw [m2] at h
          have p8 : (2 : Int) ^ (c + 3) = 8 * 2 ^ c := by rw [Int.pow_add]; simp [Int.mul_comm]
          have p9 : (2 : Int) ^ (c + 3 + 1) = 8 * (2 ^ c * 2) := by rw [Int.pow_succ, p8, Int.mul_assoc]
          rw [p8, p9] at e
          have e1 : u * (8 * (2 ^ c * 2)) = 8 * (u * (2 ^ c * 2)) := by rw [Int.mul_left_comm]
          have e2 : t * (8 * 2 ^ c) = 8 * (t * 2 ^ c) := by rw [Int.mul_left_comm]
          rw [e1, e2] at e
          generalize u * (2 ^ c * 2) = u' at e
          generalize t * 2 ^ c = t' at e
          simp at h ⊢
          omega
theorem pow_dvd_succ (p : Int) (k : Nat) : p ^ k ∣ p ^ (k + 1) := ⟨p, Int.pow_succ _ _⟩
theorem va_red {D A C m e m' e' p : Int} {k : Nat} (h1 : Cg (p ^ k) m m') (h2 : Cg (p ^ k) e e') : vaM D A C m e (p ^ (k + 1)) % p ^ k = vaM D A C m' e' (p ^ k) := by
  unfold vaM
  rw [Int.emod_emod_of_dvd _ (pow_dvd_succ p k)]
  have : Cg (p ^ k) (D * m * m * m * m + A * m * m * e * e + C * e * e * e * e) (D * m' * m' * m' * m' + A * m' * m' * e' * e' + C * e' * e' * e' * e') := by
    repeat (first | exact Cg.refl _ _ | assumption | apply Cg.add | apply Cg.mul)
  exact this
theorem va_self {D A C m e p : Int} {k : Nat} : vaM D A C m e (p ^ k) % p ^ k = vaM D A C m e (p ^ k) := by unfold vaM; exact Int.emod_emod _ _
theorem po_mono {D A C m e m' e' p : Int} {k : Nat} (hp : 2 ≤ p) (h1 : Cg (p ^ k) m m') (h2 : Cg (p ^ k) e e') (h : poB D A C m e p (k + 1) = true) : poB D A C m' e' p k = true := by
  unfold poB at h ⊢
  rw [← va_self] at h
  have := sq_mono hp h
  rwa [va_red h1 h2] at this
theorem li_po {D A C m e p : Int} {k : Nat} (h : liB D A C m e p k = true) : poB D A C m e p k = true := by
  unfold liB at h
  simp only [Bool.and_eq_true] at h
  exact h.1

/-! ### all pairs of a level, in the program's order -/
def rg (n : Int) : List Int := (List.range n.toNat).map fun (i : Nat) => (i : Int)
theorem mem_rg {n x : Int} : x ∈ rg n ↔ 0 ≤ x ∧ x < n := by
  simp only [rg, List.mem_map, List.mem_range]
  constructor
  · rintro ⟨i, h1, rfl⟩; omega
  · intro h; exact ⟨x.toNat, by omega, by omega⟩
theorem range_mul (n : Nat) : ∀ p : Nat, List.range (p * n) = (List.range p).flatMap fun j => (List.range n).map fun r => r + j * n
  | 0 => by simp
  | p + 1 => by
    rw [Nat.succ_mul, List.range_add, range_mul n p, List.range_succ, List.flatMap_append]
    simp [Nat.add_comm]
theorem rg_mul {n p : Int} (hn : 0 ≤ n) (hp : 0 ≤ p) : rg (p * n) = (rg p).flatMap fun j => (rg n).map fun r => r + j * n := by
  have : (p * n).toNat = p.toNat * n.toNat := by
    rw [Int.toNat_mul hp hn]
  unfold rg
  rw [this, range_mul, List.map_flatMap, List.flatMap_map]
  congr 1
  funext j
  rw [List.map_map, List.map_map]
  congr 1
  funext r
  simp only [Function.comp]
  push_cast
  rw [Int.toNat_of_nonneg hn]
def pl1 (D A C p : Int) (k : Nat) : List (Int × Int) := ((rg (p ^ k)).filter fun m => poB D A C m 1 p k).map fun m => (m, 1)
def pl2 (D A C p : Int) (k : Nat) : List (Int × Int) := ((rg (p ^ k)).filter fun e => decide (e % p = 0) && poB D A C 1 e p k).map fun e => (1, e)
/-- the possible pairs modulo p ^ k -/
def pl (D A C p : Int) (k : Nat) : List (Int × Int) := pl1 D A C p k ++ pl2 D A C p k
/-- the pairs that the program looks at next -/
def cd1 (l : List (Int × Int)) (p n : Int) : List (Int × Int) := (rg p).flatMap fun j => (l.filter fun x => decide (x.2 = 1)).map fun x => (x.1 + j * n, x.2)
def cd2 (l : List (Int × Int)) (p n : Int) : List (Int × Int) := (rg p).flatMap fun j => (l.filter fun x => !decide (x.2 = 1)).map fun x => (x.1, x.2 + j * n)
def cd (l : List (Int × Int)) (p n : Int) : List (Int × Int) := cd1 l p n ++ cd2 l p n
theorem pl_one {D A C p : Int} {k : Nat} (hp : 2 ≤ p) : (pl D A C p k).filter (fun x => decide (x.2 = 1)) = pl1 D A C p k := by
  unfold pl
  rw [List.filter_append, List.filter_eq_self.2, List.filter_eq_nil_iff.2, List.append_nil]
  · intro x hx
    simp only [pl2, List.mem_map, List.mem_filter, Bool.and_eq_true, decide_eq_true_eq] at hx
    obtain ⟨e, ⟨h1, h2, h3⟩, rfl⟩ := hx
    simp only [decide_eq_true_eq]
    intro h; subst h
    rw [Int.emod_eq_of_lt (by omega) (by omega)] at h2; omega
  · intro x hx
    simp only [pl1, List.mem_map] at hx
    obtain ⟨m, _, rfl⟩ := hx
    simp
theorem pl_two {D A C p : Int} {k : Nat} (hp : 2 ≤ p) : (pl D A C p k).filter (fun x => !decide (x.2 = 1)) = pl2 D A C p k := by
  unfold pl
  rw [List.filter_append, List.filter_eq_nil_iff.2, List.filter_eq_self.2, List.nil_append]
  · intro x hx
    simp only [pl2, List.mem_map, List.mem_filter, Bool.and_eq_true, decide_eq_true_eq] at hx
    obtain ⟨e, ⟨h1, h2, h3⟩, rfl⟩ := hx
    simp only [Bool.not_eq_true', decide_eq_false_iff_not]
    intro h; subst h
    rw [Int.emod_eq_of_lt (by omega) (by omega)] at h2; omega
  · intro x hx
    simp only [pl1, List.mem_map] at hx
    obtain ⟨m, _, rfl⟩ := hx
    simp
theorem filter_flatMap' {α β : Type} (f : α → List β) (q : β → Bool) : ∀ l : List α, (l.flatMap f).filter q = l.flatMap fun a => (f a).filter q
  | [] => rfl
  | a :: l => by simp only [List.flatMap_cons, List.filter_append, filter_flatMap' f q l]
theorem flatMap_congr' {α β : Type} {f g : α → List β} : ∀ {l : List α}, (∀ a ∈ l, f a = g a) → l.flatMap f = l.flatMap g
  | [], _ => rfl
  | a :: l, h => by simp only [List.flatMap_cons]; rw [h a (by simp), flatMap_congr' fun b hb => h b (by simp [hb])]
theorem cg_shift (n r j : Int) : Cg n (r + j * n) r := by unfold Cg; exact Int.add_mul_emod_self_right _ _ _
theorem pl_next {D A C p : Int} {k : Nat} (hp : 2 ≤ p) (hk : 1 ≤ k) : (cd (pl D A C p k) p (p ^ k)).filter (fun x => poB D A C x.1 x.2 p (k + 1)) = pl D A C p (k + 1) := by
  have hq := pow_pos' (p := p) (by omega) k
  have hr : rg (p ^ (k + 1)) = (rg p).flatMap fun j => (rg (p ^ k)).map fun r => r + j * p ^ k := by
    rw [Int.pow_succ, Int.mul_comm]; exact rg_mul (by omega) (by omega)
  have hdvd : (p ^ k) % p = 0 := by
    obtain ⟨c, rfl⟩ : ∃ c, k = c + 1 := ⟨k - 1, by omega⟩
    rw [Int.pow_succ]; exact Int.mul_emod_left _ _
  unfold cd cd1 cd2
  rw [List.filter_append, pl_one hp, pl_two hp]
  unfold pl
  congr 1
  · unfold pl1
    rw [hr, filter_flatMap', filter_flatMap', List.map_flatMap]
    congr 1; funext j
    rw [List.map_map, List.filter_map, List.filter_map, List.map_map, List.filter_filter]
    congr 1
    apply List.filter_congr
    intro r _
    simp only [Function.comp]
    rw [Bool.eq_iff_iff, Bool.and_eq_true]
    exact ⟨fun h => h.1, fun h => ⟨h, po_mono hp (cg_shift _ _ _) (Cg.refl _ _) h⟩⟩
  · unfold pl2
    rw [hr, filter_flatMap', filter_flatMap', List.map_flatMap]
    congr 1; funext j
    rw [List.map_map, List.filter_map, List.filter_map, List.map_map, List.filter_filter]
    congr 1
    apply List.filter_congr
    intro r _
    simp only [Function.comp]
    have hm : (r + j * p ^ k) % p = r % p := by
      rw [Int.add_emod, Int.mul_emod, hdvd]; simp
    rw [hm, Bool.eq_iff_iff]
    simp only [Bool.and_eq_true, decide_eq_true_eq]
    exact ⟨fun h => ⟨h.2.1, h.1⟩, fun h => ⟨h.2, h.1, po_mono hp (Cg.refl _ _) (cg_shift _ _ _) h.2⟩⟩
theorem pl_first {D A C p : Int} (hp : 2 ≤ p) : pl D A C p 1 = (((rg p).filter fun m => poB D A C m 1 p 1).map fun m => (m, 1)) ++ if poB D A C 1 0 p 1 = true then [(1, 0)] else [] := by
  unfold pl pl1 pl2
  rw [show p ^ 1 = p by rw [Int.pow_succ, Int.pow_zero, Int.one_mul]]
  congr 1
  have : (rg p).filter (fun e => decide (e % p = 0) && poB D A C 1 e p 1) = if poB D A C 1 0 p 1 = true then [0] else [] := by
    obtain ⟨n, hn⟩ : ∃ n : Nat, p.toNat = n + 1 := ⟨p.toNat - 1, by omega⟩
    unfold rg
    rw [hn, List.range_succ_eq_map, List.map_cons, List.filter_cons]
    have hrest : ((List.map Nat.succ (List.range n)).map (fun (i : Nat) => (i : Int))).filter (fun e => decide (e % p = 0) && poB D A C 1 e p 1) = [] := by
      rw [List.filter_eq_nil_iff]
      intro x hx
      simp only [List.mem_map, List.mem_range] at hx
      obtain ⟨y, ⟨z, hz, rfl⟩, rfl⟩ := hx
      rw [Int.emod_eq_of_lt (by omega) (by omega)]
      simp only [Bool.and_eq_true, decide_eq_true_eq]
      omega
    rw [hrest]
    simp
  rw [this]
  split <;> rfl
theorem find_next {D A C p : Int} {k : Nat} (hp : 2 ≤ p) (hk : 1 ≤ k) : (cd (pl D A C p k) p (p ^ k)).find? (fun x => liB D A C x.1 x.2 p (k + 1)) = (pl D A C p (k + 1)).find? (fun x => liB D A C x.1 x.2 p (k + 1)) := by
  rw [← pl_next hp hk, List.find?_filter]
  congr 1; funext x
  rw [Bool.eq_iff_iff]
  simp only [decide_eq_true_eq]
  exact ⟨fun h => ⟨li_po h, h⟩, fun h => h.2⟩
end Go.Proofs.Ytegiddpakocodaa
