/- Plain words: the program's list of rational roots, sorted, is the reference's. No program in sight. -/
import Derived.Test.YtldonmcbnhgbdaaCuQ
namespace Go.Proofs.Ytldonmcbnhgbdaa
open Go.RowKit
set_option linter.unusedVariables false
set_option linter.unusedSimpArgs false
def lsV (a b c d : Int) : Int := if laV b c d = 0 then a else laV b c d
theorem lsV_ne {a b c d : Int} (ha : a ≠ 0) : lsV a b c d ≠ 0 := by
  unfold lsV; split
  · exact ha
  · assumption
/-- the two tries -/
def imT (a b c d n e : Int) : List Fr2 := if cuV a b c d n e = 0 then [(n, e)] else []
def imJ (a b c d n e : Int) : List Fr2 := imT a b c d n e ++ imT a b c d (-n) e
def imI (a b c d L e : Int) (i : Nat) : List Fr2 := if L % ((i : Int) + 1) = 0 ∧ gcdI ((i : Int) + 1) e = 1 then imJ a b c d ((i : Int) + 1) e else []
def imN (a b c d L e : Int) (k : Nat) : List Fr2 := (List.range k).flatMap (imI a b c d L e)
def imH (a b c d L : Int) (M : Nat) (i : Nat) : List Fr2 := if a % ((i : Int) + 1) = 0 then imN a b c d L ((i : Int) + 1) M else []
def imE (a b c d L : Int) (M : Nat) (k : Nat) : List Fr2 := (List.range k).flatMap (imH a b c d L M)
def imL (a b c d : Int) : List Fr2 := spB d ++ imE a b c d (lsV a b c d) (lsV a b c d).natAbs a.natAbs
theorem imN_succ (a b c d L e : Int) (k : Nat) : imN a b c d L e (k + 1) = imN a b c d L e k ++ imI a b c d L e k := by
  unfold imN; rw [List.range_succ, List.flatMap_append]; simp
theorem imE_succ (a b c d L : Int) (M k : Nat) : imE a b c d L M (k + 1) = imE a b c d L M k ++ imH a b c d L M k := by
  unfold imE; rw [List.range_succ, List.flatMap_append]; simp
theorem imT_mem {a b c d n e : Int} {x : Fr2} : x ∈ imT a b c d n e ↔ x = (n, e) ∧ cuV a b c d n e = 0 := by
  unfold imT; split <;> simp_all
theorem imI_mem {a b c d L e : Int} {i : Nat} {x : Fr2} : x ∈ imI a b c d L e i ↔ L % ((i : Int) + 1) = 0 ∧ gcdI ((i : Int) + 1) e = 1 ∧ ((x = ((i : Int) + 1, e) ∧ cuV a b c d ((i : Int) + 1) e = 0) ∨ (x = (-((i : Int) + 1), e) ∧ cuV a b c d (-((i : Int) + 1)) e = 0)) := by
  unfold imI
  split
  · rename_i h
    unfold imJ
    rw [List.mem_append, imT_mem, imT_mem]
    exact ⟨fun q => ⟨h.1, h.2, q⟩, fun q => q.2.2⟩
  · rename_i h
    exact ⟨fun q => (List.not_mem_nil q).elim, fun q => (h ⟨q.1, q.2.1⟩).elim⟩
theorem imT_len (a b c d n e : Int) : (imT a b c d n e).length ≤ 1 := by unfold imT; split <;> simp
theorem imJ_len (a b c d n e : Int) : (imJ a b c d n e).length ≤ 2 := by
  unfold imJ; rw [List.length_append]
  have := imT_len a b c d n e
  have := imT_len a b c d (-n) e
  omega
theorem imN_len (a b c d L e : Int) : ∀ k, (imN a b c d L e k).length ≤ 2 * k
  | 0 => by simp [imN]
  | k + 1 => by
    rw [imN_succ, List.length_append]
    have := imN_len a b c d L e k
    have : (imI a b c d L e k).length ≤ 2 := by
      unfold imI; split
      · exact imJ_len _ _ _ _ _ _
      · simp
    omega
theorem imE_len (a b c d L : Int) (M : Nat) : ∀ k, (imE a b c d L M k).length ≤ k * (2 * M)
  | 0 => by simp [imE]
  | k + 1 => by
    rw [imE_succ, List.length_append, Nat.succ_mul]
    have := imE_len a b c d L M k
    have : (imH a b c d L M k).length ≤ 2 * M := by
      unfold imH; split
      · exact imN_len _ _ _ _ _ _ _
      · simp
    omega
theorem imL_mem {a b c d : Int} (ha : a ≠ 0) {x : Fr2} : x ∈ imL a b c d ↔ RtP a b c d x := by
  unfold imL
  rw [List.mem_append]
  constructor
  · rintro (h | h)
    · exact (RoL.base a b c d).all x h
    · unfold imE at h
      obtain ⟨i, hi, h⟩ := List.mem_flatMap.1 h
      unfold imH at h
      split at h
      · unfold imN at h
        obtain ⟨j, hj, h⟩ := List.mem_flatMap.1 h
        obtain ⟨-, hg, h⟩ := imI_mem.1 h
        rcases h with ⟨rfl, hz⟩ | ⟨rfl, hz⟩
        · exact ⟨by simp only; omega, by unfold gcdI at hg; simp only; omega, hz⟩
        · exact ⟨by simp only; omega, by unfold gcdI at hg; simp only; rw [Int.neg_gcd]; omega, hz⟩
      · cases h
  · intro h
    obtain ⟨n, e⟩ := x
    have hden : 1 ≤ e := h.den
    have hlow : Int.gcd n e = 1 := h.low
    have hz : cuV a b c d n e = 0 := h.zero
    by_cases hn : n = 0
    · subst hn
      obtain ⟨rfl, rfl⟩ := root_zero hden hlow hz
      left; simp [spB]
    · right
      have h1 : n ∣ lsV a b c d := root_num hlow hn hz
      have h2 := root_den hlow hz
      have hl := lsV_ne (b := b) (c := c) (d := d) ha
      have b1 := Int.le_of_dvd (b := (lsV a b c d).natAbs) (by omega) (Int.natCast_dvd_natCast.2 (Int.natAbs_dvd_natAbs.2 h1))
      have b2 := Int.le_of_dvd (b := a.natAbs) (by omega) (Int.dvd_natAbs.2 h2)
      unfold imE
      refine List.mem_flatMap.2 ⟨e.toNat - 1, List.mem_range.2 (by omega), ?_⟩
      have ee : (((e.toNat - 1 : Nat) : Int) + 1) = e := by omega
      unfold imH
      rw [ee, if_pos (Int.emod_eq_zero_of_dvd h2)]
      unfold imN
      refine List.mem_flatMap.2 ⟨n.natAbs - 1, List.mem_range.2 (by omega), ?_⟩
      have en : (((n.natAbs - 1 : Nat) : Int) + 1) = n.natAbs := by omega
      rw [imI_mem, en]
      refine ⟨Int.emod_eq_zero_of_dvd (Int.natAbs_dvd.2 h1), ?_, ?_⟩
      · unfold gcdI
        have : Int.gcd (n.natAbs : Int) e = Int.gcd n e := by simp [Int.gcd]
        omega
      · rcases (show (n.natAbs : Int) = n ∨ (n.natAbs : Int) = -n by omega) with q | q
        · left; rw [q]; exact ⟨rfl, hz⟩
        · right; rw [q, Int.neg_neg]; exact ⟨rfl, hz⟩
theorem imL_nodup (a b c d : Int) : (imL a b c d).Nodup := by
  unfold imL
  rw [List.nodup_append]
  refine ⟨by unfold spB; split <;> simp, ?_, ?_⟩
  · unfold imE
    rw [List.nodup_iff_pairwise_ne, List.pairwise_flatMap]
    refine ⟨fun i hi => ?_, ?_⟩
    · unfold imH
      split
      · unfold imN
        rw [List.pairwise_flatMap]
        refine ⟨fun j hj => ?_, ?_⟩
        · unfold imI
          split
          · unfold imJ imT
            split <;> split <;> simp
            omega
          · exact List.Pairwise.nil
        · refine List.nodup_iff_pairwise_ne.1 List.nodup_range |>.imp fun {j1 j2} hne x hx y hy he => ?_
          subst he
          obtain ⟨-, -, h1⟩ := imI_mem.1 hx
          obtain ⟨-, -, h2⟩ := imI_mem.1 hy
          rcases h1 with ⟨rfl, _⟩ | ⟨rfl, _⟩ <;> rcases h2 with ⟨h2, _⟩ | ⟨h2, _⟩ <;> simp only [Prod.mk.injEq] at h2 <;> omega
      · exact List.Pairwise.nil
    · refine List.nodup_iff_pairwise_ne.1 List.nodup_range |>.imp fun {i1 i2} hne x hx y hy he => ?_
      subst he
      have hs : ∀ i : Nat, x ∈ imH a b c d (lsV a b c d) (lsV a b c d).natAbs i → x.2 = (i : Int) + 1 := fun i h => by
        unfold imH at h
        split at h
        · unfold imN at h
          obtain ⟨j, hj, h⟩ := List.mem_flatMap.1 h
          obtain ⟨-, -, h⟩ := imI_mem.1 h
          rcases h with ⟨rfl, _⟩ | ⟨rfl, _⟩ <;> rfl
        · cases h
      have := hs i1 hx
      have := hs i2 hy
      omega
  · intro x hx y hy he
    subst he
    unfold spB at hx
    split at hx
    · simp only [List.mem_singleton] at hx
      subst hx
      unfold imE at hy
      obtain ⟨i, hi, h⟩ := List.mem_flatMap.1 hy
      unfold imH at h
      split at h
      · unfold imN at h
        obtain ⟨j, hj, h⟩ := List.mem_flatMap.1 h
        obtain ⟨-, -, h⟩ := imI_mem.1 h
        rcases h with ⟨h, _⟩ | ⟨h, _⟩ <;> simp only [Prod.mk.injEq] at h <;> omega
      · cases h
    · cases hx
theorem im_sort {a b c d : Int} (ha : a ≠ 0) {l : List Fr2} (hp : l.Perm (imL a b c d)) (hs : l.Pairwise fun x y => ¬ ltF y x) : l = spL a b c d := by
  have hm : ∀ x, x ∈ l ↔ RtP a b c d x := fun x => by rw [hp.mem_iff, imL_mem ha]
  refine extF ?_ spL_ro.inc fun x => by rw [hm, spL_mem ha]
  have hn : l.Nodup := hp.nodup_iff.2 (imL_nodup a b c d)
  have h2 := hs.and (List.nodup_iff_pairwise_ne.1 hn)
  refine List.Pairwise.imp_of_mem (fun {x y} hx hy h => ?_) h2
  have h3 := ((hm x).1 hx).lo
  have h4 := ((hm y).1 hy).lo
  rcases ltF_total h3.den h4.den h3.low h4.low h.2 with q | q
  · exact q
  · exact (h.1 q).elim
end Go.Proofs.Ytldonmcbnhgbdaa
