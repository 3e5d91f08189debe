/- Lists of integers: the law's copy, and whether all lie within bounds. -/
import Derived.Test.YtijpfnkhaldfeaaNum
import Derived.Test.YtijpfnkhaldfeaaBg1
import Derived.Test.YtijpfnkhaldfeaaMk
namespace Go.Proofs.Ytijpfnkhaldfeaa
open Go.RowKit
set_option linter.unusedVariables false
set_option maxHeartbeats 1000000
set_option maxRecDepth 20000
set_option linter.unusedSimpArgs false
attribute [local go_sem] openAt openUpon
theorem ints_next {zs qs : List Int} {k n : Nat} (hz : zs.length = n) (hq : qs.length = n) (hk : k < n) (h : ∀ j, j < k → qs[j]? = zs[j]?) : ∀ j, j < k + 1 → (qs.set k (zs[k]?.getD 0))[j]? = zs[j]? := by
  intro j hj
  simp only [List.getElem?_set]
  by_cases h0 : j = k
  · subst h0; simp [hq, hk, hz]
  · rw [if_neg (by omega)]; exact h j (by omega)
theorem ints_all {zs qs : List Int} {n : Nat} (hz : zs.length = n) (hq : qs.length = n) (h : ∀ j, j < n → qs[j]? = zs[j]?) : qs = zs := by
  apply List.ext_getElem?
  intro j
  by_cases hj : j < n
  · exact h j hj
  · rw [List.getElem?_eq_none (by omega), List.getElem?_eq_none (by omega)]
def CiRel (w : World) (T : TypeId) (zs : List Int) (n : Nat) (iv : Value) (wr : World) : Prop := ∃ (k : Nat) (qs : List Int), iv = .int .i64 k ∧ k ≤ n ∧ qs.length = n ∧ (∀ j, j < k → qs[j]? = zs[j]?) ∧ wr.heap[w.heap.size]? = some (.cells (ints qs).toArray T (0, 0)) ∧ Below w.heap.size w wr
theorem toIntS_any (a : Option Addr) (n c : Nat) (zs : List Int) (w : World) (h : Sx w a n c zs) (hn : n ≤ 1048576) : Calls Try.prog 35 #[.slice a n c] w fun e w' =>
    e = .returned (.slice (some ⟨w.heap.size, 0, none⟩) n n) ∧ Sx w' (some ⟨w.heap.size, 0, none⟩) n n zs ∧ w.heap.size < w'.heap.size ∧ Below w.heap.size w w' := by
  obtain ⟨i0, hi, hz0, hz1, hz2⟩ := info_parts infoInt
  have hln := Lib.hid h.len
  have hnm : n ≤ maxLen := by unfold maxLen; omega
  go_enter Try.func35, Try.ntmps35
  go_wp2_with (first | (at_make; refine wpList_make_full _ rfl _ _ 24 rfl w.heap.size 3 i0 (.int .i64 0) 1 Try.underlying24 hi hz0 hz1 .i64 .i64 _ _ n rfl rfl rfl rfl (by rw [hz2]; omega) (by unfold maxLen; omega) (by simp) ?_; intro W0 hm0 hg0; have hr0 := made_row hm0; have hb0 := made_below (B := w.heap.size) (a := w) (by repeat' first | (with_reducible first | apply zRf | assumption | apply zDn | apply zDr | apply zAl | apply zSt | refine zVi (by assumption) ?_ ?_) | go_size) hg0 (by simp; try omega); clear hm0 hg0))
  go_loopw [4] (fun iv wr => CiRel w 3 zs n iv wr) (fun iv _ => (n - intOf iv).toNat)
  case atStart => exact ⟨0, List.replicate n 0, rfl, by omega, by simp, fun j hj => by omega, hr0, hb0⟩
  case round =>
    obtain ⟨k, qs, rfl, hk, hq, hp, hrow, hbw⟩ := hrel
    have hsw := hbw.size
    have HP := Lib.hid hp
    have HQ := Lib.hid hq
    clear hp hq
    by_cases h0 : k < n
    · obtain ⟨b, off, rfl, hb, hcs⟩ := h.at (by omega)
      have c0 := (hbw.cell (p := ⟨b, off + k, none⟩) hb).trans (hcs k (by omega))
      have d0 := row_at hrow (j := k) (by have := HQ.out; omega)
      have f0 : wr.frozen? ⟨w.heap.size, k, none⟩ = false := by simp [World.frozen?, hrow]
      have hk2 : (k : Int) < (n : Int) := by omega
      clear hcs
      go_wp2_with fail
      go_roundw
      case rel => exact ⟨k + 1, _, by go_num, by omega, by simp [HQ.out], ints_next hln.out HQ.out h0 HP.out, row_set hrow _ _, by repeat' first | (with_reducible first | apply zRf | assumption | apply zDn | apply zDr | apply zAl | apply zSt | refine zVi (by assumption) ?_ ?_) | go_size⟩
      case measure => simp [intOf]; omega
    · obtain rfl : k = n := by omega
      go_wp2_with fail
      go_ret
      refine ⟨rfl, ?_⟩
      have e := ints_all hln.out HQ.out HP.out
      subst e
      exact ⟨Sx.of_row hrow HQ.out (Nat.le_refl _) hnm (fun j hj => by simpa using ints_at qs j (by have := HQ.out; omega)), blk_lt' hrow, hbw⟩
/-- the first n numbers of a list lie within bounds -/
def allB (zs : List Int) (lo hi : Int) (n : Nat) : Bool := (List.range n).all fun j => inB (zs[j]?.getD 0) lo hi
theorem allB_no {zs : List Int} {lo hi : Int} {n k : Nat} (hk : k < n) (h : inB (zs[k]?.getD 0) lo hi = false) : allB zs lo hi n = false := by
  unfold allB; rw [List.all_eq_false]; exact ⟨k, by simp [hk], by simp [h]⟩
theorem allB_yes {zs : List Int} {lo hi : Int} {n : Nat} (h : ∀ j, j < n → inB (zs[j]?.getD 0) lo hi = true) : allB zs lo hi n = true := by
  unfold allB; rw [List.all_eq_true]; intro j hj; exact h j (by simpa using hj)
theorem allB_at {zs : List Int} {lo hi : Int} {n : Nat} (h : allB zs lo hi n = true) {j : Nat} (hj : j < n) : lo ≤ zs[j]?.getD 0 ∧ zs[j]?.getD 0 ≤ hi := by
  unfold allB at h; rw [List.all_eq_true] at h; exact inB_iff.1 (h j (by simpa using hj))
theorem l1All_any {a : Option Addr} {n c : Nat} {zs : List Int} (lo hi : Int) (w : World) (h : Sx w a n c zs) : Calls Try.prog 56 #[.slice a n c, .int .i64 lo, .int .i64 hi] w fun e w' => e = .returned (.bool (allB zs lo hi n)) ∧ w = w' := by
  have hnm := h.cap
  have hnm2 := h.max
  unfold maxLen at hnm2
  go_enter Try.func56, Try.ntmps56
  go_wp2_with fail
  go_loopw [8, 11] (fun _ iv wr => ∃ k : Nat, iv = .int .i64 k ∧ k ≤ n ∧ (∀ j, j < k → inB (zs[j]?.getD 0) lo hi = true) ∧ wr = w) (fun _ iv _ => (n - intOf iv).toNat)
  case atStart => exact ⟨0, rfl, by omega, fun j hj => by omega, rfl⟩
  case round =>
    obtain ⟨k, rfl, hk, hal, rfl⟩ := hrel
    have HAL := Lib.hid hal
    clear hal
    by_cases h0 : k < n
    · obtain ⟨b, off, rfl, hb, hcs⟩ := h.at (by omega)
      have c0 := hcs k (by omega)
      have hk2 : (k : Int) < (n : Int) := by omega
      clear hcs
      obtain ⟨x, hx⟩ : ∃ v, zs[k]?.getD 0 = v := ⟨_, rfl⟩
      rw [hx] at c0
      have HX := Lib.hid hx
      clear hx
      have T1 := fun W => Lib.hid (l1In_any x lo hi W)
      cases hv : inB x lo hi
      · rw [hv] at T1
        have HV := Lib.hid hv
        clear hv
        go_wp2_with (first | (go_at_call 16; (with_reducible refine ((T1 _).out).mono ?_); rintro e w' ⟨rfl, rfl⟩))
        go_ret
        exact ⟨by rw [allB_no h0 (by rw [HX.out]; exact HV.out)]; rfl, rfl⟩
      · rw [hv] at T1
        have HV := Lib.hid hv
        clear hv
        go_wp2_with (first | (go_at_call 16; (with_reducible refine ((T1 _).out).mono ?_); rintro e w' ⟨rfl, rfl⟩))
        go_roundw
        case rel => exact ⟨k + 1, by go_num, by omega, fun j hj => by
          by_cases e : j = k
          · subst e; rw [HX.out]; exact HV.out
          · exact HAL.out j (by omega), trivial⟩
        case measure => simp [intOf]; omega
    · obtain rfl : k = n := by omega
      go_wp2_with fail
      go_ret
      exact ⟨by rw [allB_yes HAL.out]; rfl, rfl⟩
/-- as many numbers within -12 .. 12 as there are points -/
def fitB (n m : Nat) (ns : List Int) : Bool := decide (m = n) && allB ns (-12) 12 m
theorem nat_eqb (a b : Nat) : ((a : Int) == (b : Int)) = decide (a = b) := by rw [Bool.eq_iff_iff]; simp; omega
end Go.Proofs.Ytijpfnkhaldfeaa
