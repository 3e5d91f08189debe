/- Lemmas and contracts of functions. No condition. -/
import Derived.Test.YtbnglnbcfabmgaaPf8
import Derived.Test.YtbnglnbcfabmgaaPf13
import Derived.Test.YtbnglnbcfabmgaaPf16
namespace Go.Proofs.Ytbnglnbcfabmgaa
open Go.RowKit
set_option linter.unusedVariables false
set_option maxHeartbeats 1000000
set_option maxRecDepth 20000
set_option linter.unusedSimpArgs false
attribute [local go_sem] openAt openUpon
/-- the first n numbers of a list lie within bounds -/
def allB (zs : List Int) (lo hi : Int) (n : Nat) : Bool := (List.range n).all fun j => inB (zs[j]?.getD 0) lo hi
theorem allB_no {zs : List Int} {lo hi : Int} {n k : Nat} (hk : k < n) (h : inB (zs[k]?.getD 0) lo hi = false) : allB zs lo hi n = false := by
 unfold allB; rw [List.all_eq_false]; exact ⟨k, by simp [hk], by simp [h]⟩
theorem allB_yes {zs : List Int} {lo hi : Int} {n : Nat} (h : ∀ j, j < n → inB (zs[j]?.getD 0) lo hi = true) : allB zs lo hi n = true := by
 unfold allB; rw [List.all_eq_true]; intro j hj; exact h j (by simpa using hj)
theorem allB_at {zs : List Int} {lo hi : Int} {n : Nat} (h : allB zs lo hi n = true) {j : Nat} (hj : j < n) : lo ≤ zs[j]?.getD 0 ∧ zs[j]?.getD 0 ≤ hi := by
 unfold allB at h; rw [List.all_eq_true] at h; exact inB_iff.1 (h j (by simpa using hj))
theorem l1All_any {a : Option Addr} {n c : Nat} {zs : List Int} (lo hi : Int) (w : World) (h : Sx w a n c zs) : Calls Try.prog 34 #[.slice a n c, .int .i64 lo, .int .i64 hi] w fun e w' => e = .returned (.bool (allB zs lo hi n)) ∧ w = w' := by
 have hnm := h.cap
 have hnm2 := h.max
 unfold maxLen at hnm2
 go_enter Try.func34, Try.ntmps34
 go_wp2_with fail
 go_loopw [8, 11] (fun _ iv wr => ∃ k : Nat, iv = .int .i64 k ∧ k ≤ n ∧ (∀ j, j < k → inB (zs[j]?.getD 0) lo hi = true) ∧ wr = w) (fun _ iv _ => (n - intOf iv).toNat)
 case atStart => exact ⟨0, rfl, by omega, fun j hj => by omega, rfl⟩
 case round =>
  obtain ⟨k, rfl, hk, hal, rfl⟩ := hrel
  have HAL := Lib.hid hal
  clear hal
  by_cases h0 : k < n
  ·obtain ⟨b, off, rfl, hb, hcs⟩ := h.at (by omega)
   have c0 := hcs k (by omega)
   have hk2 : (k : Int) < (n : Int) := by omega
   clear hcs
   obtain ⟨x, hx⟩ : ∃ v, zs[k]?.getD 0 = v := ⟨_, rfl⟩
   rw [hx] at c0
   have HX := Lib.hid hx
   clear hx
   have T1 := fun W => Lib.hid (l1In_any x lo hi W)
   cases hv : inB x lo hi
   ·rw [hv] at T1
    have HV := Lib.hid hv
    clear hv
    go_wp2_with (first | (go_at_call 29; (with_reducible refine ((T1 _).out).mono ?_); rintro e w' ⟨rfl, rfl⟩))
    go_ret
    exact ⟨by rw [allB_no h0 (by rw [HX.out]; exact HV.out)]; rfl, rfl⟩
   ·rw [hv] at T1
    have HV := Lib.hid hv
    clear hv
    go_wp2_with (first | (go_at_call 29; (with_reducible refine ((T1 _).out).mono ?_); rintro e w' ⟨rfl, rfl⟩))
    go_roundw
    case rel => exact ⟨k + 1, by go_num, by omega, fun j hj => by
     by_cases e : j = k
     ·subst e; rw [HX.out]; exact HV.out
     ·exact HAL.out j (by omega), trivial⟩
    case measure => simp [intOf]; omega
  ·obtain rfl : k = n := by omega
   go_wp2_with fail
   go_ret
   exact ⟨by rw [allB_yes HAL.out]; rfl, rfl⟩
/-- as many numbers within -12 .. 12 as there are points -/
def fitB (n m : Nat) (ns : List Int) : Bool := decide (m = n) && allB ns (-12) 12 m
theorem nat_eqb (a b : Nat) : ((a : Int) == (b : Int)) = decide (a = b) := by rw [Bool.eq_iff_iff]; simp; omega
theorem hpNumbers_any {a b : Option Addr} {n c m d : Nat} {ns : List Int} (w : World) (h : Sx w b m d ns) (hn : n ≤ maxLen) :
  Calls Try.prog 19 #[.slice a n c, .slice b m d] w fun e w' => e = .returned (.bool (fitB n m ns)) ∧ w = w' := by
 have hnm := h.cap
 have hnm2 := h.max
 unfold maxLen at hnm2 hn
 have T1 := fun (W : World) (hW : W = w) => Lib.hid (show Calls Try.prog 34 #[.slice b m d, .int .i64 (-12), .int .i64 12] W fun e w' => e = .returned (.bool (allB ns (-12) 12 m)) ∧ W = w' by subst hW; exact l1All_any _ _ W h)
 have E := nat_eqb m n
 by_cases hmn : m = n
 ·subst hmn
  rw [show fitB m m ns = allB ns (-12) 12 m by simp [fitB]]
  generalize allB ns (-12) 12 m = v at *
  rw [show decide (m = m) = true by simp] at E
  go_enter Try.func19, Try.ntmps19
  go_wp2_with (first | (go_at_call 34; (with_reducible refine ((T1 _ rfl).out).mono ?_); rintro e w' ⟨rfl, rfl⟩))
  go_ret
  exact ⟨rfl, rfl⟩
 ·rw [show fitB n m ns = false by simp [fitB, hmn]]
  rw [show decide (m = n) = false by simpa using hmn] at E
  go_enter Try.func19, Try.ntmps19
  go_wp2_with fail
  go_ret
  exact ⟨rfl, rfl⟩
end Go.Proofs.Ytbnglnbcfabmgaa
