/- Whole numbers that are valid: the reference. -/
import Derived.Test.YtijpfnkhaldfeaaBg9
import Derived.Test.YtijpfnkhaldfeaaPln
namespace Go.Proofs.Ytijpfnkhaldfeaa
open Go.RowKit
set_option linter.unusedVariables false
set_option maxHeartbeats 1000000
set_option maxRecDepth 20000
set_option linter.unusedSimpArgs false
attribute [local go_sem] openAt openUpon
theorem l1AllS_any (a : Option Addr) (n c : Nat) (zs : List Int) (lo hi : Int) (w : World) (hs : Sx w a n c zs) (hl : n ≤ 140000000000000) :
    Calls Try.prog 56 #[.slice a n c, .int .i64 lo, .int .i64 hi] w fun e w' => e = .returned (.bool (zs.all fun z => inB z lo hi)) ∧ w = w' := by
  have HL := Lib.hid hs.len
  go_enter Try.func56, Try.ntmps56
  go_wp2_with fail
  go_loop [11] (fun iv => ∃ k : Nat, iv = .int .i64 k ∧ k ≤ n ∧ ∀ j, j < k → inB (zs.getD j 0) lo hi = true) (fun iv => n - (intOf iv).toNat)
  case atStart => exact ⟨0, rfl, by omega, fun j hj => by omega⟩
  case round =>
    obtain ⟨k, rfl, hk, hal⟩ := hrel
    have HA := Lib.hid hal
    clear hal
    by_cases h0 : k < n
    · obtain ⟨b, off, rfl, hb, hcs⟩ := hs.at (by omega)
      have c0 := hcs k h0
      have HZ := Lib.hid (List.getD_eq_getElem?_getD (l := zs) (i := k) (a := 0))
      clear hcs
      generalize zs[k]?.getD 0 = z at *
      cases hv : inB z lo hi
      · have T := fun W : World => Lib.hid (l1In_any z lo hi W)
        rw [hv] at T
        have HV := Lib.hid hv
        clear hv
        go_wp2_with (first | (go_at_call 16; (with_reducible refine ((T _).out).mono ?_); rintro e w' ⟨rfl, rfl⟩))
        go_ret
        refine ⟨ret_bool ?_, rfl⟩
        symm
        rw [List.all_eq_false]
        refine ⟨z, ?_, by rw [HV.out]; simp⟩
        rw [← HZ.out, gD_lt (by rw [HL.out]; omega)]
        exact List.getElem_mem _
      · have T := fun W : World => Lib.hid (l1In_any z lo hi W)
        rw [hv] at T
        have HV := Lib.hid hv
        clear hv
        go_wp2_with (first | (go_at_call 16; (with_reducible refine ((T _).out).mono ?_); rintro e w' ⟨rfl, rfl⟩))
        go_round
        case rel => exact ⟨k + 1, by go_num, by omega, fun j hj => by
          by_cases e : j = k
          · subst e; rw [HZ.out]; exact HV.out
          · exact HA.out j (by omega)⟩
        case measure => simp [intOf]; omega
    · obtain rfl : k = n := by omega
      go_wp2_with fail
      go_ret
      refine ⟨ret_bool ?_, rfl⟩
      symm
      rw [List.all_eq_true]
      intro z hz
      obtain ⟨j, hj, rfl⟩ := List.getElem_of_mem hz
      have := HA.out j (by rw [← HL.out]; exact hj)
      rwa [gD_lt hj] at this
theorem bgGood_all (b : Bool) (a : Option Addr) (n c : Nat) (zs : List Int) (w : World) (hs : Sx w a n c zs) :
    Calls Try.prog 41 #[.agg #[.bool b, .slice a n c]] w fun e w' => e = .returned (.bool (gwB b zs)) ∧ Below w.heap.size w w' := by
  have hnm : n ≤ 9223372036854775807 := by have := hs.cap; have := hs.max; unfold maxLen at this; omega
  have hcs := gwB_cases (b := b) hs.len
  by_cases h4 : n ≤ 400
  · have T1 : ∀ W, Below w.heap.size w W → Calls Try.prog 56 #[.slice a n c, .int .i64 0, .int .i64 9999] W fun e w' => e = .returned (.bool (zs.all fun z => inB z 0 9999)) ∧ W = w' := fun W hW => l1AllS_any a n c zs 0 9999 W (hs.below hW) (by omega)
    generalize (zs.all fun z => inB z 0 9999) = al at *
    rcases hcs with ⟨h, _⟩ | ⟨_, ⟨rfl, h2⟩ | ⟨rfl, ⟨rfl, ⟨rfl, h2⟩ | ⟨rfl, h2⟩⟩ | ⟨h3, hlast⟩⟩⟩
    · omega
    · have HP := Lib.hid h2
      clear h2
      go_enter Try.func41, Try.ntmps41
      go_wp2_with (first | (go_at_call 56; (with_reducible refine ((T1 _ (by repeat' first | (with_reducible first | apply zRf | assumption | apply zDn | apply zDr | apply zAl | apply zSt | refine zVi (by assumption) ?_ ?_) | go_size))).mono ?_); rintro e w' ⟨rfl, rfl⟩))
      go_ret
      refine ⟨ret_bool (by rw [HP.out]), ?_⟩
      repeat' first | (with_reducible first | apply zRf | assumption | apply zDn | apply zDr | apply zAl | apply zSt | refine zVi (by assumption) ?_ ?_) | go_size
    · have HP := Lib.hid h2
      clear h2
      go_enter Try.func41, Try.ntmps41
      go_wp2_with (first | (go_at_call 56; (with_reducible refine ((T1 _ (by repeat' first | (with_reducible first | apply zRf | assumption | apply zDn | apply zDr | apply zAl | apply zSt | refine zVi (by assumption) ?_ ?_) | go_size))).mono ?_); rintro e w' ⟨rfl, rfl⟩))
      go_ret
      refine ⟨ret_bool (by rw [HP.out]), ?_⟩
      repeat' first | (with_reducible first | apply zRf | assumption | apply zDn | apply zDr | apply zAl | apply zSt | refine zVi (by assumption) ?_ ?_) | go_size
    · have HP := Lib.hid h2
      clear h2
      go_enter Try.func41, Try.ntmps41
      go_wp2_with (first | (go_at_call 56; (with_reducible refine ((T1 _ (by repeat' first | (with_reducible first | apply zRf | assumption | apply zDn | apply zDr | apply zAl | apply zSt | refine zVi (by assumption) ?_ ?_) | go_size))).mono ?_); rintro e w' ⟨rfl, rfl⟩))
      go_ret
      refine ⟨ret_bool (by rw [HP.out]), ?_⟩
      repeat' first | (with_reducible first | apply zRf | assumption | apply zDn | apply zDr | apply zAl | apply zSt | refine zVi (by assumption) ?_ ?_) | go_size
    · obtain ⟨bb, off, rfl, hb, hcc⟩ := hs.at h3
      have c0 := hcc (n - 1) (by omega)
      rw [List.getD_eq_getElem?_getD] at hlast
      clear hcc
      have h3' : (0 : Int) < (n : Int) := by omega
      have hn0 : ((n : Int) == 0) = false := by simp; omega
      have e1 : ((n : Int) - 1).toNat = n - 1 := by omega
      generalize zs[n - 1]?.getD 0 = z at *
      rcases hlast with ⟨h5, h2⟩ | ⟨h5, h2⟩
      · have HP := Lib.hid h2
        clear h2
        go_enter Try.func41, Try.ntmps41
        go_wp2_with (first | (go_at_call 56; (with_reducible refine ((T1 _ (by repeat' first | (with_reducible first | apply zRf | assumption | apply zDn | apply zDr | apply zAl | apply zSt | refine zVi (by assumption) ?_ ?_) | go_size))).mono ?_); rintro e w' ⟨rfl, rfl⟩))
        go_ret
        refine ⟨ret_bool (by rw [HP.out]; try simp; try omega), ?_⟩
        repeat' first | (with_reducible first | apply zRf | assumption | apply zDn | apply zDr | apply zAl | apply zSt | refine zVi (by assumption) ?_ ?_) | go_size
      · have HP := Lib.hid h2
        clear h2
        go_enter Try.func41, Try.ntmps41
        go_wp2_with (first | (go_at_call 56; (with_reducible refine ((T1 _ (by repeat' first | (with_reducible first | apply zRf | assumption | apply zDn | apply zDr | apply zAl | apply zSt | refine zVi (by assumption) ?_ ?_) | go_size))).mono ?_); rintro e w' ⟨rfl, rfl⟩))
        go_ret
        refine ⟨ret_bool (by rw [HP.out]; try simp; try omega), ?_⟩
        repeat' first | (with_reducible first | apply zRf | assumption | apply zDn | apply zDr | apply zAl | apply zSt | refine zVi (by assumption) ?_ ?_) | go_size
  · rcases hcs with ⟨_, h2⟩ | ⟨h, _⟩
    · have HP := Lib.hid h2
      clear h2
      go_enter Try.func41, Try.ntmps41
      go_wp2_with fail
      go_ret
      refine ⟨ret_bool (by rw [HP.out]), ?_⟩
      repeat' first | (with_reducible first | apply zRf | assumption | apply zDn | apply zDr | apply zAl | apply zSt | refine zVi (by assumption) ?_ ?_) | go_size
    · omega
theorem bgGood_any (b : Bool) (a : Option Addr) (n c : Nat) (z : Int) (w : World) (hs : Wx w b a n c z) :
    Calls Try.prog 41 #[.agg #[.bool b, .slice a n c]] w fun e w' => e = .returned (.bool (decide (ln z ≤ 400))) ∧ Below w.heap.size w w' := by
  have := bgGood_all b a n c _ w hs.row
  have e : gwB b (limbs (ab z)) = decide (ln z ≤ 400) := by rw [hs.neg]; exact gw_self z
  rw [e] at this
  exact this
end Go.Proofs.Ytijpfnkhaldfeaa
