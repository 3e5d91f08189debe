/- Whole numbers and ratios that are valid: the program. -/
import Derived.Test.YtijpfnkhaldfeaaWi7
import Derived.Test.YtijpfnkhaldfeaaPln
namespace Go.Proofs.Ytijpfnkhaldfeaa
open Go.RowKit
set_option linter.unusedVariables false
set_option maxHeartbeats 1000000
set_option maxRecDepth 20000
set_option linter.unusedSimpArgs false
attribute [local go_sem] openAt openUpon
theorem gw_last {b : Bool} {zs : List Int} {n : Nat} (hn : zs.length = n) (h4 : n ≤ 400) (h0 : 0 < n) (hz : zs.getD (n - 1) 0 ≠ 0) : gwB b zs = zs.all fun z => inB z 0 9999 := by
  rcases gwB_cases (b := b) hn with ⟨h, _⟩ | ⟨_, ⟨h1, h2⟩ | ⟨h1, ⟨h2, _⟩ | ⟨_, ⟨h2, h3⟩ | ⟨h2, h3⟩⟩⟩⟩
  · omega
  · rw [h1, h2]
  · omega
  · have hd := dig_all.1 h1
    have := hd.getD (n - 1)
    omega
  · rw [h1, h3]
theorem gw_last0 {b : Bool} {zs : List Int} {n : Nat} (hn : zs.length = n) (h0 : 0 < n) (hz : zs.getD (n - 1) 0 = 0) : gwB b zs = false := by
  rcases gwB_cases (b := b) hn with ⟨_, h⟩ | ⟨_, ⟨h1, h2⟩ | ⟨h1, ⟨h2, _⟩ | ⟨_, ⟨h2, h3⟩ | ⟨h2, h3⟩⟩⟩⟩
  · exact h
  · exact h2
  · omega
  · exact h3
  · omega
theorem isWhole_all (b : Bool) (a : Option Addr) (n c : Nat) (zs : List Int) (w : World) (hs : Sx w a n c zs) :
    Calls Try.prog 37 #[.agg #[.bool b, .slice a n c]] w fun e w' => e = .returned (.bool (gwB b zs)) ∧ Below w.heap.size w w' := by
  have hnm : n ≤ 9223372036854775807 := by have := hs.cap; have := hs.max; unfold maxLen at this; omega
  have hln := hs.len
  by_cases h4 : n ≤ 400
  · have h4' : ¬ (400 : Int) < (n : Int) := by omega
    by_cases h0 : n = 0
    · subst h0
      have : zs = [] := List.length_eq_zero_iff.1 hln
      subst this
      have HB := Lib.hid (show gwB b [] = !b by cases b <;> rfl)
      cases b
      · go_enter Try.func37, Try.ntmps37
        go_wp2_with fail
        go_loopw [35] (fun iv wr => iv = .int .i64 0 ∧ Below w.heap.size w wr) (fun iv _ => 0)
        case atStart => exact ⟨rfl, by repeat' first | (with_reducible first | apply zRf | assumption | apply zDn | apply zDr | apply zAl | apply zSt | refine zVi (by assumption) ?_ ?_) | go_size⟩
        case round =>
          obtain ⟨rfl, hbw⟩ := hrel
          go_wp2_with fail
          go_ret
          exact ⟨ret_bool (by rw [HB.out]; rfl), hbw⟩
      · go_enter Try.func37, Try.ntmps37
        go_wp2_with fail
        go_ret
        refine ⟨ret_bool (by rw [HB.out]; rfl), ?_⟩
        repeat' first | (with_reducible first | apply zRf | assumption | apply zDn | apply zDr | apply zAl | apply zSt | refine zVi (by assumption) ?_ ?_) | go_size
    · have h0' : (0 : Int) < (n : Int) := by omega
      have hn0 : ((n : Int) == 0) = false := by simp; omega
      have e1 : ((n : Int) - 1).toNat = n - 1 := by omega
      obtain ⟨bb, off, rfl, hb, hcc⟩ := hs.at (by omega)
      have c0 := hcc (n - 1) (by omega)
      have HZ := Lib.hid (List.getD_eq_getElem?_getD (l := zs) (i := n - 1) (a := 0))
      by_cases hz : zs[n - 1]?.getD 0 = 0
      · have HP := Lib.hid (gw_last0 (b := b) hln (by omega) (by rw [HZ.out]; exact hz))
        rw [hz] at c0
        clear hz hcc
        go_enter Try.func37, Try.ntmps37
        go_wp2_with fail
        go_ret
        refine ⟨ret_bool (by rw [HP.out]), ?_⟩
        repeat' first | (with_reducible first | apply zRf | assumption | apply zDn | apply zDr | apply zAl | apply zSt | refine zVi (by assumption) ?_ ?_) | go_size
      · have HP := Lib.hid (gw_last (b := b) hln h4 (by omega) (by rw [HZ.out]; exact hz))
        have hz' : (zs[n - 1]?.getD 0 == 0) = false := by simpa using hz
        generalize zs[n - 1]?.getD 0 = zl at *
        clear hz
        have HL := Lib.hid hln
        go_enter Try.func37, Try.ntmps37
        go_wp2_with fail
        go_loopw [35] (fun iv wr => ∃ k : Nat, iv = .int .i64 k ∧ k ≤ n ∧ (∀ j, j < k → inB (zs.getD j 0) 0 9999 = true) ∧ Below w.heap.size w wr) (fun iv _ => n - (intOf iv).toNat)
        case atStart => exact ⟨0, rfl, by omega, fun j hj => by omega, by repeat' first | (with_reducible first | apply zRf | assumption | apply zDn | apply zDr | apply zAl | apply zSt | refine zVi (by assumption) ?_ ?_) | go_size⟩
        case round =>
          obtain ⟨k, rfl, hk, hal, hbw⟩ := hrel
          have HA := Lib.hid hal
          clear hal
          by_cases hkn : k < n
          · have c1 := (hbw.cell (p := ⟨bb, off + k, none⟩) hb).trans (hcc k hkn)
            have HY := Lib.hid (List.getD_eq_getElem?_getD (l := zs) (i := k) (a := 0))
            have hkn' : (k : Int) < (n : Int) := by omega
            generalize zs[k]?.getD 0 = z at *
            have T := fun W : World => Lib.hid (inside_any z 0 9999 W)
            cases hv : inB z 0 9999
            · rw [hv] at T
              have HV := Lib.hid hv
              clear hv
              go_wp2_with (first | (go_at_call 21; (with_reducible refine ((T _).out).mono ?_); rintro e w' ⟨rfl, rfl⟩))
              go_ret
              refine ⟨ret_bool ?_, hbw⟩
              rw [HP.out]
              symm
              rw [List.all_eq_false]
              refine ⟨z, ?_, by rw [HV.out]; simp⟩
              rw [← HY.out, gD_lt (by rw [HL.out]; omega)]
              exact List.getElem_mem _
            · rw [hv] at T
              have HV := Lib.hid hv
              clear hv
              go_wp2_with (first | (go_at_call 21; (with_reducible refine ((T _).out).mono ?_); rintro e w' ⟨rfl, rfl⟩))
              go_roundw
              case rel => exact ⟨k + 1, by go_num, by omega, fun j hj => by
                by_cases e : j = k
                · subst e; rw [HY.out]; exact HV.out
                · exact HA.out j (by omega), hbw⟩
              case measure => simp [intOf]; omega
          · obtain rfl : k = n := by omega
            go_wp2_with fail
            go_ret
            refine ⟨ret_bool ?_, hbw⟩
            rw [HP.out]
            symm
            rw [List.all_eq_true]
            intro z hz
            obtain ⟨j, hj, rfl⟩ := List.getElem_of_mem hz
            have := HA.out j (by rw [← HL.out]; exact hj)
            rwa [gD_lt hj] at this
  · have h4' : (400 : Int) < (n : Int) := by omega
    have HP := Lib.hid (show gwB b zs = false by unfold gwB; rw [hln]; simp [h4])
    go_enter Try.func37, Try.ntmps37
    go_wp2_with fail
    go_ret
    refine ⟨ret_bool (by rw [HP.out]), ?_⟩
    repeat' first | (with_reducible first | apply zRf | assumption | apply zDn | apply zDr | apply zAl | apply zSt | refine zVi (by assumption) ?_ ?_) | go_size
end Go.Proofs.Ytijpfnkhaldfeaa
