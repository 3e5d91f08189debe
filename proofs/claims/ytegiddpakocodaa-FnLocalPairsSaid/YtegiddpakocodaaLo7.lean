/- Products of residues: the program's loop over its arguments. -/
import Derived.Test.YtegiddpakocodaaLo6
namespace Go.Proofs.Ytegiddpakocodaa
open Go.RowKit
set_option linter.unusedVariables false
set_option maxHeartbeats 4000000
set_option linter.unusedSimpArgs false
def TmRel (zs : List Int) (n : Int) (o i : Value) : Prop := ∃ k : Nat, k ≤ zs.length ∧ i = .int .i64 k ∧ o = .int .i64 (prM (zs.take k) n)
theorem prM_nil {n : Int} (h : 2 ≤ n) : prM [] n = 1 := by unfold prM; simp only [List.foldl]; exact Int.emod_eq_of_lt (by omega) (by omega)
theorem times_any (b off c : Nat) (zs : List Int) (n : Int) (w : World) (hn : 2 ≤ n) (hn2 : n ≤ 1000000000) (hbig : zs.length ≤ 1000000) (hc : ∀ j, j < zs.length → w.cell? ⟨b, off + j, none⟩ = some (.int .i64 (zs.getD j 0))) :
    Calls Try.prog 63 #[.int .i64 n, .slice (some ⟨b, off, none⟩) zs.length c] w fun e w' => e = .returned (.int .i64 (prM zs n)) ∧ w = w' := by
  have h1 := one_tmod hn
  have h1' : (1 : Int) % n = 1 := Int.emod_eq_of_lt (by omega) (by omega)
  have HC := Lib.hid hc
  have HN := Lib.hid (prM_nil hn)
  clear hc
  go_enter Try.func63, Try.ntmps63
  go_wp2
  go_loop [5, 12] (fun o i => TmRel zs n o i) (fun _ i => zs.length - (intOf i).toNat)
  case atStart => exact ⟨0, Nat.zero_le _, rfl, by rw [List.take_zero, HN.out]⟩
  case round =>
    obtain ⟨k, hk, rfl, rfl⟩ := hrel
    by_cases hlt : k < zs.length
    · have hcell := HC.out k hlt
      have hzk : zs.getD k 0 = zs[k] := by simp [List.getD, hlt]
      have HP := Lib.hid (prM_take zs n k hlt)
      have hb := prM_bd (zs.take k) (show 0 < n by omega)
      have hm1 : 0 ≤ zs[k] % n := Int.emod_nonneg _ (by omega)
      have hm2 : zs[k] % n < n := Int.emod_lt_of_pos _ (by omega)
      have m := mul_bd (a := prM (zs.take k) n) (b := zs[k] % n) (A := 1000000000) (B := 1000000000) (by omega) (by omega)
      have hnn : 0 ≤ prM (zs.take k) n * (zs[k] % n) := Int.mul_nonneg hb.1 hm1
      have T := fun W : World => Lib.hid (modulo_any zs[k] n W (by omega) (by omega))
      rw [hzk] at hcell
      clear hzk
      generalize prM (zs.take k) n = o at *
      generalize zs[k] = z at *
      generalize z % n = r at *
      go_wp2_with (go_at_call 73; (with_reducible refine (T _).out.mono ?_); rintro e w' ⟨rfl, rfl⟩)
      go_round
      case rel => exact ⟨k + 1, by omega, by go_num, by first | rw [HP.out] | (rw [HP.out, Int.tmod_eq_emod_of_nonneg hnn])⟩
      case measure => simp [intOf]; omega
    · have : k = zs.length := by omega
      subst this
      rw [List.take_length]
      go_wp2
      go_ret
      exact ⟨rfl, rfl⟩
end Go.Proofs.Ytegiddpakocodaa
