/- The positive divisors of a number: the reference. -/
import Derived.Test.YtldonmcbnhgbdaaCuR
import Derived.Test.YtldonmcbnhgbdaaMk
namespace Go.Proofs.Ytldonmcbnhgbdaa
open Go.RowKit
set_option linter.unusedVariables false
set_option maxHeartbeats 4000000
set_option maxRecDepth 20000
set_option linter.unusedSimpArgs false
theorem infoI : (Try.prog.info? 3).map (fun i => (i.zero, i.size, i.bytes)) = some (some (.int .i64 0), 1, 8) := by kernel_rfl
def CdRel (w : World) (N : Nat) (ov dv : Value) (wr : World) : Prop := ∃ (k : Nat) (v : Value), dv = .int .i64 ((k : Int) + 1) ∧ v = ov ∧ k ≤ N ∧ OwnI wr w.heap.size 3 v (cdV N k) ∧ Below w.heap.size w wr
theorem cuDivisors_any (N : Nat) (w : World) (hN : N ≤ 1000000) : Calls Try.prog 52 #[.int .i64 N] w fun r w' => ∃ v, r = .returned v ∧ OwnI w' w.heap.size 3 v (cdV N N) ∧ Below w.heap.size w w' := by
  obtain ⟨i0, hi, iz0, iz1, iz2⟩ := info_parts infoI
  go_enter Try.func52, Try.ntmps52
  go_wp2_with fail
  go_loopw [3, 4] (fun ov dv wr => CdRel w N ov dv wr) (fun _ dv _ => (N + 1 - intOf dv).toNat)
  case atStart => exact ⟨0, _, by first | rfl | simp, rfl, by omega, World.ownsRow_nil _ _ _ _, Below.refl _ _⟩
  case round =>
    obtain ⟨k, v, rfl, rfl, hk, ho, hb⟩ := hrel
    have hsw := hb.size
    have HO := Lib.hid ho
    have hle := cdV_len N k
    have hsu := cdV_succ N k
    clear ho
    by_cases hlt : k < N
    · have hltc : (k : Int) + 1 ≤ (N : Int) := by omega
      obtain ⟨hm1, hm2⟩ := dvd_mod N ((k : Int) + 1) (by omega)
      obtain ⟨l, hl⟩ : ∃ l, cdV N k = l := ⟨_, rfl⟩
      rw [hl] at HO hle hsu
      have hd1 : (k : Int) + 1 ≠ 0 := by omega
      have hd2 : (k : Int) + 1 ≠ -1 := by omega
      by_cases hd : (N : Int) % ((k : Int) + 1) = 0
      · rw [if_pos hd] at hsu
        have hdd : ((N : Int) % ((k : Int) + 1) == 0) = true := by simpa using hd
        have HSU := Lib.hid hsu
        clear hsu hl hd hm1 hm2
        go_wp2_with (first | (at_builtin; refine wpList_append_own_at _ rfl _ _ 31 rfl w.heap.size 3 i0 (.int .i64 0) 1 8 Try.underlying31 hi iz0 iz1 iz2 rfl (by decide) v l.length _ rfl (HO.out.alloc _) ⟨wr.heap.size, 0, none⟩ 1 1 [_] rfl rfl (cell_one_new _ _ _) (by simp [Value.oneCell']) (by unfold maxLen; omega) (by omega) (by simp; omega) ?_; intro v1 w5 hv1 hg1 _ hat))
        go_roundw
        case rel =>
          refine ⟨k + 1, v1, by go_num, rfl, by omega, ?_, (hb.alloc (by omega) _).grown hg1 (by simp; omega) (fun j h => (HO.out.lt _ h).1)⟩
          unfold OwnI
          rw [HSU.out, ints_append, ints_one, List.length_append]
          exact hv1
        case measure => simp [intOf]; omega
      · rw [if_neg hd, List.append_nil] at hsu
        have hdd : ((N : Int) % ((k : Int) + 1) == 0) = false := by simpa using hd
        have HSU := Lib.hid hsu
        clear hsu hl hd hm1 hm2
        go_wp2_with fail
        go_roundw
        case rel =>
          first
          | exact ⟨k + 1, v, by go_num, rfl, by omega, by rw [HSU.out]; exact HO.out, hb⟩
          | ((repeat (with_reducible apply Exists.intro)); exact ⟨⟨k + 1, v, by go_num, rfl, by omega, by rw [HSU.out]; exact HO.out, hb⟩, rfl⟩)
        case measure => simp [intOf]; omega
    · obtain rfl : k = N := by omega
      have hke : ¬ ((k : Int) + 1 ≤ (k : Int)) := by omega
      go_wp2_with fail
      go_ret
      exact ⟨_, rfl, HO.out, hb⟩
end Go.Proofs.Ytldonmcbnhgbdaa
