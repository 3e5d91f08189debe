/- The primes that divide a number: the program. -/
import Derived.Test.YtnemnkbcbokafaaLo
import Derived.Test.YtnemnkbcbokafaaPln
import Derived.Test.YtnemnkbcbokafaaMk
import Derived.Maps.AppendAt
namespace Go.Proofs.Ytnemnkbcbokafaa
open Go.RowKit
set_option linter.unusedVariables false
set_option maxHeartbeats 4000000
set_option maxRecDepth 20000
set_option linter.unusedSimpArgs false
theorem infoI : (Try.prog.info? 3).map (fun i => (i.zero, i.size, i.bytes)) = some (some (.int .i64 0), 1, 8) := by kernel_rfl
theorem ownI_nil (W : World) (B : Nat) (T : TypeId) : OwnI W B T (.slice none 0 0) [] := World.ownsRow_nil _ _ _ _
theorem OwnI.len_le {W : World} {B : Nat} {T : TypeId} {v : Value} {zs : List Int} (h : OwnI W B T v zs) : zs.length ≤ maxLen := by
  rcases h.shape with ⟨_, rfl⟩ | ⟨g, cap, _, h1, h2, _⟩
  · simp
  · omega
theorem strip_of {n y q : Int} {j : Nat} (hq : 2 ≤ q) (h : n = y * q ^ j) (hv : vl n q = j) : y = strip n q := by
  have h6 := pow_pos' (p := q) (by omega) j
  unfold strip
  rw [hv]
  have : n / q ^ j = y := by rw [h]; exact Int.mul_ediv_cancel _ (by omega)
  exact this.symm
def PfRel (w : World) (N : Int) (nv ov pv : Value) (wr : World) : Prop := ∃ (n p : Int) (out : List Int) (v : Value), nv = .int .i64 n ∧ pv = .int .i64 p ∧ v = ov ∧ 1 ≤ n ∧ n ≤ 100000000000 ∧ 2 ≤ p ∧ (1 < n → p ≤ 400000) ∧ p ≤ 100000000001 ∧ (out = [] → v = .slice none 0 0) ∧ OwnI wr w.heap.size 3 v out ∧ out ++ prW n p = prL N ∧ Below w.heap.size w wr
def PgRel (w : World) (n q : Int) (v : Value) (out : List Int) (yv : Value) (wi : World) : Prop := ∃ (y : Int) (j : Nat), yv = .int .i64 y ∧ 1 ≤ y ∧ y ≤ n ∧ n = y * q ^ j ∧ j + y.natAbs ≤ n.natAbs ∧ OwnI wi w.heap.size 3 v out ∧ Below w.heap.size w wi
theorem primesOf_any (N : Int) (w : World) (hN : N ≠ 0) (hN2 : N.natAbs ≤ 100000000000) : Calls Try.prog 57 #[.int .i64 N] w fun r w' =>
    ∃ v, r = .returned v ∧ OwnI w' w.heap.size 3 v (prL N.natAbs) ∧ (prL N.natAbs = [] → v = .slice none 0 0) ∧ Below w.heap.size w w' := by
  obtain ⟨i0, hi, iz0, iz1, iz2⟩ := info_parts infoI
  have HN := Lib.hid hN
  clear hN
  have hNb : -100000000000 ≤ N ∧ N ≤ 100000000000 := by omega
  rcases (show N < -N ∨ -N ≤ N by omega) with hneg | hneg
  all_goals
    go_enter Try.func57, Try.ntmps57
    go_wp2_with fail
    go_loopw [0, 3, 4] (fun nv ov pv wr => PfRel w N.natAbs nv ov pv wr) (fun nv _ pv _ => msP (intOf nv) (intOf pv))
    case atStart => exact ⟨N.natAbs, 2, [], _, by congr 1; omega, rfl, rfl, by have := HN.out; omega, by omega, by omega, by omega, by omega, fun _ => rfl, ownI_nil _ _ _, rfl, Below.refl _ _⟩
    case round =>
      obtain ⟨n, p, out, v, rfl, rfl, rfl, hn1, hn2, hp, hpb, hpc, hnl, ho, ht, hbw⟩ := hrel
      have HO := Lib.hid ho
      have HT := Lib.hid ht
      have hsw := hbw.size
      by_cases h1n : 1 < n
      · have hp4 := hpb h1n
        have hpp := mul_bd (a := p) (b := p) (A := 400000) (B := 400000) (by omega) (by omega)
        have hW := prW_round h1n hp
        have hL := prW_less h1n hp
        have hol : out.length ≤ 100000000000 := by
          have h3 := prL_len (n := (N.natAbs : Int)) (by omega)
          rw [← ht, List.length_append] at h3; omega
        clear ho ht hpb
        by_cases h2 : n < p * p
        · obtain ⟨q, hqn⟩ : ∃ q, prQ n p = q := ⟨_, rfl⟩
          have hqe : q = n := by rw [← hqn]; unfold prQ; rw [if_pos h2]
          have hqb := prQ_bd h1n hp
          have hst1 : strip n n = 1 := strip_self (by omega)
          rw [hqn] at hW hL hqb
          have HQB := Lib.hid (show 1 < strip n q → q + 1 ≤ 400000 by rw [hqe, hst1]; intro h; omega)
          clear hqn hst1
          have hz : n % q = 0 := by rw [hqe]; exact Int.emod_self
          rw [if_pos hz] at hW
          have HW := Lib.hid hW
          have HLS := Lib.hid hL
          have hq2 := hqb.1
          have htm : (n % q == 0) = true := by rw [hz]; rfl
          clear hW hL hz
          subst hqe
          go_wp2_with (first | (at_builtin; refine wpList_append_own_at _ rfl _ _ 26 rfl w.heap.size 3 i0 (.int .i64 0) 1 8 Try.underlying26 hi iz0 iz1 iz2 rfl (by decide) v out.length _ rfl (HO.out.alloc _) ⟨wr.heap.size, 0, none⟩ 1 1 [_] rfl rfl (cell_one_new _ _ _) (by simp [Value.oneCell']) (by unfold maxLen; omega) (by omega) (by simp; omega) ?_; intro v1 w5 hv1 hg1 _ hat))
          have hown9 : OwnI w5 w.heap.size 3 v1 (out ++ [q]) := by
            unfold OwnI
            rw [ints_append, ints_one, List.length_append]
            exact hv1
          have hbel9 : Below w.heap.size w w5 := (hbw.alloc (by omega) _).grown hg1 (by simp; omega) (fun j h => by have := (HO.out.lt _ h).1; omega)
          have HOW := Lib.hid hown9
          clear hv1 hg1 hat hown9
          go_wp2_with fail
          go_loopw [0] (fun yv wi => PgRel w q q v1 (out ++ [q]) yv wi) (fun yv _ => (intOf yv).natAbs)
          case atStart => exact ⟨q, 0, rfl, by omega, by omega, by simp, by omega, HOW.out, hbel9⟩
          case round =>
            obtain ⟨y, j, rfl, hy1, hyn, hye, hja, hoy, hby⟩ := hrel
            have hsy := hby.size
            have HOY := Lib.hid hoy
            clear hoy
            have hq9 : q ≠ -1 := by omega
            have hq8 : q ≠ 0 := by omega
            by_cases hzy : y.tmod q = 0
            · have hr := vl_round hq2 (show y ≠ 0 by omega) hye hja hzy
              have hpos : 1 ≤ y.tdiv q := by
                have h5 : y.tdiv q = y / q := Int.tdiv_eq_ediv_of_nonneg (by omega)
                have h6 := Int.ediv_nonneg (show 0 ≤ y by omega) (show 0 ≤ q by omega)
                have := hr.1
                omega
              have HR := Lib.hid hr
              have hr2 := hr.2.1
              have h5 : y.tdiv q = y / q := Int.tdiv_eq_ediv_of_nonneg (by omega)
              rw [h5] at hr2 hpos HR
              have hz' : (y % q == 0) = true := by rw [← Int.tmod_eq_emod_of_nonneg (by omega)]; simp [hzy]
              clear h5
              clear hr hzy hye
              go_wp2_with fail
              go_roundw
              case rel => exact ⟨y / q, j + 1, rfl, hpos, by omega, HR.out.2.2.1, HR.out.2.2.2, HOY.out, hby⟩
              case measure => simpa [intOf] using hr2
            · have hys : y = strip q q := by
                have h5 := vl_stop hq2 (show y ≠ 0 by omega) (show q ≠ 0 by omega) hye hzy
                exact strip_of hq2 hye h5
              have hz' : (y % q == 0) = false := by rw [← Int.tmod_eq_emod_of_nonneg (by omega)]; simp [hzy]
              have HYS := Lib.hid hys
              clear hzy hye hys
              go_wp2_with fail
              go_roundw
              case rel =>
                have e := HYS.out
                subst e
                exact ⟨strip q q, q + 1, out ++ [q], v1, rfl, by go_num, rfl, hy1, by omega, by omega, HQB.out, by omega, (by intro e; simp at e), HOY.out, by rw [← HT.out, HW.out]; simp, hby⟩
              case measure =>
                rw [HYS.out]
                simpa [intOf] using HLS.out
        · obtain ⟨q, hqn⟩ : ∃ q, prQ n p = q := ⟨_, rfl⟩
          have hqe : q = p := by rw [← hqn]; unfold prQ; rw [if_neg h2]
          have hqb := prQ_bd h1n hp
          rw [hqn] at hW hL hqb
          have HQB := Lib.hid (show 1 < strip n q → q + 1 ≤ 400000 by
            intro _
            rcases Int.lt_or_le q 399999 with h | h
            · omega
            · have := Int.mul_le_mul h h (by omega) (by omega)
              rw [hqe] at this; omega)
          clear hqn
          by_cases hz : n % q = 0
          · rw [if_pos hz] at hW
            have HW := Lib.hid hW
            have HLS := Lib.hid hL
            have hq2 := hqb.1
            have htm : (n % q == 0) = true := by rw [hz]; rfl
            clear hW hL hz
            subst hqe
            go_wp2_with (first | (at_builtin; refine wpList_append_own_at _ rfl _ _ 26 rfl w.heap.size 3 i0 (.int .i64 0) 1 8 Try.underlying26 hi iz0 iz1 iz2 rfl (by decide) v out.length _ rfl (HO.out.alloc _) ⟨wr.heap.size, 0, none⟩ 1 1 [_] rfl rfl (cell_one_new _ _ _) (by simp [Value.oneCell']) (by unfold maxLen; omega) (by omega) (by simp; omega) ?_; intro v1 w5 hv1 hg1 _ hat))
            have hown9 : OwnI w5 w.heap.size 3 v1 (out ++ [q]) := by
              unfold OwnI
              rw [ints_append, ints_one, List.length_append]
              exact hv1
            have hbel9 : Below w.heap.size w w5 := (hbw.alloc (by omega) _).grown hg1 (by simp; omega) (fun j h => by have := (HO.out.lt _ h).1; omega)
            have HOW := Lib.hid hown9
            clear hv1 hg1 hat hown9
            go_wp2_with fail
            go_loopw [0] (fun yv wi => PgRel w n q v1 (out ++ [q]) yv wi) (fun yv _ => (intOf yv).natAbs)
            case atStart => exact ⟨n, 0, rfl, by omega, by omega, by simp, by omega, HOW.out, hbel9⟩
            case round =>
              obtain ⟨y, j, rfl, hy1, hyn, hye, hja, hoy, hby⟩ := hrel
              have hsy := hby.size
              have HOY := Lib.hid hoy
              clear hoy
              have hq9 : q ≠ -1 := by omega
              have hq8 : q ≠ 0 := by omega
              by_cases hzy : y.tmod q = 0
              · have hr := vl_round hq2 (show y ≠ 0 by omega) hye hja hzy
                have hpos : 1 ≤ y.tdiv q := by
                  have h5 : y.tdiv q = y / q := Int.tdiv_eq_ediv_of_nonneg (by omega)
                  have h6 := Int.ediv_nonneg (show 0 ≤ y by omega) (show 0 ≤ q by omega)
                  have := hr.1
                  omega
                have HR := Lib.hid hr
                have hr2 := hr.2.1
                have h5 : y.tdiv q = y / q := Int.tdiv_eq_ediv_of_nonneg (by omega)
                rw [h5] at hr2 hpos HR
                have hz' : (y % q == 0) = true := by rw [← Int.tmod_eq_emod_of_nonneg (by omega)]; simp [hzy]
                clear h5
                clear hr hzy hye
                go_wp2_with fail
                go_roundw
                case rel => exact ⟨y / q, j + 1, rfl, hpos, by omega, HR.out.2.2.1, HR.out.2.2.2, HOY.out, hby⟩
                case measure => simpa [intOf] using hr2
              · have hys : y = strip n q := by
                  have h5 := vl_stop hq2 (show y ≠ 0 by omega) (show n ≠ 0 by omega) hye hzy
                  exact strip_of hq2 hye h5
                have hz' : (y % q == 0) = false := by rw [← Int.tmod_eq_emod_of_nonneg (by omega)]; simp [hzy]
                have HYS := Lib.hid hys
                clear hzy hye hys
                go_wp2_with fail
                go_roundw
                case rel =>
                  have e := HYS.out
                  subst e
                  exact ⟨strip n q, q + 1, out ++ [q], v1, rfl, by go_num, rfl, hy1, by omega, by omega, HQB.out, by omega, (by intro e; simp at e), HOY.out, by rw [← HT.out, HW.out]; simp, hby⟩
                case measure =>
                  rw [HYS.out]
                  simpa [intOf] using HLS.out
          · rw [if_neg hz] at hW
            have HW := Lib.hid hW
            have HLS := Lib.hid hL
            have hq2 := hqb.1
            have htm : (n % q == 0) = false := by simpa using hz
            clear hW hL hz
            subst hqe
            go_wp2_with fail
            go_loopw [0] (fun yv wi => PgRel w n q v (out) yv wi) (fun yv _ => (intOf yv).natAbs)
            case atStart => exact ⟨n, 0, rfl, by omega, by omega, by simp, by omega, HO.out, hbw⟩
            case round =>
              obtain ⟨y, j, rfl, hy1, hyn, hye, hja, hoy, hby⟩ := hrel
              have hsy := hby.size
              have HOY := Lib.hid hoy
              clear hoy
              have hq9 : q ≠ -1 := by omega
              have hq8 : q ≠ 0 := by omega
              by_cases hzy : y.tmod q = 0
              · have hr := vl_round hq2 (show y ≠ 0 by omega) hye hja hzy
                have hpos : 1 ≤ y.tdiv q := by
                  have h5 : y.tdiv q = y / q := Int.tdiv_eq_ediv_of_nonneg (by omega)
                  have h6 := Int.ediv_nonneg (show 0 ≤ y by omega) (show 0 ≤ q by omega)
                  have := hr.1
                  omega
                have HR := Lib.hid hr
                have hr2 := hr.2.1
                have h5 : y.tdiv q = y / q := Int.tdiv_eq_ediv_of_nonneg (by omega)
                rw [h5] at hr2 hpos HR
                have hz' : (y % q == 0) = true := by rw [← Int.tmod_eq_emod_of_nonneg (by omega)]; simp [hzy]
                clear h5
                clear hr hzy hye
                go_wp2_with fail
                go_roundw
                case rel => exact ⟨y / q, j + 1, rfl, hpos, by omega, HR.out.2.2.1, HR.out.2.2.2, HOY.out, hby⟩
                case measure => simpa [intOf] using hr2
              · have hys : y = strip n q := by
                  have h5 := vl_stop hq2 (show y ≠ 0 by omega) (show n ≠ 0 by omega) hye hzy
                  exact strip_of hq2 hye h5
                have hz' : (y % q == 0) = false := by rw [← Int.tmod_eq_emod_of_nonneg (by omega)]; simp [hzy]
                have HYS := Lib.hid hys
                clear hzy hye hys
                go_wp2_with fail
                go_roundw
                case rel =>
                  have e := HYS.out
                  subst e
                  exact ⟨strip n q, q + 1, out, v, rfl, by go_num, rfl, hy1, by omega, by omega, HQB.out, by omega, hnl, HOY.out, by rw [← HT.out, HW.out]; simp, hby⟩
                case measure =>
                  rw [HYS.out]
                  simpa [intOf] using HLS.out
      · obtain rfl : n = 1 := by omega
        rw [prW_none (by omega), List.append_nil] at ht
        go_wp2_with fail
        go_ret
        exact ⟨_, rfl, by rw [← ht]; exact HO.out, by rw [← ht]; exact hnl, hbw⟩
end Go.Proofs.Ytnemnkbcbokafaa
