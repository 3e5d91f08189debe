/- The primes that divide a number: the reference. -/
import Derived.Test.YtnemnkbcbokafaaPr1
import Derived.Test.YtnemnkbcbokafaaBy
import Derived.Test.YtnemnkbcbokafaaLo
import Derived.Test.YtnemnkbcbokafaaPln
namespace Go.Proofs.Ytnemnkbcbokafaa
open Go.RowKit
set_option linter.unusedVariables false
set_option maxHeartbeats 4000000
set_option maxRecDepth 20000
set_option linter.unusedSimpArgs false
theorem infoS : (Try.prog.info? 26).map (fun i => (i.zero, i.size, i.bytes)) = some (some (.slice none 0 0), 1, 24) := by kernel_rfl
theorem vl_zero {n q : Int} (hn : 1 ≤ n) (hq : 2 ≤ q) (h : n % q ≠ 0) : vl n q = 0 := vl_eq (u := n) (n := 0) hq (by omega) (by rw [Int.pow_zero]; omega) h
theorem vl_some {n q : Int} (hn : 1 ≤ n) (hq : 2 ≤ q) (h : n % q = 0) : 1 ≤ vl n q := by
  rcases Nat.eq_zero_or_pos (vl n q) with h0 | h0
  · have := (vl_div hq (show n ≠ 0 by omega)).2
    rw [h0, Int.pow_zero, Int.ediv_one] at this
    exact (this h).elim
  · exact h0
/-- what is left of n when k divisions by q are still to come -/
def left (n q : Int) (k : Nat) : Int := strip n q * q ^ k
theorem left_all {n q : Int} (hn : 1 ≤ n) (hq : 2 ≤ q) : left n q (vl n q) = n := ((vl_div hq (show n ≠ 0 by omega)).1).symm
theorem left_zero (n q : Int) : left n q 0 = strip n q := by unfold left; rw [Int.pow_zero, Int.mul_one]
theorem left_succ {n q : Int} (hq : 2 ≤ q) (k : Nat) : left n q (k + 1) / q = left n q k := by
  unfold left; rw [Int.pow_succ, ← Int.mul_assoc]; exact Int.mul_ediv_cancel _ (by omega)
theorem left_bd {n q : Int} (hn : 1 ≤ n) (hq : 2 ≤ q) {k : Nat} (hk : k ≤ vl n q) : 1 ≤ left n q k ∧ left n q k ≤ n := by
  have h1 := (strip_le hn hq).1
  have h2 := pow_mono' (p := q) (by omega) hk
  have h3 := pow_pos' (p := q) (by omega) k
  refine ⟨?_, ?_⟩
  · unfold left
    have := Int.mul_le_mul h1 h3 (by omega) (by omega)
    omega
  · have h5 := left_all hn hq
    have h6 : left n q k ≤ left n q (vl n q) := by unfold left; exact Int.mul_le_mul_of_nonneg_left h2 (by omega)
    omega
/-! ### the exponents -/
/-- what is left of N is n: no prime from p on divides what has been stripped -/
def MdI (N n p : Int) : Prop := NoDv n p ∧ ∃ m, N = m * n ∧ ∀ q : Int, p ≤ q → (∀ e : Int, 2 ≤ e → e < q → q % e ≠ 0) → ¬ q ∣ m
theorem mdI_start (N : Int) : MdI N N 2 := ⟨fun e h1 h2 => by omega, 1, by simp, fun q hq _ h => by have := Int.le_of_dvd (by omega) h; omega⟩
theorem cop_mul {q a b : Int} (h1 : Cop q a) (h2 : Cop q b) : Cop q (a * b) := by
  unfold Cop at *
  rw [Int.natAbs_mul]; exact Nat.Coprime.mul_right h1 h2
theorem cop_pow {q a : Int} (h : Cop q a) : ∀ k : Nat, Cop q (a ^ k)
  | 0 => by unfold Cop; rw [Int.pow_zero]; exact Nat.coprime_one_right _
  | k + 1 => by rw [Int.pow_succ]; exact cop_mul (cop_pow h k) h
theorem cop_not {q a : Int} (hq : 2 ≤ q) (h : Cop q a) : ¬ q ∣ a := fun hd => by
  have h1 : q.natAbs ∣ a.natAbs := Int.natAbs_dvd_natAbs.2 hd
  have := Nat.Coprime.eq_one_of_dvd h h1
  omega
theorem prQ_ge {n p : Int} (h1 : 1 < n) (hd : NoDv n p) : p ≤ prQ n p := by
  unfold prQ
  split
  · rcases Int.lt_or_le n p with h | h
    · exact (hd n (by omega) h Int.emod_self).elim
    · exact h
  · exact Int.le_refl _
theorem mdI_vl {N n p : Int} (h : MdI N n p) (h1 : 1 < n) (hp : 2 ≤ p) (hz : n % prQ n p = 0) (hN : N ≠ 0) : vl N (prQ n p) = vl n (prQ n p) := by
  obtain ⟨hnd, m, hm, hmq⟩ := h
  have hq := prQ_bd h1 hp
  have hpr := prQ_prime h1 hp hnd hz
  have hd := vl_div hq.1 (show n ≠ 0 by omega)
  have c1 := cop_of_prime hq.1 hpr (hmq _ (prQ_ge h1 hnd) hpr)
  have c2 : Cop (prQ n p) (n / prQ n p ^ vl n (prQ n p)) := cop_of_prime hq.1 hpr fun hx => hd.2 (Int.emod_eq_zero_of_dvd hx)
  refine vl_eq (u := m * (n / prQ n p ^ vl n (prQ n p))) hq.1 hN ?_ ?_
  · rw [Int.mul_assoc, ← hd.1]; exact hm
  · exact fun hx => cop_not hq.1 (cop_mul c1 c2) (Int.dvd_of_emod_eq_zero hx)
theorem mdI_next {N n p : Int} (h : MdI N n p) (h1 : 1 < n) (hp : 2 ≤ p) : MdI N (strip n (prQ n p)) (prQ n p + 1) := by
  obtain ⟨hnd, m, hm, hmq⟩ := h
  have hq := prQ_bd h1 hp
  have hd := (vl_div hq.1 (show n ≠ 0 by omega)).1
  refine ⟨noDv_next h1 hp hnd, m * prQ n p ^ vl n (prQ n p), ?_, fun q hqq hpr hx => ?_⟩
  · have e : strip n (prQ n p) = n / prQ n p ^ vl n (prQ n p) := rfl
    rw [e, Int.mul_assoc, Int.mul_comm (prQ n p ^ _), ← hd]; exact hm
  · have c1 : Cop q (prQ n p) := cop_of_prime (by omega) hpr fun hy => by have := Int.le_of_dvd (by omega) hy; omega
    have c2 := cop_of_prime (by omega) hpr (hmq q (by have := prQ_ge h1 hnd; omega) hpr)
    exact cop_not (by omega) (cop_mul c2 (cop_pow c1 _)) hx
/-- the slice of two numbers that lies in block g -/
def slV2 (g : Nat) : Value := .slice (some ⟨g, 0, none⟩) 2 2
/-- a row of pairs, each a slice of two numbers; ps: the first ones -/
def OwnF (W : World) (B : Nat) (v : Value) (ps : List Int) : Prop := ∃ gs : List Nat, gs.length = ps.length ∧ W.ownsRow B 26 1 v ps.length (gs.map slV2) ∧ ∀ i, i < ps.length → ∃ k : Int, W.heap[gs[i]?.getD 0]? = some (Obj.cells #[.int .i64 (ps[i]?.getD 0), .int .i64 k] 3 (0, 0))
theorem ownF_nil (W : World) (B : Nat) : OwnF W B (.slice none 0 0) [] := ⟨[], rfl, World.ownsRow_nil _ _ _ _, fun i hi => by simp at hi⟩
theorem OwnF.below {W W2 : World} {B : Nat} {v : Value} {ps : List Int} (h : OwnF W B v ps) (hb : Below W.heap.size W W2) : OwnF W2 B v ps := by
  obtain ⟨gs, h1, h2, h3⟩ := h
  refine ⟨gs, h1, ⟨h2.1, h2.2.imp id fun ⟨g, cap, cur, hv, hB, hg, rest⟩ => ⟨g, cap, cur, hv, hB, (hb.block g (blk_lt' hg)).trans hg, rest⟩⟩, fun i hi => ?_⟩
  obtain ⟨k, hk⟩ := h3 i hi
  exact ⟨k, (hb.block _ (blk_lt' hk)).trans hk⟩
theorem ownF_snoc {W W1 : World} {B g : Nat} {v v1 : Value} {ps : List Int} {gs : List Nat} {q k : Int} (h1 : gs.length = ps.length) (h2 : W.ownsRow B 26 1 v ps.length (gs.map slV2)) (h3 : ∀ i, i < ps.length → ∃ k : Int, W.heap[gs[i]?.getD 0]? = some (Obj.cells #[.int .i64 (ps[i]?.getD 0), .int .i64 k] 3 (0, 0)))
    (hg : W.heap[g]? = some (Obj.cells #[.int .i64 q, .int .i64 k] 3 (0, 0))) (hv1 : W1.ownsRow B 26 1 v1 (ps.length + 1) (gs.map slV2 ++ [slV2 g])) (hgr : W.grownBy W1 v.ownBlock) : OwnF W1 B v1 (ps ++ [q]) := by
  have far : ∀ {b : Nat} {c : Array Value}, W.heap[b]? = some (Obj.cells c 3 (0, 0)) → W1.heap[b]? = some (Obj.cells c 3 (0, 0)) := fun {b c} e => by
    refine (hgr.block b (blk_lt' e) ?_).trans e
    rcases h2.2 with ⟨rfl, _⟩ | ⟨g', cap, cur, rfl, _, hgb, _⟩
    · simp [Value.ownBlock]
    · intro e'
      obtain rfl : b = g' := by simpa [Value.ownBlock] using e'
      rw [e] at hgb; simp at hgb
  refine ⟨gs ++ [g], by simp [h1], ?_, fun i hi => ?_⟩
  · simpa using hv1
  · by_cases e : i < ps.length
    · obtain ⟨k', hk'⟩ := h3 i e
      refine ⟨k', ?_⟩
      rw [List.getElem?_append_left (by omega), List.getElem?_append_left e]
      exact far hk'
    · obtain rfl : i = ps.length := by simp at hi; omega
      refine ⟨k, ?_⟩
      rw [List.getElem?_append_right (by omega), List.getElem?_append_right (by omega)]
      simpa [h1] using far hg
/-- the same, and the exponents of N -/
def OwnE (W : World) (B : Nat) (v : Value) (N : Int) (ps : List Int) : Prop := ∃ gs : List Nat, gs.length = ps.length ∧ W.ownsRow B 26 1 v ps.length (gs.map slV2) ∧ ∀ i, i < ps.length → W.heap[gs[i]?.getD 0]? = some (Obj.cells #[.int .i64 (ps[i]?.getD 0), .int .i64 (vl N (ps[i]?.getD 0) : Nat)] 3 (0, 0))
theorem OwnE.ownF {W : World} {B : Nat} {v : Value} {N : Int} {ps : List Int} (h : OwnE W B v N ps) : OwnF W B v ps := by
  obtain ⟨gs, h1, h2, h3⟩ := h
  exact ⟨gs, h1, h2, fun i hi => ⟨_, h3 i hi⟩⟩
theorem ownE_nil (W : World) (B : Nat) (N : Int) : OwnE W B (.slice none 0 0) N [] := ⟨[], rfl, World.ownsRow_nil _ _ _ _, fun i hi => by simp at hi⟩
theorem ownE_snoc {W W1 : World} {B g K : Nat} {v v1 : Value} {N : Int} {ps : List Int} {gs : List Nat} {q : Int} (h1 : gs.length = ps.length) (h2 : W.ownsRow B 26 1 v ps.length (gs.map slV2)) (h3 : ∀ i, i < ps.length → W.heap[gs[i]?.getD 0]? = some (Obj.cells #[.int .i64 (ps[i]?.getD 0), .int .i64 (vl N (ps[i]?.getD 0) : Nat)] 3 (0, 0)))
    (hg : W.heap[g]? = some (Obj.cells #[.int .i64 q, .int .i64 K] 3 (0, 0))) (hK : vl N q = K) (hv1 : W1.ownsRow B 26 1 v1 (ps.length + 1) (gs.map slV2 ++ [slV2 g])) (hgr : W.grownBy W1 v.ownBlock) : OwnE W1 B v1 N (ps ++ [q]) := by
  have far : ∀ {b : Nat} {c : Array Value}, W.heap[b]? = some (Obj.cells c 3 (0, 0)) → W1.heap[b]? = some (Obj.cells c 3 (0, 0)) := fun {b c} e => by
    refine (hgr.block b (blk_lt' e) ?_).trans e
    rcases h2.2 with ⟨rfl, _⟩ | ⟨g', cap, cur, rfl, _, hgb, _⟩
    · simp [Value.ownBlock]
    · intro e'
      obtain rfl : b = g' := by simpa [Value.ownBlock] using e'
      rw [e] at hgb; simp at hgb
  refine ⟨gs ++ [g], by simp [h1], ?_, fun i hi => ?_⟩
  · simpa using hv1
  · by_cases e : i < ps.length
    · rw [List.getElem?_append_left (by omega), List.getElem?_append_left e]
      exact far (h3 i e)
    · obtain rfl : i = ps.length := by simp at hi; omega
      rw [List.getElem?_append_right (by omega), List.getElem?_append_right (by omega)]
      simp only [h1, Nat.sub_self, List.getElem?_cons_zero, Option.getD_some, hK]
      exact far hg
theorem cell_one_new' (w : World) (g : Nat) (x : Value) (t : TypeId) (hg : w.heap.size = g) : ∀ j u, [x][j]? = some u → (w.alloc (.cells #[x] t)).cell? ((⟨g, 0, none⟩ : Addr).add j) = some u := by subst hg; exact cell_one_new w x t
def MfRel (w : World) (N : Int) (nv ov pv : Value) (wr : World) : Prop := ∃ (n p : Int) (out : List Int) (v : Value), nv = .int .i64 n ∧ pv = .int .i64 p ∧ v = ov ∧ 1 ≤ n ∧ n ≤ 100000000000 ∧ 2 ≤ p ∧ (1 < n → p ≤ 400000) ∧ p ≤ 100000000001 ∧ OwnE wr w.heap.size v N out ∧ out ++ prW n p = prL N ∧ MdI N n p ∧ Below w.heap.size w wr
def MgRel (w : World) (N n q : Int) (v : Value) (out : List Int) (yv kv : Value) (wi : World) : Prop := ∃ k : Nat, kv = .int .i64 k ∧ yv = .int .i64 (left n q k) ∧ k ≤ vl n q ∧ OwnE wi w.heap.size v N out ∧ Below w.heap.size w wi
theorem mdFactorsE_any (N : Int) (w : World) (hN : 1 ≤ N) (hN2 : N ≤ 100000000000) : Calls Try.prog 60 #[.int .i64 N] w fun r w' =>
    ∃ v, r = .returned v ∧ OwnE w' w.heap.size v N (prL N) ∧ Below w.heap.size w w' := by
  obtain ⟨i0, hi, iz0, iz1, iz2⟩ := info_parts infoS
  go_enter Try.func60, Try.ntmps60
  go_wp2_with fail
  go_loopw [0, 3, 4] (fun nv ov pv wr => MfRel w N nv ov pv wr) (fun nv _ pv _ => msP (intOf nv) (intOf pv))
  case atStart => exact ⟨N, 2, [], _, rfl, rfl, rfl, by omega, by omega, by omega, by omega, by omega, ownE_nil _ _ _, rfl, mdI_start _, Below.refl _ _⟩
  case round =>
    obtain ⟨n, p, out, v, rfl, rfl, rfl, hn1, hn2, hp, hpb, hpc, ho, ht, hmd, hbw⟩ := hrel
    have HO := Lib.hid ho
    have HT := Lib.hid ht
    have hsw := hbw.size
    by_cases h1n : 1 < n
    · have hp4 := hpb h1n
      have hpp := mul_bd (a := p) (b := p) (A := 400000) (B := 400000) (by omega) (by omega)
      have hW := prW_round h1n hp
      have hL := prW_less h1n hp
      have HVL := Lib.hid (fun hz => mdI_vl hmd h1n hp hz (show N ≠ 0 by omega))
      have HNX := Lib.hid (mdI_next hmd h1n hp)
      have hol : out.length ≤ 100000000000 := by
        have h3 := prL_len (n := N) (by omega)
        rw [← ht, List.length_append] at h3; omega
      clear ho ht hpb hmd
      by_cases h2 : n < p * p
      · obtain ⟨q, hqn⟩ : ∃ q, prQ n p = q := ⟨_, rfl⟩
        have hqe : q = n := by rw [← hqn]; unfold prQ; rw [if_pos h2]
        have hqb := prQ_bd h1n hp
        have hst1 : strip n n = 1 := strip_self (by omega)
        rw [hqn] at hW hL hqb HVL HNX
        have HQB := Lib.hid (show 1 < strip n q → q + 1 ≤ 400000 by rw [hqe, hst1]; intro h; omega)
        clear hqn hst1
        have hz : n % q = 0 := by rw [hqe]; exact Int.emod_self
        have HVK := Lib.hid (HVL.out hz)
        clear HVL
        subst hqe
        rw [if_pos hz] at hW
        have HW := Lib.hid hW
        have HLS := Lib.hid hL
        have hq2 := hqb.1
        have TV := fun W : World => Lib.hid (mdValuation_any q q W (by omega) (by omega) (by omega) (by omega) (by omega))
        have HLB := Lib.hid (fun k (h : k ≤ vl q q) => left_bd hn1 hq2 h)
        have HLA := Lib.hid (left_all hn1 hq2)
        have HLZ := Lib.hid (fun k : Nat => (left_succ hq2 k : left q q (k + 1) / q = left q q k))
        have hlz := left_zero q q
        have hvk : vl q q ≤ 100 := by
          have h4 := HLB.out 0 (by omega)
          rcases Nat.lt_or_ge 100 (vl q q) with h | h
          · exfalso
            have h5 := pow_mono' (p := q) (by omega) (show 40 ≤ vl q q by omega)
            have h6 := pow_base hq2 40
            have h7 : (2 : Int) ^ 40 = 1099511627776 := by decide
            have h8 := HLA.out
            unfold left at h8
            have h9 := (strip_le hn1 hq2).1
            have := Int.mul_le_mul h9 h5 (by omega) (by omega)
            omega
          · exact h
        have hv0 : (0 : Int) < (vl q q : Int) := by have := vl_some hn1 hq2 hz; omega
        clear hW hL hz
        obtain ⟨gs, hgl, hrow, hblk⟩ := HO.out
        have HO2 := Lib.hid hrow
        have HBK := Lib.hid hblk
        clear hrow hblk
        generalize hvl : vl q q = K at *
        have hst9 : 1 ≤ strip q q ∧ strip q q ≤ q := strip_le hn1 hq2
        have hgl9 := hgl
        go_wp2_with (first | (first | (go_at_call 74; (with_reducible refine ((TV _).out).mono ?_); rintro e w' ⟨rfl, rfl⟩)) | (first | (at_builtin; refine wpList_append_own_at _ rfl _ _ 79 rfl w.heap.size 26 i0 (.slice none 0 0) 1 24 Try.underlying79 hi iz0 iz1 iz2 rfl (by decide) v out.length _ rfl ((HO2.out.alloc _).alloc _) ⟨wr.heap.size + 1, 0, none⟩ 1 1 [slV2 wr.heap.size] rfl rfl (cell_one_new' _ _ _ _ (by simp)) (by simp [Value.oneCell', slV2]) (by unfold maxLen; omega) (by omega) (by simp; omega) ?_; intro v1 w5 hv1 hg1 _ hat)))
        have hnew : OwnE w5 w.heap.size v1 N (out ++ [q]) := by
          refine ownE_snoc (W := (wr.alloc (.cells #[.int .i64 q, .int .i64 K] 3 (0, 0))).alloc (.cells #[slV2 wr.heap.size] 26 (0, 0))) (g := wr.heap.size) (K := K) hgl ((HO2.out.alloc _).alloc _) (fun i hi => ?_) (bx_old (heap_alloc_new _ _) _) HVK.out hv1 hg1
          exact bx_old (bx_old (HBK.out i hi) _) _
        have hbel9 : Below w.heap.size w w5 := ((hbw.alloc (by omega) _).alloc (by simp; omega) _).grown hg1 (by simp; omega) (fun j h => by have := (HO2.out.lt _ h).1; omega)
        have HOW := Lib.hid hnew
        clear hv1 hg1 hat hnew TV
        go_loopw [0, 5] (fun yv kv wi => MgRel w N q q v1 (out ++ [q]) yv kv wi) (fun _ kv _ => (intOf kv).toNat)
        case atStart => exact ⟨K, rfl, by rw [HLA.out], by omega, HOW.out, hbel9⟩
        case round =>
          obtain ⟨k, rfl, rfl, hkK, hoy, hby⟩ := hrel
          have hsy := hby.size
          have HOY := Lib.hid hoy
          rw [hvl] at hkK
          clear hoy
          rcases k with _ | k
          · rw [hlz]
            go_wp2_with fail
            go_roundw
            case rel => exact ⟨strip q q, q + 1, out ++ [q], v1, rfl, by go_num, rfl, hst9.1, by omega, by omega, HQB.out, by omega, HOY.out, by rw [← HT.out, HW.out]; simp, HNX.out, hby⟩
            case measure => simpa [intOf] using HLS.out
          · have hkc : (0 : Int) < ((k + 1 : Nat) : Int) := by omega
            have hb9 := HLB.out (k + 1) hkK
            have hdv := HLZ.out k
            have hk9 : ((k + 1 : Nat) : Int) - 1 = k := by omega
            obtain ⟨y, hy⟩ : ∃ y, left q q (k + 1) = y := ⟨_, rfl⟩
            rw [hy] at hdv hb9 ⊢
            have HDV := Lib.hid hdv
            have HKK := Lib.hid hk9
            obtain ⟨J, hJ⟩ : ∃ J : Int, ((k + 1 : Nat) : Int) = J := ⟨_, rfl⟩
            rw [hJ] at hkc HKK ⊢
            have HJ := Lib.hid (show J ≤ 200 by omega)
            have hJ2 := HJ.out
            clear hdv hk9 hy hJ
            have hq0 : q ≠ 0 := by omega
            have hq1 : q ≠ -1 := by omega
            go_wp2_with fail
            go_roundw
            case rel => exact ⟨k, by rw [← HKK.out], by rw [← HDV.out], by omega, HOY.out, hby⟩
            case measure => rw [HKK.out]; simp [intOf]; have := HKK.out; omega
      · obtain ⟨q, hqn⟩ : ∃ q, prQ n p = q := ⟨_, rfl⟩
        have hqe : q = p := by rw [← hqn]; unfold prQ; rw [if_neg h2]
        have hqb := prQ_bd h1n hp
        rw [hqn] at hW hL hqb HVL HNX
        have HQB := Lib.hid (show 1 < strip n q → q + 1 ≤ 400000 by
          intro _
          rcases Int.lt_or_le q 399999 with h | h
          · omega
          · have := Int.mul_le_mul h h (by omega) (by omega)
            rw [hqe] at this; omega)
        clear hqn
        by_cases hz : n % q = 0
        · have HVK := Lib.hid (HVL.out hz)
          clear HVL
          subst hqe
          rw [if_pos hz] at hW
          have HW := Lib.hid hW
          have HLS := Lib.hid hL
          have hq2 := hqb.1
          have TV := fun W : World => Lib.hid (mdValuation_any n q W (by omega) (by omega) (by omega) (by omega) (by omega))
          have HLB := Lib.hid (fun k (h : k ≤ vl n q) => left_bd hn1 hq2 h)
          have HLA := Lib.hid (left_all hn1 hq2)
          have HLZ := Lib.hid (fun k : Nat => (left_succ hq2 k : left n q (k + 1) / q = left n q k))
          have hlz := left_zero n q
          have hvk : vl n q ≤ 100 := by
            have h4 := HLB.out 0 (by omega)
            rcases Nat.lt_or_ge 100 (vl n q) with h | h
            · exfalso
              have h5 := pow_mono' (p := q) (by omega) (show 40 ≤ vl n q by omega)
              have h6 := pow_base hq2 40
              have h7 : (2 : Int) ^ 40 = 1099511627776 := by decide
              have h8 := HLA.out
              unfold left at h8
              have h9 := (strip_le hn1 hq2).1
              have := Int.mul_le_mul h9 h5 (by omega) (by omega)
              omega
            · exact h
          have hv0 : (0 : Int) < (vl n q : Int) := by have := vl_some hn1 hq2 hz; omega
          clear hW hL hz
          obtain ⟨gs, hgl, hrow, hblk⟩ := HO.out
          have HO2 := Lib.hid hrow
          have HBK := Lib.hid hblk
          clear hrow hblk
          generalize hvl : vl n q = K at *
          have hst9 : 1 ≤ strip n q ∧ strip n q ≤ n := strip_le hn1 hq2
          have hgl9 := hgl
          go_wp2_with (first | (first | (go_at_call 74; (with_reducible refine ((TV _).out).mono ?_); rintro e w' ⟨rfl, rfl⟩)) | (first | (at_builtin; refine wpList_append_own_at _ rfl _ _ 79 rfl w.heap.size 26 i0 (.slice none 0 0) 1 24 Try.underlying79 hi iz0 iz1 iz2 rfl (by decide) v out.length _ rfl ((HO2.out.alloc _).alloc _) ⟨wr.heap.size + 1, 0, none⟩ 1 1 [slV2 wr.heap.size] rfl rfl (cell_one_new' _ _ _ _ (by simp)) (by simp [Value.oneCell', slV2]) (by unfold maxLen; omega) (by omega) (by simp; omega) ?_; intro v1 w5 hv1 hg1 _ hat)))
          have hnew : OwnE w5 w.heap.size v1 N (out ++ [q]) := by
            refine ownE_snoc (W := (wr.alloc (.cells #[.int .i64 q, .int .i64 K] 3 (0, 0))).alloc (.cells #[slV2 wr.heap.size] 26 (0, 0))) (g := wr.heap.size) (K := K) hgl ((HO2.out.alloc _).alloc _) (fun i hi => ?_) (bx_old (heap_alloc_new _ _) _) HVK.out hv1 hg1
            exact bx_old (bx_old (HBK.out i hi) _) _
          have hbel9 : Below w.heap.size w w5 := ((hbw.alloc (by omega) _).alloc (by simp; omega) _).grown hg1 (by simp; omega) (fun j h => by have := (HO2.out.lt _ h).1; omega)
          have HOW := Lib.hid hnew
          clear hv1 hg1 hat hnew TV
          go_loopw [0, 5] (fun yv kv wi => MgRel w N n q v1 (out ++ [q]) yv kv wi) (fun _ kv _ => (intOf kv).toNat)
          case atStart => exact ⟨K, rfl, by rw [HLA.out], by omega, HOW.out, hbel9⟩
          case round =>
            obtain ⟨k, rfl, rfl, hkK, hoy, hby⟩ := hrel
            have hsy := hby.size
            have HOY := Lib.hid hoy
            rw [hvl] at hkK
            clear hoy
            rcases k with _ | k
            · rw [hlz]
              go_wp2_with fail
              go_roundw
              case rel => exact ⟨strip n q, q + 1, out ++ [q], v1, rfl, by go_num, rfl, hst9.1, by omega, by omega, HQB.out, by omega, HOY.out, by rw [← HT.out, HW.out]; simp, HNX.out, hby⟩
              case measure => simpa [intOf] using HLS.out
            · have hkc : (0 : Int) < ((k + 1 : Nat) : Int) := by omega
              have hb9 := HLB.out (k + 1) hkK
              have hdv := HLZ.out k
              have hk9 : ((k + 1 : Nat) : Int) - 1 = k := by omega
              obtain ⟨y, hy⟩ : ∃ y, left n q (k + 1) = y := ⟨_, rfl⟩
              rw [hy] at hdv hb9 ⊢
              have HDV := Lib.hid hdv
              have HKK := Lib.hid hk9
              obtain ⟨J, hJ⟩ : ∃ J : Int, ((k + 1 : Nat) : Int) = J := ⟨_, rfl⟩
              rw [hJ] at hkc HKK ⊢
              have HJ := Lib.hid (show J ≤ 200 by omega)
              have hJ2 := HJ.out
              clear hdv hk9 hy hJ
              have hq0 : q ≠ 0 := by omega
              have hq1 : q ≠ -1 := by omega
              go_wp2_with fail
              go_roundw
              case rel => exact ⟨k, by rw [← HKK.out], by rw [← HDV.out], by omega, HOY.out, hby⟩
              case measure => rw [HKK.out]; simp [intOf]; have := HKK.out; omega
        · clear HVL
          subst hqe
          rw [if_neg hz] at hW
          have HW := Lib.hid hW
          have HLS := Lib.hid hL
          have hq2 := hqb.1
          have TV := fun W : World => Lib.hid (mdValuation_any n q W (by omega) (by omega) (by omega) (by omega) (by omega))
          have HLB := Lib.hid (fun k (h : k ≤ vl n q) => left_bd hn1 hq2 h)
          have HLA := Lib.hid (left_all hn1 hq2)
          have HLZ := Lib.hid (fun k : Nat => (left_succ hq2 k : left n q (k + 1) / q = left n q k))
          have hlz := left_zero n q
          have hvk : vl n q ≤ 100 := by
            have h4 := HLB.out 0 (by omega)
            rcases Nat.lt_or_ge 100 (vl n q) with h | h
            · exfalso
              have h5 := pow_mono' (p := q) (by omega) (show 40 ≤ vl n q by omega)
              have h6 := pow_base hq2 40
              have h7 : (2 : Int) ^ 40 = 1099511627776 := by decide
              have h8 := HLA.out
              unfold left at h8
              have h9 := (strip_le hn1 hq2).1
              have := Int.mul_le_mul h9 h5 (by omega) (by omega)
              omega
            · exact h
          have hv0 : vl n q = 0 := vl_zero hn1 hq2 hz
          clear hW hL hz
          generalize hvl : vl n q = K at *
          subst hv0
          rw [show ((0 : Nat) : Int) = 0 from rfl] at TV
          have hst9 : 1 ≤ strip n q ∧ strip n q ≤ n := strip_le hn1 hq2
          go_wp2_with (first | (go_at_call 74; (with_reducible refine ((TV _).out).mono ?_); rintro e w' ⟨rfl, rfl⟩))
          have hsn : strip n q = n := by rw [← hlz]; exact HLA.out
          have hw := HW.out
          have hls := HLS.out
          have hqb9 := HQB.out
          have hnx := HNX.out
          rw [hsn] at hw hls hqb9 hnx
          go_roundw
          case rel => exact ⟨n, q + 1, out, v, rfl, by go_num, rfl, hn1, hn2, by omega, hqb9, by omega, HO.out, by rw [← HT.out, hw]; simp, hnx, hbw⟩
          case measure => simpa [intOf] using hls
    · obtain rfl : n = 1 := by omega
      rw [prW_none (by omega), List.append_nil] at ht
      go_wp2_with fail
      go_ret
      exact ⟨_, rfl, by rw [← ht]; exact HO.out, hbw⟩
theorem mdFactors_any (N : Int) (w : World) (hN : 1 ≤ N) (hN2 : N ≤ 100000000000) : Calls Try.prog 60 #[.int .i64 N] w fun r w' =>
    ∃ v, r = .returned v ∧ OwnF w' w.heap.size v (prL N) ∧ Below w.heap.size w w' :=
  (mdFactorsE_any N w hN hN2).mono fun e w' ⟨v, h1, h2, h3⟩ => ⟨v, h1, h2.ownF, h3⟩
end Go.Proofs.Ytnemnkbcbokafaa
