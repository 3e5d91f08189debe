/- Classes of numbers modulo squares: both sides. -/
import Derived.Test.YtnemnkbcbokafaaPr6
import Derived.Test.YtnemnkbcbokafaaPr7
import Derived.BigQuiet
namespace Go.Proofs.Ytnemnkbcbokafaa
open Go.RowKit
set_option linter.unusedVariables false
set_option maxHeartbeats 4000000
set_option maxRecDepth 20000
set_option linter.unusedSimpArgs false
/-! ### plain -/
def clS (n : Int) : Int := if n < 0 then -1 else 1
def clF (n s : Int) (ps : List Int) : Int := ps.foldl (fun o p => if vl n p % 2 = 1 then o * p else o) s
/-- the class of a number: its sign, and the primes that divide it an odd number of times -/
def clV (n : Int) : Int := clF n (clS n) (prL n.natAbs)
theorem clS_bd (n : Int) : (clS n).natAbs = 1 := by unfold clS; split <;> rfl
theorem clF_snoc (n s : Int) (ps : List Int) {j : Nat} (h : j < ps.length) : clF n s (ps.take (j + 1)) = if vl n (ps[j]?.getD 0) % 2 = 1 then clF n s (ps.take j) * (ps[j]?.getD 0) else clF n s (ps.take j) := by
  unfold clF
  rw [List.take_add_one, List.getElem?_eq_getElem h, List.foldl_append]; rfl
theorem prodL_app : ∀ (a b : List Int), prodL (a ++ b) = prodL a * prodL b
  | [], b => by simp [prodL]
  | x :: a, b => by
    show x * prodL (a ++ b) = x * prodL a * prodL b
    rw [prodL_app a b, Int.mul_assoc]
theorem clF_bd {n : Int} : ∀ {ps : List Int} {s : Int}, (∀ p ∈ ps, 2 ≤ p) → ((clF n s ps).natAbs : Int) ≤ s.natAbs * prodL ps
  | [], s, _ => by simp [clF, prodL]
  | p :: ps, s, h => by
    have hp := h p (by simp)
    have h1 := prodL_pos (l := ps) (fun q hq => h q (by simp [hq]))
    have ih := clF_bd (n := n) (ps := ps) (s := if vl n p % 2 = 1 then s * p else s) (fun q hq => h q (by simp [hq]))
    have e : clF n s (p :: ps) = clF n (if vl n p % 2 = 1 then s * p else s) ps := rfl
    rw [e]
    refine Int.le_trans ih ?_
    show _ ≤ (s.natAbs : Int) * (p * prodL ps)
    rw [← Int.mul_assoc]
    refine Int.mul_le_mul_of_nonneg_right ?_ (by omega)
    split
    · rw [Int.natAbs_mul]; push_cast
      have : (p.natAbs : Int) = p := by omega
      rw [this]; exact Int.le_refl _
    · have := Int.mul_le_mul_of_nonneg_left (show (1 : Int) ≤ p by omega) (show (0 : Int) ≤ s.natAbs by omega)
      omega
theorem clF_take_bd {n m : Int} (hm : 1 ≤ m) (j : Nat) : -m ≤ clF n (clS n) ((prL m).take j) ∧ clF n (clS n) ((prL m).take j) ≤ m := by
  have h2 := fun p hp => (prL_bd hm p hp).1
  have h1 := clF_bd (n := n) (ps := (prL m).take j) (s := clS n) (fun p hp => h2 p (List.mem_of_mem_take hp))
  have h3 := prL_prod hm
  have h4 := prodL_app ((prL m).take j) ((prL m).drop j)
  rw [List.take_append_drop] at h4
  have h5 := prodL_pos (l := (prL m).take j) (fun p hp => h2 p (List.mem_of_mem_take hp))
  have h6 := prodL_pos (l := (prL m).drop j) (fun p hp => h2 p (List.mem_of_mem_drop hp))
  have h7 := Int.mul_le_mul_of_nonneg_left h6 (show 0 ≤ prodL ((prL m).take j) by omega)
  rw [clS_bd] at h1
  omega
theorem vl_abs {n p : Int} (hn : n ≠ 0) (hp : 2 ≤ p) : vl (n.natAbs : Int) p = vl n p := by
  rcases Int.lt_or_le n 0 with h | h
  · obtain ⟨u, h1, h2⟩ := vl_spec hp hn
    refine vl_eq (u := -u) hp (by omega) ?_ ?_
    · rw [Int.neg_mul, ← h1]; omega
    · intro h3
      exact h2 (Int.emod_eq_zero_of_dvd ((Int.dvd_neg).1 (Int.dvd_of_emod_eq_zero h3)))
  · rw [show (n.natAbs : Int) = n by omega]
def clB (v : Int) : Bool := decide (v ≠ 0) && (inB v (-1000000) 1000000 && decide (clV v = v))
theorem clB_bd {v : Int} (h : clB v = true) : v ≠ 0 ∧ -1000000 ≤ v ∧ v ≤ 1000000 := by
  simp [clB, inB] at h; omega
def pcV (x y : Int) : Int := x.tdiv (gcdI x y) * y.tdiv (gcdI x y)
theorem pcV_bd {x y : Int} (hx : -1000000 ≤ x ∧ x ≤ 1000000) (hy : -1000000 ≤ y ∧ y ≤ 1000000) : -1000000000000 ≤ pcV x y ∧ pcV x y ≤ 1000000000000 := by
  have h1 := tdiv_bd x (gcdI x y)
  have h2 := tdiv_bd y (gcdI x y)
  have := mul_bd (a := x.tdiv (gcdI x y)) (b := y.tdiv (gcdI x y)) (A := 1000000) (B := 1000000) (by omega) (by omega)
  unfold pcV; omega
/-! ### walks -/
def SfRel (w w1 : World) (n : Int) (ps : List Int) (ov iv : Value) (wr : World) : Prop := ∃ j : Nat, iv = .int .i64 j ∧ ov = .int .i64 (clF n (clS n) (ps.take j)) ∧ j ≤ ps.length ∧ Below w.heap.size w wr ∧ Below w1.heap.size w1 wr
theorem squarefree_any (n : Int) (w : World) (hn : n ≠ 0) (hn2 : -1000000000 ≤ n ∧ n ≤ 1000000000) : Calls Try.prog 30 #[.int .i64 n] w fun e w' => e = .returned (.int .i64 (clV n)) ∧ Below w.heap.size w w' := by
  have TP := fun W : World => Lib.hid (primesOf_any n W hn (by omega))
  have HBD := Lib.hid (fun j => clF_take_bd (n := n) (m := n.natAbs) (by omega) j)
  have HSN := Lib.hid (fun j => clF_snoc n (clS n) (prL n.natAbs) (j := j))
  have HPB := Lib.hid (prL_bd (n := n.natAbs) (by omega))
  have hpl := prL_len (n := n.natAbs) (by omega)
  have HDE := Lib.hid (show clF n (clS n) ((prL n.natAbs).take (prL n.natAbs).length) = clV n by rw [List.take_length]; rfl)
  generalize prL n.natAbs = ps at *
  have HNN := Lib.hid hn
  clear hn
  rcases (show (n < 0 ∧ clS n = -1) ∨ (0 ≤ n ∧ clS n = 1) by unfold clS; split <;> omega) with ⟨hs, hcs⟩ | ⟨hs, hcs⟩
  all_goals
    have HCS := Lib.hid hcs
    clear hcs
    have tok1 : True := trivial
    have tok2 : True := trivial
    go_enter Try.func30, Try.ntmps30
    go_wp2_with (first | (have _t := tok1; go_at_call 57; (with_reducible refine ((TP _).out).mono ?_); rintro e w1 ⟨v1, rfl, ho1, -, hb1⟩; clear tok1 _t; have hz1 := hb1.size; (try simp only [World.size_alloc, World.size_setCell, World.size_drew, World.size_drewN'] at hz1); obtain ⟨a1, c1, rfl, hx1, hf1⟩ := Sx.of_owns ho1; clear ho1))
    have hlen1 := hx1.len
    have HX := Lib.hid hx1
    clear hx1 hf1 TP
    go_loopw [3, 11] (fun ov iv wr => SfRel w w1 n ps ov iv wr) (fun _ iv _ => (ps.length - intOf iv).toNat)
    case atStart => exact ⟨0, rfl, by simp [clF, HCS.out], by omega, hb1, Below.refl _ _⟩
    case round =>
      obtain ⟨j, rfl, rfl, hj, hbw, hb1r⟩ := hrel
      by_cases hlt : j < ps.length
      · have hltc : (j : Int) < (ps.length : Int) := by omega
        obtain ⟨b, off, rfl, hbl, hcs⟩ := HX.out.at (by omega)
        have c0 := (hb1r.cell (p := ⟨b, off + j, none⟩) hbl).trans (hcs j hlt)
        have hpm : ps[j]?.getD 0 ∈ ps := by rw [List.getElem?_eq_getElem hlt]; simp
        have hsn := HSN.out j hlt
        have hb1' := HBD.out (j + 1)
        have hb2' := HBD.out j
        obtain ⟨p, hp⟩ : ∃ p, ps[j]?.getD 0 = p := ⟨_, rfl⟩
        rw [hp] at c0 hpm hsn
        have hpb := HPB.out p hpm
        have TV := fun W : World => Lib.hid (valuation_any n p W hpb.1 (by omega) HNN.out (by omega) (by omega))
        clear hcs hp hpm
        obtain ⟨K, hK⟩ : ∃ K, vl n p = K := ⟨_, rfl⟩
        rw [hK] at TV hsn
        generalize clF n (clS n) (ps.take j) = o at *
        clear hK
        by_cases hk : K % 2 = 1
        · rw [if_pos hk] at hsn
          rw [hsn] at hb1'
          have HS := Lib.hid hsn
          have hkc : ((K : Int) % 2 == 1) = true := by simp; omega
          clear hsn hk
          go_wp2_with (first | (go_at_call 58; (with_reducible refine ((TV _).out).mono ?_); rintro e w' ⟨rfl, rfl⟩))
          go_roundw
          case rel => exact ⟨j + 1, by go_num, by rw [HS.out], by omega, hbw, hb1r⟩
          case measure => simp [intOf]; omega
        · rw [if_neg hk] at hsn
          have HS := Lib.hid hsn
          have hkc : ((K : Int) % 2 == 1) = false := by simp; omega
          clear hsn hk hb1'
          go_wp2_with (first | (go_at_call 58; (with_reducible refine ((TV _).out).mono ?_); rintro e w' ⟨rfl, rfl⟩))
          go_roundw
          case rel => exact ⟨j + 1, by go_num, by rw [HS.out], by omega, hbw, hb1r⟩
          case measure => simp [intOf]; omega
      · obtain rfl : j = ps.length := by omega
        rw [HDE.out]
        go_wp2_with fail
        go_ret
        exact ⟨rfl, hbw⟩
theorem OwnE.shape {W : World} {B : Nat} {v : Value} {N : Int} {ps : List Int} (h : OwnE W B v N ps) : ∃ a c, v = .slice a ps.length c ∧ ∀ j, j < ps.length → ∃ g gj, a = some ⟨g, 0, none⟩ ∧ g < W.heap.size ∧ W.cell? ⟨g, j, none⟩ = some (.slice (some ⟨gj, 0, none⟩) 2 2) ∧ gj < W.heap.size ∧ W.cell? ⟨gj, 0, none⟩ = some (.int .i64 (ps[j]?.getD 0)) ∧ W.cell? ⟨gj, 1, none⟩ = some (.int .i64 (vl N (ps[j]?.getD 0) : Nat)) := by
  obtain ⟨gs, h1, h2, h3⟩ := h
  have hcell : ∀ g n c, v = .slice (some ⟨g, 0, none⟩) n c → ∀ j u, (gs.map slV2)[j]? = some u → W.cell? ((⟨g, 0, none⟩ : Addr).add j) = some u := fun g n c e => by subst e; exact h2.cells rfl
  rcases h2.2 with ⟨rfl, h0⟩ | ⟨g, cap, cur, rfl, hB, hg, _⟩
  · exact ⟨none, 0, by rw [h0], fun j hj => by omega⟩
  · refine ⟨_, _, rfl, fun j hj => ?_⟩
    have hk := h3 j hj
    refine ⟨g, gs[j]?.getD 0, rfl, blk_lt' hg, ?_, blk_lt' hk, blk_cell hk 0, blk_cell hk 1⟩
    have := hcell g _ _ rfl j (slV2 (gs[j]?.getD 0)) (by rw [List.getElem?_map, List.getElem?_eq_getElem (by omega)]; rfl)
    unfold Addr.add at this
    split at this
    · rename_i e; subst e; exact this
    · simpa [slV2] using this
theorem l1Sign1_any (v : Int) (w : World) (hv : v ≠ 0) : Calls Try.prog 59 #[.int .i64 v] w fun e w' => e = .returned (.int .i64 (clS v)) ∧ w = w' := by
  rcases Int.lt_or_gt_of_ne hv with h | h
  · rw [show clS v = -1 by unfold clS; rw [if_pos h]]
    go_enter Try.func59, Try.ntmps59
    go_wp2
    go_ret
    exact ⟨rfl, rfl⟩
  · rw [show clS v = 1 by unfold clS; rw [if_neg (by omega)]]
    go_enter Try.func59, Try.ntmps59
    go_wp2
    go_ret
    exact ⟨rfl, rfl⟩
theorem tcClass_any (n : Int) (w : World) (hn : n ≠ 0) (hn2 : -1000000000 ≤ n ∧ n ≤ 1000000000) : Calls Try.prog 32 #[.int .i64 n] w fun e w' => e = .returned (.int .i64 (clV n)) ∧ Below w.heap.size w w' := by
  have TG := fun W : World => Lib.hid (l1Sign1_any n W hn)
  have TA := fun W : World => Lib.hid (l1Abs_any n W (by omega) (by omega))
  have hab : absI n = (n.natAbs : Int) := rfl
  rw [hab] at TA
  have TM := fun W : World => Lib.hid (mdFactorsE_any n.natAbs W (by omega) (by omega))
  have HBD := Lib.hid (fun j => clF_take_bd (n := n) (m := n.natAbs) (by omega) j)
  have HSN := Lib.hid (fun j => clF_snoc n (clS n) (prL n.natAbs) (j := j))
  have HPB := Lib.hid (prL_bd (n := n.natAbs) (by omega))
  have hpl := prL_len (n := n.natAbs) (by omega)
  have HDE := Lib.hid (show clF n (clS n) ((prL n.natAbs).take (prL n.natAbs).length) = clV n by rw [List.take_length]; rfl)
  have HVA := Lib.hid (fun p (h : 2 ≤ p) => vl_abs (n := n) (p := p) hn h)
  obtain ⟨N, hN⟩ : ∃ N : Int, (n.natAbs : Int) = N := ⟨_, rfl⟩
  rw [hN] at TA HVA
  simp only [hN] at TM HBD HSN HPB hpl HDE
  have hNb : 1 ≤ N ∧ N ≤ 1000000000 := by omega
  clear hN hab
  generalize prL N = ps at *
  have HNN := Lib.hid hn
  clear hn
  have hcs0 : clF n (clS n) (ps.take 0) = clS n := rfl
  have HC0 := Lib.hid hcs0
  clear hcs0
  have hsb := clS_bd n
  have tok1 : True := trivial
  have tok2 : True := trivial
  go_enter Try.func32, Try.ntmps32
  go_wp2_with (first | (go_at_call 59; (with_reducible refine ((TG _).out).mono ?_); rintro e w' ⟨rfl, rfl⟩) | (go_at_call 61; (with_reducible refine ((TA _).out).mono ?_); rintro e w' ⟨rfl, rfl⟩) | (have _t := tok1; go_at_call 60; (with_reducible refine ((TM _).out).mono ?_); rintro e w1 ⟨v, rfl, hof, hb1⟩; clear tok1 _t; have hz1 := hb1.size; (try simp only [World.size_alloc, World.size_setCell, World.size_drew, World.size_drewN'] at hz1); obtain ⟨a3, c3, rfl, hsh⟩ := hof.shape))
  have HSH := Lib.hid hsh
  clear hsh hof TM TA TG
  go_loopw [3, 12] (fun ov iv wr => SfRel w w1 n ps ov iv wr) (fun _ iv _ => (ps.length - intOf iv).toNat)
  case atStart => exact ⟨0, rfl, by rw [HC0.out], by omega, hb1, Below.refl _ _⟩
  case round =>
    obtain ⟨j, rfl, rfl, hj, hbw, hb1r⟩ := hrel
    by_cases hlt : j < ps.length
    · have hltc : (j : Int) < (ps.length : Int) := by omega
      obtain ⟨g, gj, rfl, hgl, kj, hgj, pj, ej⟩ := HSH.out j hlt
      have k0 := (hb1r.cell (p := ⟨g, j, none⟩) hgl).trans kj
      have p0 := (hb1r.cell (p := ⟨gj, 0, none⟩) hgj).trans pj
      have p1 := (hb1r.cell (p := ⟨gj, 1, none⟩) hgj).trans ej
      have hpm : ps[j]?.getD 0 ∈ ps := by rw [List.getElem?_eq_getElem hlt]; simp
      have hsn := HSN.out j hlt
      have hb1' := HBD.out (j + 1)
      have hb2' := HBD.out j
      obtain ⟨p, hp⟩ : ∃ p, ps[j]?.getD 0 = p := ⟨_, rfl⟩
      rw [hp] at p0 p1 hpm hsn
      have hpb := HPB.out p hpm
      rw [HVA.out p hpb.1] at p1
      clear hp hpm kj pj ej
      obtain ⟨K, hK⟩ : ∃ K, vl n p = K := ⟨_, rfl⟩
      rw [hK] at p1 hsn
      generalize clF n (clS n) (ps.take j) = o at *
      clear hK
      by_cases hk : K % 2 = 1
      · rw [if_pos hk] at hsn
        rw [hsn] at hb1'
        have HS := Lib.hid hsn
        have hkc : ((K : Int) % 2 == 1) = true := by simp; omega
        clear hsn hk
        go_wp2_with fail
        go_roundw
        case rel => exact ⟨j + 1, by go_num, by rw [HS.out], by omega, hbw, hb1r⟩
        case measure => simp [intOf]; omega
      · rw [if_neg hk] at hsn
        have HS := Lib.hid hsn
        have hkc : ((K : Int) % 2 == 1) = false := by simp; omega
        clear hsn hk hb1'
        go_wp2_with fail
        go_roundw
        case rel => exact ⟨j + 1, by go_num, by rw [HS.out], by omega, hbw, hb1r⟩
        case measure => simp [intOf]; omega
    · obtain rfl : j = ps.length := by omega
      rw [HDE.out]
      go_wp2_with fail
      go_ret
      exact ⟨rfl, hbw⟩
end Go.Proofs.Ytnemnkbcbokafaa
