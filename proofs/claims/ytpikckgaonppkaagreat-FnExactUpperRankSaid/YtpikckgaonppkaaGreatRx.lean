/- Classes, groups of classes, ranks: both sides; the walks of the laws. -/
import Derived.Test.YtpikckgaonppkaaGreatPr6
import Derived.Test.YtpikckgaonppkaaGreatPr7
import Derived.BigQuiet
import Derived.Test.YtpikckgaonppkaaGreatDx
import Derived.Test.YtpikckgaonppkaaGreatLen
namespace Go.Proofs.YtpikckgaonppkaaGreat
open Go.RowKit
set_option linter.unusedVariables false
set_option maxHeartbeats 4000000
set_option maxRecDepth 20000
set_option linter.unusedSimpArgs false
/-! ### plain -/
def clS (n : Int) : Int := if n < 0 then -1 else 1
def clF (n s : Int) (ps : List Int) : Int := ps.foldl (fun o p => if vl n p % 2 = 1 then o * p else o) s
/-- the class of a number: its sign, and the primes that divide it an odd number of times -/
def clV (n : Int) : Int := clF n (clS n) (prL n.natAbs)
theorem clS_bd (n : Int) : (clS n).natAbs = 1 := by unfold clS; split <;> rfl
theorem clF_snoc (n s : Int) (ps : List Int) {j : Nat} (h : j < ps.length) : clF n s (ps.take (j + 1)) = if vl n (ps[j]?.getD 0) % 2 = 1 then clF n s (ps.take j) * (ps[j]?.getD 0) else clF n s (ps.take j) := by
  unfold clF
  rw [List.take_add_one, List.getElem?_eq_getElem h, List.foldl_append]; rfl
theorem prodL_app : ∀ (a b : List Int), prodL (a ++ b) = prodL a * prodL b
  | [], b => by simp [prodL]
  | x :: a, b => by
    show x * prodL (a ++ b) = x * prodL a * prodL b
    rw [prodL_app a b, Int.mul_assoc]
theorem clF_bd {n : Int} : ∀ {ps : List Int} {s : Int}, (∀ p ∈ ps, 2 ≤ p) → ((clF n s ps).natAbs : Int) ≤ s.natAbs * prodL ps
  | [], s, _ => by simp [clF, prodL]
  | p :: ps, s, h => by
    have hp := h p (by simp)
    have h1 := prodL_pos (l := ps) (fun q hq => h q (by simp [hq]))
    have ih := clF_bd (n := n) (ps := ps) (s := if vl n p % 2 = 1 then s * p else s) (fun q hq => h q (by simp [hq]))
    have e : clF n s (p :: ps) = clF n (if vl n p % 2 = 1 then s * p else s) ps := rfl
    rw [e]
    refine Int.le_trans ih ?_
    show _ ≤ (s.natAbs : Int) * (p * prodL ps)
    rw [← Int.mul_assoc]
    refine Int.mul_le_mul_of_nonneg_right ?_ (by omega)
    split
    · rw [Int.natAbs_mul]; push_cast
      have : (p.natAbs : Int) = p := by omega
      rw [this]; exact Int.le_refl _
    · have := Int.mul_le_mul_of_nonneg_left (show (1 : Int) ≤ p by omega) (show (0 : Int) ≤ s.natAbs by omega)
      omega
theorem clF_take_bd {n m : Int} (hm : 1 ≤ m) (j : Nat) : -m ≤ clF n (clS n) ((prL m).take j) ∧ clF n (clS n) ((prL m).take j) ≤ m := by
  have h2 := fun p hp => (prL_bd hm p hp).1
  have h1 := clF_bd (n := n) (ps := (prL m).take j) (s := clS n) (fun p hp => h2 p (List.mem_of_mem_take hp))
  have h3 := prL_prod hm
  have h4 := prodL_app ((prL m).take j) ((prL m).drop j)
  rw [List.take_append_drop] at h4
  have h5 := prodL_pos (l := (prL m).take j) (fun p hp => h2 p (List.mem_of_mem_take hp))
  have h6 := prodL_pos (l := (prL m).drop j) (fun p hp => h2 p (List.mem_of_mem_drop hp))
  have h7 := Int.mul_le_mul_of_nonneg_left h6 (show 0 ≤ prodL ((prL m).take j) by omega)
  rw [clS_bd] at h1
  omega
theorem vl_abs {n p : Int} (hn : n ≠ 0) (hp : 2 ≤ p) : vl (n.natAbs : Int) p = vl n p := by
  rcases Int.lt_or_le n 0 with h | h
  · obtain ⟨u, h1, h2⟩ := vl_spec hp hn
    refine vl_eq (u := -u) hp (by omega) ?_ ?_
    · rw [Int.neg_mul, ← h1]; omega
    · intro h3
      exact h2 (Int.emod_eq_zero_of_dvd ((Int.dvd_neg).1 (Int.dvd_of_emod_eq_zero h3)))
  · rw [show (n.natAbs : Int) = n by omega]
def clB (v : Int) : Bool := decide (v ≠ 0) && (inB v (-1000000) 1000000 && decide (clV v = v))
theorem clB_bd {v : Int} (h : clB v = true) : v ≠ 0 ∧ -1000000 ≤ v ∧ v ≤ 1000000 := by
  simp [clB, inB] at h; omega
def pcV (x y : Int) : Int := x.tdiv (gcdI x y) * y.tdiv (gcdI x y)
theorem pcV_bd {x y : Int} (hx : -1000000 ≤ x ∧ x ≤ 1000000) (hy : -1000000 ≤ y ∧ y ≤ 1000000) : -1000000000000 ≤ pcV x y ∧ pcV x y ≤ 1000000000000 := by
  have h1 := tdiv_bd x (gcdI x y)
  have h2 := tdiv_bd y (gcdI x y)
  have := mul_bd (a := x.tdiv (gcdI x y)) (b := y.tdiv (gcdI x y)) (A := 1000000) (B := 1000000) (by omega) (by omega)
  unfold pcV; omega
/-! ### walks -/
def SfRel (w w1 : World) (n : Int) (ps : List Int) (ov iv : Value) (wr : World) : Prop := ∃ j : Nat, iv = .int .i64 j ∧ ov = .int .i64 (clF n (clS n) (ps.take j)) ∧ j ≤ ps.length ∧ Below w.heap.size w wr ∧ Below w1.heap.size w1 wr
theorem squarefree_any (n : Int) (w : World) (hn : n ≠ 0) (hn2 : -1000000 ≤ n ∧ n ≤ 1000000) : Calls Tryz.prog 61 #[.int .i64 n] w fun e w' => e = .returned (.int .i64 (clV n)) ∧ Below w.heap.size w w' := by
  have TP := fun W : World => Lib.hid (primesOf_any n W hn (by omega))
  have HBD := Lib.hid (fun j => clF_take_bd (n := n) (m := n.natAbs) (by omega) j)
  have HSN := Lib.hid (fun j => clF_snoc n (clS n) (prL n.natAbs) (j := j))
  have HPB := Lib.hid (prL_bd (n := n.natAbs) (by omega))
  have hpl := prL_len (n := n.natAbs) (by omega)
  have HDE := Lib.hid (show clF n (clS n) ((prL n.natAbs).take (prL n.natAbs).length) = clV n by rw [List.take_length]; rfl)
  generalize prL n.natAbs = ps at *
  have HNN := Lib.hid hn
  clear hn
  rcases (show (n < 0 ∧ clS n = -1) ∨ (0 ≤ n ∧ clS n = 1) by unfold clS; split <;> omega) with ⟨hs, hcs⟩ | ⟨hs, hcs⟩
  all_goals
    have HCS := Lib.hid hcs
    clear hcs
    have tok1 : True := trivial
    have tok2 : True := trivial
    go_enter Tryz.func61, Tryz.ntmps61
    go_wp2_with (first | (have _t := tok1; go_at_call 55; (with_reducible refine ((TP _).out).mono ?_); rintro e w1 ⟨v1, rfl, ho1, -, hb1⟩; clear tok1 _t; have hz1 := hb1.size; (try simp only [World.size_alloc, World.size_setCell, World.size_drew, World.size_drewN'] at hz1); obtain ⟨a1, c1, rfl, hx1, hf1⟩ := Sx.of_owns ho1; clear ho1))
    have hlen1 := hx1.len
    have HX := Lib.hid hx1
    clear hx1 hf1 TP
    go_loopw [3, 11] (fun ov iv wr => SfRel w w1 n ps ov iv wr) (fun _ iv _ => (ps.length - intOf iv).toNat)
    case atStart => exact ⟨0, rfl, by simp [clF, HCS.out], by omega, hb1, Below.refl _ _⟩
    case round =>
      obtain ⟨j, rfl, rfl, hj, hbw, hb1r⟩ := hrel
      by_cases hlt : j < ps.length
      · have hltc : (j : Int) < (ps.length : Int) := by omega
        obtain ⟨b, off, rfl, hbl, hcs⟩ := HX.out.at (by omega)
        have c0 := (hb1r.cell (p := ⟨b, off + j, none⟩) hbl).trans (hcs j hlt)
        have hpm : ps[j]?.getD 0 ∈ ps := by rw [List.getElem?_eq_getElem hlt]; simp
        have hsn := HSN.out j hlt
        have hb1' := HBD.out (j + 1)
        have hb2' := HBD.out j
        obtain ⟨p, hp⟩ : ∃ p, ps[j]?.getD 0 = p := ⟨_, rfl⟩
        rw [hp] at c0 hpm hsn
        have hpb := HPB.out p hpm
        have TV := fun W : World => Lib.hid (valuation_any n p W hpb.1 (by omega) HNN.out (by omega) (by omega))
        clear hcs hp hpm
        obtain ⟨K, hK⟩ : ∃ K, vl n p = K := ⟨_, rfl⟩
        rw [hK] at TV hsn
        generalize clF n (clS n) (ps.take j) = o at *
        clear hK
        by_cases hk : K % 2 = 1
        · rw [if_pos hk] at hsn
          rw [hsn] at hb1'
          have HS := Lib.hid hsn
          have hkc : ((K : Int) % 2 == 1) = true := by simp; omega
          clear hsn hk
          go_wp2_with (first | (go_at_call 70; (with_reducible refine ((TV _).out).mono ?_); rintro e w' ⟨rfl, rfl⟩))
          go_roundw
          case rel => exact ⟨j + 1, by go_num, by rw [HS.out], by omega, hbw, hb1r⟩
          case measure => simp [intOf]; omega
        · rw [if_neg hk] at hsn
          have HS := Lib.hid hsn
          have hkc : ((K : Int) % 2 == 1) = false := by simp; omega
          clear hsn hk hb1'
          go_wp2_with (first | (go_at_call 70; (with_reducible refine ((TV _).out).mono ?_); rintro e w' ⟨rfl, rfl⟩))
          go_roundw
          case rel => exact ⟨j + 1, by go_num, by rw [HS.out], by omega, hbw, hb1r⟩
          case measure => simp [intOf]; omega
      · obtain rfl : j = ps.length := by omega
        rw [HDE.out]
        go_wp2_with fail
        go_ret
        exact ⟨rfl, hbw⟩
theorem isClass_any (v : Int) (w : World) : Calls Tryz.prog 43 #[.int .i64 v] w fun e w' => e = .returned (.bool (clB v)) ∧ Below w.heap.size w w' := by
  unfold clB
  by_cases h0 : v = 0
  · subst h0
    have T1 := trivial
    have tok1 : True := trivial
    go_enter Tryz.func43, Tryz.ntmps43
    go_wp2_with (first | (go_at_call 18; refine (inside_any _ _ _ _).mono ?_; rintro e w' ⟨rfl, rfl⟩) | (have _t := tok1; go_at_call 61; (with_reducible refine ((T1 _).out).mono ?_); rintro e w1 ⟨rfl, hb1⟩; clear tok1 _t; have hz1 := hb1.size; (try simp only [World.size_alloc, World.size_setCell, World.size_drew, World.size_drewN'] at hz1)))
    go_ret
    refine ⟨rfl, ?_⟩
    repeat' first | (with_reducible first | apply zRf | assumption | apply zDn | apply zDr | apply zAl | apply zSt | refine zVi (by assumption) ?_ ?_) | go_size
  · have h0' : (v != 0) = true := by simpa using h0
    rw [show decide (v ≠ 0) = true by simpa using h0]
    by_cases h1 : inB v (-1000000) 1000000 = true
    · have T1 := fun W : World => Lib.hid (squarefree_any v W h0 (inB_iff.1 h1))
      rw [h1]
      generalize clV v = c at *
      clear h0
      have tok1 : True := trivial
      go_enter Tryz.func43, Tryz.ntmps43
      go_wp2_with (first | (go_at_call 18; refine (inside_any _ _ _ _).mono ?_; rintro e w' ⟨rfl, rfl⟩) | (have _t := tok1; go_at_call 61; (with_reducible refine ((T1 _).out).mono ?_); rintro e w1 ⟨rfl, hb1⟩; clear tok1 _t; have hz1 := hb1.size; (try simp only [World.size_alloc, World.size_setCell, World.size_drew, World.size_drewN'] at hz1)))
      go_ret
      refine ⟨ret_bool (by first | rfl | (rw [Bool.eq_iff_iff]; simp)), ?_⟩
      repeat' first | (with_reducible first | apply zRf | assumption | apply zDn | apply zDr | apply zAl | apply zSt | refine zVi (by assumption) ?_ ?_) | go_size
    · have T1 := trivial
      simp only [Bool.not_eq_true] at h1
      rw [h1]
      clear h0
      have tok1 : True := trivial
      go_enter Tryz.func43, Tryz.ntmps43
      go_wp2_with (first | (go_at_call 18; refine (inside_any _ _ _ _).mono ?_; rintro e w' ⟨rfl, rfl⟩) | (have _t := tok1; go_at_call 61; (with_reducible refine ((T1 _).out).mono ?_); rintro e w1 ⟨rfl, hb1⟩; clear tok1 _t; have hz1 := hb1.size; (try simp only [World.size_alloc, World.size_setCell, World.size_drew, World.size_drewN'] at hz1)))
      go_ret
      refine ⟨ret_bool (by first | rfl | simp), ?_⟩
      repeat' first | (with_reducible first | apply zRf | assumption | apply zDn | apply zDr | apply zAl | apply zSt | refine zVi (by assumption) ?_ ?_) | go_size
theorem OwnE.shape {W : World} {B : Nat} {v : Value} {N : Int} {ps : List Int} (h : OwnE W B v N ps) : ∃ a c, v = .slice a ps.length c ∧ ∀ j, j < ps.length → ∃ g gj, a = some ⟨g, 0, none⟩ ∧ g < W.heap.size ∧ W.cell? ⟨g, j, none⟩ = some (.slice (some ⟨gj, 0, none⟩) 2 2) ∧ gj < W.heap.size ∧ W.cell? ⟨gj, 0, none⟩ = some (.int .i64 (ps[j]?.getD 0)) ∧ W.cell? ⟨gj, 1, none⟩ = some (.int .i64 (vl N (ps[j]?.getD 0) : Nat)) := by
  obtain ⟨gs, h1, h2, h3⟩ := h
  have hcell : ∀ g n c, v = .slice (some ⟨g, 0, none⟩) n c → ∀ j u, (gs.map slV2)[j]? = some u → W.cell? ((⟨g, 0, none⟩ : Addr).add j) = some u := fun g n c e => by subst e; exact h2.cells rfl
  rcases h2.2 with ⟨rfl, h0⟩ | ⟨g, cap, cur, rfl, hB, hg, _⟩
  · exact ⟨none, 0, by rw [h0], fun j hj => by omega⟩
  · refine ⟨_, _, rfl, fun j hj => ?_⟩
    have hk := h3 j hj
    refine ⟨g, gs[j]?.getD 0, rfl, blk_lt' hg, ?_, blk_lt' hk, blk_cell hk 0, blk_cell hk 1⟩
    have := hcell g _ _ rfl j (slV2 (gs[j]?.getD 0)) (by rw [List.getElem?_map, List.getElem?_eq_getElem (by omega)]; rfl)
    unfold Addr.add at this
    split at this
    · rename_i e; subst e; exact this
    · simpa [slV2] using this
theorem l1Sign1_any (v : Int) (w : World) (hv : v ≠ 0) : Calls Tryz.prog 73 #[.int .i64 v] w fun e w' => e = .returned (.int .i64 (clS v)) ∧ w = w' := by
  rcases Int.lt_or_gt_of_ne hv with h | h
  · rw [show clS v = -1 by unfold clS; rw [if_pos h]]
    go_enter Tryz.func73, Tryz.ntmps73
    go_wp2
    go_ret
    exact ⟨rfl, rfl⟩
  · rw [show clS v = 1 by unfold clS; rw [if_neg (by omega)]]
    go_enter Tryz.func73, Tryz.ntmps73
    go_wp2
    go_ret
    exact ⟨rfl, rfl⟩
theorem tcClass_any (n : Int) (w : World) (hn : n ≠ 0) (hn2 : -1000000 ≤ n ∧ n ≤ 1000000) : Calls Tryz.prog 66 #[.int .i64 n] w fun e w' => e = .returned (.int .i64 (clV n)) ∧ Below w.heap.size w w' := by
  have TG := fun W : World => Lib.hid (l1Sign1_any n W hn)
  have TA := fun W : World => Lib.hid (l1Abs_any n W (by omega) (by omega))
  have hab : absI n = (n.natAbs : Int) := rfl
  rw [hab] at TA
  have TM := fun W : World => Lib.hid (mdFactorsE_any n.natAbs W (by omega) (by omega))
  have HBD := Lib.hid (fun j => clF_take_bd (n := n) (m := n.natAbs) (by omega) j)
  have HSN := Lib.hid (fun j => clF_snoc n (clS n) (prL n.natAbs) (j := j))
  have HPB := Lib.hid (prL_bd (n := n.natAbs) (by omega))
  have hpl := prL_len (n := n.natAbs) (by omega)
  have HDE := Lib.hid (show clF n (clS n) ((prL n.natAbs).take (prL n.natAbs).length) = clV n by rw [List.take_length]; rfl)
  have HVA := Lib.hid (fun p (h : 2 ≤ p) => vl_abs (n := n) (p := p) hn h)
  obtain ⟨N, hN⟩ : ∃ N : Int, (n.natAbs : Int) = N := ⟨_, rfl⟩
  rw [hN] at TA HVA
  simp only [hN] at TM HBD HSN HPB hpl HDE
  have hNb : 1 ≤ N ∧ N ≤ 1000000 := by omega
  clear hN hab
  generalize prL N = ps at *
  have HNN := Lib.hid hn
  clear hn
  have hcs0 : clF n (clS n) (ps.take 0) = clS n := rfl
  have HC0 := Lib.hid hcs0
  clear hcs0
  have hsb := clS_bd n
  have tok1 : True := trivial
  have tok2 : True := trivial
  go_enter Tryz.func66, Tryz.ntmps66
  go_wp2_with (first | (go_at_call 73; (with_reducible refine ((TG _).out).mono ?_); rintro e w' ⟨rfl, rfl⟩) | (go_at_call 49; (with_reducible refine ((TA _).out).mono ?_); rintro e w' ⟨rfl, rfl⟩) | (have _t := tok1; go_at_call 48; (with_reducible refine ((TM _).out).mono ?_); rintro e w1 ⟨v, rfl, hof, hb1⟩; clear tok1 _t; have hz1 := hb1.size; (try simp only [World.size_alloc, World.size_setCell, World.size_drew, World.size_drewN'] at hz1); obtain ⟨a3, c3, rfl, hsh⟩ := hof.shape))
  have HSH := Lib.hid hsh
  clear hsh hof TM TA TG
  go_loopw [3, 12] (fun ov iv wr => SfRel w w1 n ps ov iv wr) (fun _ iv _ => (ps.length - intOf iv).toNat)
  case atStart => exact ⟨0, rfl, by rw [HC0.out], by omega, hb1, Below.refl _ _⟩
  case round =>
    obtain ⟨j, rfl, rfl, hj, hbw, hb1r⟩ := hrel
    by_cases hlt : j < ps.length
    · have hltc : (j : Int) < (ps.length : Int) := by omega
      obtain ⟨g, gj, rfl, hgl, kj, hgj, pj, ej⟩ := HSH.out j hlt
      have k0 := (hb1r.cell (p := ⟨g, j, none⟩) hgl).trans kj
      have p0 := (hb1r.cell (p := ⟨gj, 0, none⟩) hgj).trans pj
      have p1 := (hb1r.cell (p := ⟨gj, 1, none⟩) hgj).trans ej
      have hpm : ps[j]?.getD 0 ∈ ps := by rw [List.getElem?_eq_getElem hlt]; simp
      have hsn := HSN.out j hlt
      have hb1' := HBD.out (j + 1)
      have hb2' := HBD.out j
      obtain ⟨p, hp⟩ : ∃ p, ps[j]?.getD 0 = p := ⟨_, rfl⟩
      rw [hp] at p0 p1 hpm hsn
      have hpb := HPB.out p hpm
      rw [HVA.out p hpb.1] at p1
      clear hp hpm kj pj ej
      obtain ⟨K, hK⟩ : ∃ K, vl n p = K := ⟨_, rfl⟩
      rw [hK] at p1 hsn
      generalize clF n (clS n) (ps.take j) = o at *
      clear hK
      by_cases hk : K % 2 = 1
      · rw [if_pos hk] at hsn
        rw [hsn] at hb1'
        have HS := Lib.hid hsn
        have hkc : ((K : Int) % 2 == 1) = true := by simp; omega
        clear hsn hk
        go_wp2_with fail
        go_roundw
        case rel => exact ⟨j + 1, by go_num, by rw [HS.out], by omega, hbw, hb1r⟩
        case measure => simp [intOf]; omega
      · rw [if_neg hk] at hsn
        have HS := Lib.hid hsn
        have hkc : ((K : Int) % 2 == 1) = false := by simp; omega
        clear hsn hk hb1'
        go_wp2_with fail
        go_roundw
        case rel => exact ⟨j + 1, by go_num, by rw [HS.out], by omega, hbw, hb1r⟩
        case measure => simp [intOf]; omega
    · obtain rfl : j = ps.length := by omega
      rw [HDE.out]
      go_wp2_with fail
      go_ret
      exact ⟨rfl, hbw⟩
theorem dsClass_any (v : Int) (w : World) : Calls Tryz.prog 53 #[.int .i64 v] w fun e w' => e = .returned (.bool (clB v)) ∧ Below w.heap.size w w' := by
  unfold clB
  by_cases h1 : inB v (-1000000) 1000000 = true
  · rw [h1]
    by_cases h0 : v = 0
    · subst h0
      have T1 := trivial
      have tok1 : True := trivial
      go_enter Tryz.func53, Tryz.ntmps53
      go_wp2_with (first | (go_at_call 15; refine (l1In_any _ _ _ _).mono ?_; rintro e w' ⟨rfl, rfl⟩) | (have _t := tok1; go_at_call 66; (with_reducible refine ((T1 _).out).mono ?_); rintro e w1 ⟨rfl, hb1⟩; clear tok1 _t; have hz1 := hb1.size; (try simp only [World.size_alloc, World.size_setCell, World.size_drew, World.size_drewN'] at hz1)))
      go_ret
      refine ⟨rfl, ?_⟩
      repeat' first | (with_reducible first | apply zRf | assumption | apply zDn | apply zDr | apply zAl | apply zSt | refine zVi (by assumption) ?_ ?_) | go_size
    · have T1 := fun W : World => Lib.hid (tcClass_any v W h0 (inB_iff.1 h1))
      have h0' : (v != 0) = true := by simpa using h0
      rw [show decide (v ≠ 0) = true by simpa using h0]
      generalize clV v = c at *
      clear h0
      have tok1 : True := trivial
      go_enter Tryz.func53, Tryz.ntmps53
      go_wp2_with (first | (go_at_call 15; refine (l1In_any _ _ _ _).mono ?_; rintro e w' ⟨rfl, rfl⟩) | (have _t := tok1; go_at_call 66; (with_reducible refine ((T1 _).out).mono ?_); rintro e w1 ⟨rfl, hb1⟩; clear tok1 _t; have hz1 := hb1.size; (try simp only [World.size_alloc, World.size_setCell, World.size_drew, World.size_drewN'] at hz1)))
      go_ret
      refine ⟨ret_bool (by first | rfl | (rw [Bool.eq_iff_iff]; simp)), ?_⟩
      repeat' first | (with_reducible first | apply zRf | assumption | apply zDn | apply zDr | apply zAl | apply zSt | refine zVi (by assumption) ?_ ?_) | go_size
  · have T1 := trivial
    simp only [Bool.not_eq_true] at h1
    rw [h1]
    have tok1 : True := trivial
    go_enter Tryz.func53, Tryz.ntmps53
    go_wp2_with (first | (go_at_call 15; refine (l1In_any _ _ _ _).mono ?_; rintro e w' ⟨rfl, rfl⟩) | (have _t := tok1; go_at_call 66; (with_reducible refine ((T1 _).out).mono ?_); rintro e w1 ⟨rfl, hb1⟩; clear tok1 _t; have hz1 := hb1.size; (try simp only [World.size_alloc, World.size_setCell, World.size_drew, World.size_drewN'] at hz1)))
    go_ret
    refine ⟨ret_bool (by first | rfl | simp), ?_⟩
    repeat' first | (with_reducible first | apply zRf | assumption | apply zDn | apply zDr | apply zAl | apply zSt | refine zVi (by assumption) ?_ ?_) | go_size
theorem productClass_any (x y : Int) (w : World) (hx : -1000000 ≤ x ∧ x ≤ 1000000) (hy : -1000000 ≤ y ∧ y ≤ 1000000) (hy0 : y ≠ 0) : Calls Tryz.prog 44 #[.int .i64 x, .int .i64 y] w fun e w' => e = .returned (.tuple #[.int .i64 (if clB (pcV x y) = true then pcV x y else 0), .bool (clB (pcV x y))]) ∧ Below w.heap.size w w' := by
  have hg1 := gcdI_pos (a := x) hy0
  have hg2 := gcdI_le (a := x) hy0
  have hpb := pcV_bd hx hy
  have h1 := tdiv_bd x (gcdI x y)
  have h2 := tdiv_bd y (gcdI x y)
  have hpe : pcV x y = x.tdiv (gcdI x y) * y.tdiv (gcdI x y) := rfl
  have T1 := fun W : World => Lib.hid (isClass_any (pcV x y) W)
  have TG := fun W : World => Lib.hid (gcd_any x y W (by omega) (by omega) (by omega) (by omega))
  have hab : absI y ≤ 1000000 := by unfold absI; omega
  simp only [hpe] at T1
  rw [hpe] at hpb ⊢
  clear hpe
  generalize gcdI x y = g at *
  have hg8 : g ≠ 0 := by omega
  have hg9 : g ≠ -1 := by omega
  cases hc : clB (x.tdiv g * y.tdiv g)
  all_goals
    rw [hc] at T1
    clear hc
    have tok1 : True := trivial
    go_enter Tryz.func44, Tryz.ntmps44
    go_wp2_with (first | (first | (go_at_call 62; (with_reducible refine ((TG _).out).mono ?_); rintro e w' ⟨rfl, nq, rfl⟩) | (have _t := tok1; go_at_call 43; (with_reducible refine ((T1 _).out).mono ?_); rintro e w1 ⟨rfl, hb1⟩; clear tok1 _t; have hz1 := hb1.size; (try simp only [World.size_alloc, World.size_setCell, World.size_drew, World.size_drewN'] at hz1))))
    go_quiet (fail)
    go_wp2_with (first | (first | (go_at_call 62; (with_reducible refine ((TG _).out).mono ?_); rintro e w' ⟨rfl, nq, rfl⟩) | (have _t := tok1; go_at_call 43; (with_reducible refine ((T1 _).out).mono ?_); rintro e w1 ⟨rfl, hb1⟩; clear tok1 _t; have hz1 := hb1.size; (try simp only [World.size_alloc, World.size_setCell, World.size_drew, World.size_drewN'] at hz1))))
    go_ret2
    refine ⟨rfl, ?_⟩
    repeat' first | (with_reducible first | apply zRf | assumption | apply zDn | apply zDr | apply zAl | apply zSt | refine zVi (by assumption) ?_ ?_) | go_size
theorem dsProduct_any (x y : Int) (w : World) (hx : -1000000 ≤ x ∧ x ≤ 1000000) (hy : -1000000 ≤ y ∧ y ≤ 1000000) (hy0 : y ≠ 0) : Calls Tryz.prog 36 #[.int .i64 x, .int .i64 y] w fun e w' => e = .returned (.int .i64 (pcV x y)) ∧ Below w.heap.size w w' := by
  have hg1 := gcdI_pos (a := x) hy0
  have hg2 := gcdI_le (a := x) hy0
  have hpb := pcV_bd hx hy
  have h1 := tdiv_bd x (gcdI x y)
  have h2 := tdiv_bd y (gcdI x y)
  have hpe : pcV x y = x.tdiv (gcdI x y) * y.tdiv (gcdI x y) := rfl
  have hab : absI y ≤ 1000000 := by unfold absI; omega
  have TC := fun W : World => Lib.hid (common_any (absI x) (absI y) W (by unfold absI; omega) (by unfold absI; omega) (by unfold absI; omega) (by unfold absI; omega))
  rw [gcdI_abs, gcdI_abs2] at TC
  rw [hpe] at hpb ⊢
  clear hpe
  generalize gcdI x y = g at *
  have hg8 : g ≠ 0 := by omega
  have hg9 : g ≠ -1 := by omega
  have tok1 : True := trivial
  go_enter Tryz.func36, Tryz.ntmps36
  go_wp2_with (first | (first | (go_at_call 49; refine (l1Abs_any _ _ (by omega) (by omega)).mono ?_; rintro e w' ⟨rfl, rfl⟩) | (go_at_call 54; (with_reducible refine ((TC _).out).mono ?_); rintro e w' ⟨rfl, rfl⟩)))
  go_quiet (fail)
  go_wp2_with fail
  go_ret
  refine ⟨rfl, ?_⟩
  repeat' first | (with_reducible first | apply zRf | assumption | apply zDn | apply zDr | apply zAl | apply zSt | refine zVi (by assumption) ?_ ?_) | go_size
/-! ### plain -/
def RiS (zs : List Int) : Prop := ∀ i, 0 < i → i < zs.length → zs[i - 1]?.getD 0 < zs[i]?.getD 0
structure GrP (zs : List Int) : Prop where
  len : 1 ≤ zs.length ∧ zs.length ≤ 64
  one : (1 : Int) ∈ zs
  cls : ∀ i, i < zs.length → clB (zs[i]?.getD 0) = true
  ris : RiS zs
  prod : ∀ i, i < zs.length → ∀ j, j < zs.length → pcV (zs[i]?.getD 0) (zs[j]?.getD 0) ∈ zs
noncomputable def grB (zs : List Int) : Bool := @decide (GrP zs) (Classical.propDecidable _)
theorem grB_yes {zs : List Int} (h : GrP zs) : grB zs = true := by unfold grB; exact @decide_eq_true _ (Classical.propDecidable _) h
theorem grB_no {zs : List Int} (h : ¬ GrP zs) : grB zs = false := by unfold grB; exact @decide_eq_false _ (Classical.propDecidable _) h
theorem grB_iff {zs : List Int} : grB zs = true ↔ GrP zs := ⟨fun h => Classical.byContradiction (fun g => by rw [grB_no g] at h; exact Bool.noConfusion h), grB_yes⟩
def RsP (zs : List Int) : Prop := (∀ i, i < zs.length → inB (zs[i]?.getD 0) (-1000000) 1000000 = true) ∧ RiS zs
noncomputable def rsB (zs : List Int) : Bool := @decide (RsP zs) (Classical.propDecidable _)
theorem rsB_yes {zs : List Int} (h : RsP zs) : rsB zs = true := by unfold rsB; exact @decide_eq_true _ (Classical.propDecidable _) h
theorem rsB_no {zs : List Int} (h : ¬ RsP zs) : rsB zs = false := by unfold rsB; exact @decide_eq_false _ (Classical.propDecidable _) h
def LsP (zs : List Int) : Prop := (∀ i, i < zs.length → clB (zs[i]?.getD 0) = true) ∧ (1 ≤ zs.length ∧ zs.length ≤ 64)
noncomputable def lsB (zs : List Int) : Bool := @decide (LsP zs) (Classical.propDecidable _)
theorem lsB_yes {zs : List Int} (h : LsP zs) : lsB zs = true := by unfold lsB; exact @decide_eq_true _ (Classical.propDecidable _) h
theorem lsB_no {zs : List Int} (h : ¬ LsP zs) : lsB zs = false := by unfold lsB; exact @decide_eq_false _ (Classical.propDecidable _) h
theorem at_mem {zs : List Int} {v : Int} (h : v ∈ zs) : ∃ i, i < zs.length ∧ zs[i]?.getD 0 = v := by
  obtain ⟨i, hi, e⟩ := List.getElem_of_mem h
  exact ⟨i, hi, by rw [List.getElem?_eq_getElem hi]; exact e⟩
def RiRel (w : World) (zs : List Int) (Q : Int → Bool) (iv : Value) (wr : World) : Prop := ∃ k : Nat, iv = .int .i64 k ∧ k ≤ zs.length ∧ (∀ i, i < k → Q (zs[i]?.getD 0) = true) ∧ (∀ i, 0 < i → i < k → zs[i - 1]?.getD 0 < zs[i]?.getD 0) ∧ Below w.heap.size w wr
theorem ri_step {zs : List Int} {Q : Int → Bool} {k : Nat} (h1 : ∀ i, i < k → Q (zs[i]?.getD 0) = true) (h : Q (zs[k]?.getD 0) = true) : ∀ i, i < k + 1 → Q (zs[i]?.getD 0) = true := fun i hi => by
  rcases Nat.lt_or_ge i k with h2 | h2
  · exact h1 i h2
  · obtain rfl : i = k := by omega
    exact h
theorem ri_step2 {zs : List Int} {k : Nat} (h1 : ∀ i, 0 < i → i < k → zs[i - 1]?.getD 0 < zs[i]?.getD 0) (h : 0 < k → zs[k - 1]?.getD 0 < zs[k]?.getD 0) : ∀ i, 0 < i → i < k + 1 → zs[i - 1]?.getD 0 < zs[i]?.getD 0 := fun i h0 hi => by
  rcases Nat.lt_or_ge i k with h2 | h2
  · exact h1 i h0 h2
  · obtain rfl : i = k := by omega
    exact h h0
theorem l1Rising_any (a : Option Addr) (c : Nat) (zs : List Int) (w : World) (h : Sx w a zs.length c zs) : Calls Tryz.prog 34 #[.slice a zs.length c, .int .i64 (-1000000), .int .i64 1000000] w fun e w' => e = .returned (.bool (rsB zs)) ∧ Below w.heap.size w w' := by
  have hcap := h.cap
  have hmax := h.max
  unfold maxLen at hmax
  go_enter Tryz.func34, Tryz.ntmps34
  go_wp2_with fail
  go_loopw [11] (fun iv wr => RiRel w zs (fun x => inB x (-1000000) 1000000) iv wr) (fun iv _ => (zs.length - intOf iv).toNat)
  case atStart => exact ⟨0, rfl, by omega, (by intro i hi; omega), (by intro i _ hi; omega), Below.refl _ _⟩
  case round =>
    obtain ⟨k, rfl, hk, hq, hr, hb⟩ := hrel
    by_cases hlt : k < zs.length
    · have hltc : (k : Int) < (zs.length : Int) := by omega
      obtain ⟨b, off, rfl, hbl, hcs⟩ := h.at (by omega)
      have c0 := (hb.cell (p := ⟨b, off + k, none⟩) hbl).trans (hcs k hlt)
      obtain ⟨y, hy⟩ : ∃ y, zs[k]?.getD 0 = y := ⟨_, rfl⟩
      have TI := fun W : World => Lib.hid (l1In_any y (-1000000) 1000000 W)
      rw [hy] at c0
      by_cases hin : inB y (-1000000) 1000000 = true
      · have HQ := Lib.hid (ri_step (Q := fun x => inB x (-1000000) 1000000) hq (by rw [hy]; exact hin))
        rw [hin] at TI
        rcases k with _ | m
        · have HR := Lib.hid (ri_step2 hr (fun h0 => by omega))
          have e0 : ((0 : Nat) : Int) = 0 := rfl
          rw [e0] at hltc ⊢
          rw [Nat.add_zero] at c0
          clear hy hcs hq hr hin e0
          go_wp2_with (first | (go_at_call 15; (with_reducible refine ((TI _).out).mono ?_); rintro e w' ⟨rfl, rfl⟩))
          go_roundw
          case rel => exact ⟨0 + 1, by go_num, by omega, HQ.out, HR.out, hb⟩
          case measure => simp [intOf]; omega
        · have c1 := (hb.cell (p := ⟨b, off + m, none⟩) hbl).trans (hcs m (by omega))
          obtain ⟨x, hx⟩ : ∃ x, zs[m]?.getD 0 = x := ⟨_, rfl⟩
          rw [hx] at c1
          have hk0 : (0 : Int) < ((m + 1 : Nat) : Int) := by omega
          by_cases hxy : x < y
          · have HR := Lib.hid (ri_step2 hr (fun h0 => by rw [Nat.add_sub_cancel, hx, hy]; exact hxy))
            clear hy hx hcs hq hr hin
            go_wp2_with (first | (go_at_call 15; (with_reducible refine ((TI _).out).mono ?_); rintro e w' ⟨rfl, rfl⟩))
            go_roundw
            case rel => exact ⟨m + 1 + 1, by go_num, by omega, HQ.out, HR.out, hb⟩
            case measure => simp [intOf]; omega
          · have hno := rsB_no (zs := zs) (fun hp => by
              have := hp.2 (m + 1) (by omega) hlt
              rw [Nat.add_sub_cancel, hx, hy] at this
              exact hxy this)
            have HN := Lib.hid hno
            clear hy hx hcs hq hr hin hno
            go_wp2_with (first | (go_at_call 15; (with_reducible refine ((TI _).out).mono ?_); rintro e w' ⟨rfl, rfl⟩))
            go_ret
            exact ⟨ret_bool HN.out.symm, hb⟩
      · have hno := rsB_no (zs := zs) (fun hp => hin (by have := hp.1 k hlt; rw [hy] at this; exact this))
        have HN := Lib.hid hno
        simp only [Bool.not_eq_true] at hin
        rw [hin] at TI
        clear hy hcs hq hr hin hno
        go_wp2_with (first | (go_at_call 15; (with_reducible refine ((TI _).out).mono ?_); rintro e w' ⟨rfl, rfl⟩))
        go_ret
        exact ⟨ret_bool HN.out.symm, hb⟩
    · obtain rfl : k = zs.length := by omega
      have HN := Lib.hid (rsB_yes (zs := zs) ⟨hq, hr⟩)
      clear hq hr
      go_wp2_with fail
      go_ret
      exact ⟨ret_bool HN.out.symm, hb⟩
theorem dsList_any (a : Option Addr) (c : Nat) (zs : List Int) (w : World) (h : Sx w a zs.length c zs) : Calls Tryz.prog 33 #[.slice a zs.length c, .int .i64 64] w fun e w' => e = .returned (.bool (lsB zs)) ∧ Below w.heap.size w w' := by
  have hcap := h.cap
  have hmax := h.max
  unfold maxLen at hmax
  have TI := fun W : World => Lib.hid (l1In_any zs.length 1 64 W)
  have tok1 : True := trivial
  go_enter Tryz.func33, Tryz.ntmps33
  go_wp2_with fail
  go_loopw [9] (fun iv wr => ∃ k : Nat, iv = .int .i64 k ∧ k ≤ zs.length ∧ (∀ i, i < k → clB (zs[i]?.getD 0) = true) ∧ Below w.heap.size w wr) (fun iv _ => (zs.length - intOf iv).toNat)
  case atStart => exact ⟨0, rfl, by omega, (by intro i hi; omega), Below.refl _ _⟩
  case round =>
    obtain ⟨k, rfl, hk, hq, hb⟩ := hrel
    have hsw := hb.size
    by_cases hlt : k < zs.length
    · have hltc : (k : Int) < (zs.length : Int) := by omega
      obtain ⟨b, off, rfl, hbl, hcs⟩ := h.at (by omega)
      have c0 := (hb.cell (p := ⟨b, off + k, none⟩) hbl).trans (hcs k hlt)
      obtain ⟨y, hy⟩ : ∃ y, zs[k]?.getD 0 = y := ⟨_, rfl⟩
      have TC := fun W : World => Lib.hid (dsClass_any y W)
      rw [hy] at c0
      cases hc : clB y
      · have hno := lsB_no (zs := zs) (fun hp => by have := hp.1 k hlt; rw [hy, hc] at this; cases this)
        have HN := Lib.hid hno
        rw [hc] at TC
        clear hy hcs hq hc hno
        go_wp2_with (first | (have _t := tok1; go_at_call 53; (with_reducible refine ((TC _).out).mono ?_); rintro e w1 ⟨rfl, hb1⟩; clear tok1 _t; have hz1 := hb1.size; (try simp only [World.size_alloc, World.size_setCell, World.size_drew, World.size_drewN'] at hz1)) | (go_at_call 15; (with_reducible refine ((TI _).out).mono ?_); rintro e w' ⟨rfl, rfl⟩))
        go_ret
        exact ⟨ret_bool HN.out.symm, hb.trans (hb1.mono hsw)⟩
      · have HQ := Lib.hid (ri_step (Q := clB) hq (by rw [hy]; exact hc))
        rw [hc] at TC
        clear hy hcs hq hc
        go_wp2_with (first | (have _t := tok1; go_at_call 53; (with_reducible refine ((TC _).out).mono ?_); rintro e w1 ⟨rfl, hb1⟩; clear tok1 _t; have hz1 := hb1.size; (try simp only [World.size_alloc, World.size_setCell, World.size_drew, World.size_drewN'] at hz1)) | (go_at_call 15; (with_reducible refine ((TI _).out).mono ?_); rintro e w' ⟨rfl, rfl⟩))
        go_roundw
        case rel => exact ⟨k + 1, by go_num, by omega, HQ.out, hb.trans (hb1.mono hsw)⟩
        case measure => simp [intOf]; omega
    · obtain rfl : k = zs.length := by omega
      have HN := Lib.hid (show inB (zs.length : Int) 1 64 = lsB zs by
        by_cases h1 : 1 ≤ zs.length ∧ zs.length ≤ 64
        · rw [lsB_yes ⟨hq, h1⟩]; simp [inB]; omega
        · rw [lsB_no (fun hp => h1 hp.2)]; simp [inB]; omega)
      clear hq
      go_wp2_with (first | (have _t := tok1; go_at_call 53; (with_reducible refine ((TC _).out).mono ?_); rintro e w1 ⟨rfl, hb1⟩; clear tok1 _t; have hz1 := hb1.size; (try simp only [World.size_alloc, World.size_setCell, World.size_drew, World.size_drewN'] at hz1)) | (go_at_call 15; (with_reducible refine ((TI _).out).mono ?_); rintro e w' ⟨rfl, rfl⟩))
      go_ret
      exact ⟨ret_bool HN.out, hb⟩
def GpO (w : World) (zs : List Int) (iv : Value) (wr : World) : Prop := ∃ i : Nat, iv = .int .i64 i ∧ i ≤ zs.length ∧ (∀ a, a < i → ∀ b, b < zs.length → pcV (zs[a]?.getD 0) (zs[b]?.getD 0) ∈ zs) ∧ Below w.heap.size w wr
def GpI (w : World) (zs : List Int) (x : Int) (jv : Value) (wr : World) : Prop := ∃ j : Nat, jv = .int .i64 j ∧ j ≤ zs.length ∧ (∀ b, b < j → pcV x (zs[b]?.getD 0) ∈ zs) ∧ Below w.heap.size w wr
theorem gp_step {zs : List Int} {x : Int} {j : Nat} (h : ∀ b, b < j → pcV x (zs[b]?.getD 0) ∈ zs) (h2 : pcV x (zs[j]?.getD 0) ∈ zs) : ∀ b, b < j + 1 → pcV x (zs[b]?.getD 0) ∈ zs := fun b hb => by
  rcases Nat.lt_or_ge b j with h3 | h3
  · exact h b h3
  · obtain rfl : b = j := by omega
    exact h2
theorem gp_stepO {zs : List Int} {i : Nat} (h : ∀ a, a < i → ∀ b, b < zs.length → pcV (zs[a]?.getD 0) (zs[b]?.getD 0) ∈ zs) (h2 : ∀ b, b < zs.length → pcV (zs[i]?.getD 0) (zs[b]?.getD 0) ∈ zs) : ∀ a, a < i + 1 → ∀ b, b < zs.length → pcV (zs[a]?.getD 0) (zs[b]?.getD 0) ∈ zs := fun a ha => by
  rcases Nat.lt_or_ge a i with h3 | h3
  · exact h a h3
  · obtain rfl : a = i := by omega
    exact h2
theorem isClassGroup_any (a : Option Addr) (c : Nat) (zs : List Int) (w : World) (h : Sx w a zs.length c zs) : Calls Tryz.prog 26 #[.slice a zs.length c] w fun e w' => e = .returned (.bool (grB zs)) ∧ Below w.heap.size w w' := by
  have TI := fun W : World => Lib.hid (inside_any zs.length 1 64 W)
  have TC := Lib.hid (contains_any a c zs 1 w h)
  have TM0 := fun (v : Int) (W : World) (hW : Below w.heap.size w W) => Lib.hid (contains_any a c zs v W (h.below hW))
  have hnot : ∀ (x : Bool) (w : World), (Op.unary .not (.bool x)).run Tryz.prog w = .ok (.bool (!x)) w := fun _ _ => rfl
  have hcap := h.cap
  have hmax := h.max
  unfold maxLen at hmax
  by_cases hl : 1 ≤ zs.length ∧ zs.length ≤ 64
  · have hin : inB (zs.length : Int) 1 64 = true := by simp [inB]; omega
    rw [hin] at TI
    by_cases h1 : (1 : Int) ∈ zs
    · have hd : decide ((1 : Int) ∈ zs) = true := by simpa using h1
      rw [hd] at TC
      have H1 := Lib.hid h1
      clear hin h1 hd
      have tok1 : True := trivial
      have tok2 : True := trivial
      have tok3 : True := trivial
      have tok4 : True := trivial
      go_enter Tryz.func26, Tryz.ntmps26
      go_wp2_with (first | (go_at_call 18; (with_reducible refine ((TI _).out).mono ?_); rintro e w' ⟨rfl, rfl⟩) | (have _t := tok1; go_at_call 42; (with_reducible refine (TC.out).mono ?_); rintro e w1 ⟨rfl, hb1⟩; clear tok1 _t; have hz1 := hb1.size; (try simp only [World.size_alloc, World.size_setCell, World.size_drew, World.size_drewN'] at hz1)))
      have hs1 := hb1.size
      clear TI TC
      go_loopw [22] (fun iv wr => RiRel w zs clB iv wr) (fun iv _ => (zs.length - intOf iv).toNat)
      case atStart => exact ⟨0, rfl, by omega, (by intro i hi; omega), (by intro i _ hi; omega), hb1⟩
      case round =>
        obtain ⟨k, rfl, hk, hq, hr, hb⟩ := hrel
        have hsw := hb.size
        by_cases hlt : k < zs.length
        · have hltc : (k : Int) < (zs.length : Int) := by omega
          obtain ⟨b, off, rfl, hbl, hcs⟩ := h.at (by omega)
          have c0 := (hb.cell (p := ⟨b, off + k, none⟩) hbl).trans (hcs k hlt)
          obtain ⟨y, hy⟩ : ∃ y, zs[k]?.getD 0 = y := ⟨_, rfl⟩
          have TK := fun W : World => Lib.hid (isClass_any y W)
          rw [hy] at c0
          cases hin : clB y
          · have hno := grB_no (zs := zs) (fun hp => by have := hp.cls k hlt; rw [hy, hin] at this; cases this)
            have HN := Lib.hid hno
            rw [hin] at TK
            clear hy hcs hq hr hin hno TM0
            go_wp2_with (first | (have _t := tok2; go_at_call 43; (with_reducible refine ((TK _).out).mono ?_); rintro e w2 ⟨rfl, hb2⟩; clear tok2 _t; have hz2 := hb2.size; (try simp only [World.size_alloc, World.size_setCell, World.size_drew, World.size_drewN'] at hz2)))
            go_ret
            exact ⟨ret_bool HN.out.symm, hb.trans (hb2.mono hsw)⟩
          · have HQ := Lib.hid (ri_step (Q := clB) hq (by rw [hy]; exact hin))
            rw [hin] at TK
            rcases k with _ | m
            · have HR := Lib.hid (ri_step2 hr (fun h0 => by omega))
              have e0 : ((0 : Nat) : Int) = 0 := rfl
              rw [e0] at hltc ⊢
              rw [Nat.add_zero] at c0
              clear hy hcs hq hr hin e0 TM0
              go_wp2_with (first | (have _t := tok2; go_at_call 43; (with_reducible refine ((TK _).out).mono ?_); rintro e w2 ⟨rfl, hb2⟩; clear tok2 _t; have hz2 := hb2.size; (try simp only [World.size_alloc, World.size_setCell, World.size_drew, World.size_drewN'] at hz2)))
              go_roundw
              case rel => exact ⟨0 + 1, by go_num, by omega, HQ.out, HR.out, hb.trans (hb2.mono hsw)⟩
              case measure => simp [intOf]; omega
            · have c1 := (hb.cell (p := ⟨b, off + m, none⟩) hbl).trans (hcs m (by omega))
              obtain ⟨x, hx⟩ : ∃ x, zs[m]?.getD 0 = x := ⟨_, rfl⟩
              rw [hx] at c1
              have hk0 : (0 : Int) < ((m + 1 : Nat) : Int) := by omega
              have C1 := Lib.hid (fun (W : World) (hW : Below wr.heap.size wr W) => (show W.cell? ⟨b, off + m, none⟩ = some (.int .i64 x) from (hW.cell (p := ⟨b, off + m, none⟩) (show b < wr.heap.size by omega)).trans c1))
              by_cases hxy : x < y
              · have HR := Lib.hid (ri_step2 hr (fun h0 => by rw [Nat.add_sub_cancel, hx, hy]; exact hxy))
                clear hy hx hcs hq hr hin TM0
                go_wp2_with (go_at_call 43; (with_reducible refine (TK _).out.mono ?_); rintro e w2 ⟨rfl, hb2⟩; have c2 := C1.out w2 hb2)
                go_roundw
                case rel => exact ⟨m + 1 + 1, by go_num, by omega, HQ.out, HR.out, hb.trans (hb2.mono hsw)⟩
                case measure => simp [intOf]; omega
              · have hno := grB_no (zs := zs) (fun hp => by
                  have := hp.ris (m + 1) (by omega) hlt
                  rw [Nat.add_sub_cancel, hx, hy] at this
                  exact hxy this)
                have HN := Lib.hid hno
                clear hy hx hcs hq hr hin hno TM0
                go_wp2_with (go_at_call 43; (with_reducible refine (TK _).out.mono ?_); rintro e w2 ⟨rfl, hb2⟩; have c2 := C1.out w2 hb2)
                go_ret
                exact ⟨ret_bool HN.out.symm, hb.trans (hb2.mono hsw)⟩
        · obtain rfl : k = zs.length := by omega
          have HQ := Lib.hid hq
          have HR := Lib.hid (show RiS zs from hr)
          have HY := Lib.hid (grB_yes (zs := zs))
          clear hq hr
          go_wp2_with fail
          go_loopw [46] (fun iv wr => GpO w zs iv wr) (fun iv _ => (zs.length - intOf iv).toNat)
          case atStart => exact ⟨0, rfl, by omega, (by intro i hi; omega), hb⟩
          case round =>
            obtain ⟨i, rfl, hi, hpo, hbo⟩ := hrel
            have hso := hbo.size
            by_cases hlt : i < zs.length
            · have hltc : (i : Int) < (zs.length : Int) := by omega
              obtain ⟨b, off, rfl, hbl, hcs⟩ := h.at (by omega)
              have c0 := (hbo.cell (p := ⟨b, off + i, none⟩) hbl).trans (hcs i hlt)
              have hcx := HQ.out i hlt
              obtain ⟨x, hx⟩ : ∃ x, zs[i]?.getD 0 = x := ⟨_, rfl⟩
              have HST := Lib.hid (gp_stepO (zs := zs) hpo)
              have HPR := Lib.hid (fun (hp : GrP zs) j hj => hp.prod i hlt j hj)
              rw [hx] at c0 hcx HST HPR
              have hxb := clB_bd hcx
              clear hpo hx hcx
              go_wp2_with fail
              go_loopw [52] (fun jv wr => GpI w zs x jv wr) (fun jv _ => (zs.length - intOf jv).toNat)
              case atStart => exact ⟨0, rfl, by omega, (by intro i hi; omega), hbo⟩
              case round =>
                obtain ⟨j, rfl, hj, hpi, hbi⟩ := hrel
                have hsi := hbi.size
                by_cases hjl : j < zs.length
                · have hjc : (j : Int) < (zs.length : Int) := by omega
                  have c1 := (hbi.cell (p := ⟨b, off + j, none⟩) hbl).trans (hcs j hjl)
                  have hcy := HQ.out j hjl
                  have HSI := Lib.hid (gp_step (zs := zs) (x := x) hpi)
                  have HPJ := Lib.hid (fun hp : GrP zs => HPR.out hp j hjl)
                  obtain ⟨y, hy⟩ : ∃ y, zs[j]?.getD 0 = y := ⟨_, rfl⟩
                  rw [hy] at c1 hcy HSI HPJ
                  have hyb := clB_bd hcy
                  have TP := fun W : World => Lib.hid (productClass_any x y W hxb.2 hyb.2 hyb.1)
                  have hvb := pcV_bd hxb.2 hyb.2
                  clear hpi hy hcy
                  have TM := fun (W : World) (hW : Below wr.heap.size wr W) => TM0 (pcV x y) W (hbi.trans (hW.mono hsi))
                  have HCV := Lib.hid (fun hv : pcV x y ∈ zs => (show clB (pcV x y) = true by obtain ⟨q, hq1, hq2⟩ := at_mem hv; rw [← hq2]; exact HQ.out q hq1))
                  generalize pcV x y = v at *
                  cases hcv : clB v
                  · have HN := Lib.hid (grB_no (zs := zs) (fun hp => by have := HCV.out (HPJ.out hp); rw [hcv] at this; cases this))
                    rw [hcv] at TP
                    simp only [Bool.false_eq_true, if_false] at TP
                    clear hcv TM0
                    go_wp2_with (first | (have _t := tok3; go_at_call 44; (with_reducible refine ((TP _).out).mono ?_); rintro e w3 ⟨rfl, hb3⟩; clear tok3 _t; have hz3 := hb3.size; (try simp only [World.size_alloc, World.size_setCell, World.size_drew, World.size_drewN'] at hz3)) | (have _t := tok4; go_at_call 42; (with_reducible refine ((TM _ hb3).out).mono ?_); rintro e w4 ⟨rfl, hb4⟩; clear tok4 _t; have hz4 := hb4.size; (try simp only [World.size_alloc, World.size_setCell, World.size_drew, World.size_drewN'] at hz4)))
                    go_ret
                    exact ⟨ret_bool HN.out.symm, hbi.trans (hb3.mono hsi)⟩
                  · rw [hcv] at TP
                    simp only [if_true] at TP
                    by_cases hvm : v ∈ zs
                    · have HJ := Lib.hid (HSI.out hvm)
                      have hd : decide (v ∈ zs) = true := by simpa using hvm
                      rw [hd] at TM
                      clear hcv TM0 hvm hd
                      go_wp2_with (first | (have _t := tok3; go_at_call 44; (with_reducible refine ((TP _).out).mono ?_); rintro e w3 ⟨rfl, hb3⟩; clear tok3 _t; have hz3 := hb3.size; (try simp only [World.size_alloc, World.size_setCell, World.size_drew, World.size_drewN'] at hz3)) | (have _t := tok4; go_at_call 42; (with_reducible refine ((TM _ hb3).out).mono ?_); rintro e w4 ⟨rfl, hb4⟩; clear tok4 _t; have hz4 := hb4.size; (try simp only [World.size_alloc, World.size_setCell, World.size_drew, World.size_drewN'] at hz4)))
                      go_roundw
                      case rel => exact ⟨j + 1, by go_num, by omega, HJ.out, hbi.trans ((Below.two hb3 hb4).mono hsi)⟩
                      case measure => simp [intOf]; omega
                    · have HN := Lib.hid (grB_no (zs := zs) (fun hp => hvm (HPJ.out hp)))
                      have hd : decide (v ∈ zs) = false := by simpa using hvm
                      rw [hd] at TM
                      clear hcv TM0 hvm hd
                      go_wp2_with (first | (have _t := tok3; go_at_call 44; (with_reducible refine ((TP _).out).mono ?_); rintro e w3 ⟨rfl, hb3⟩; clear tok3 _t; have hz3 := hb3.size; (try simp only [World.size_alloc, World.size_setCell, World.size_drew, World.size_drewN'] at hz3)) | (have _t := tok4; go_at_call 42; (with_reducible refine ((TM _ hb3).out).mono ?_); rintro e w4 ⟨rfl, hb4⟩; clear tok4 _t; have hz4 := hb4.size; (try simp only [World.size_alloc, World.size_setCell, World.size_drew, World.size_drewN'] at hz4)))
                      go_ret
                      exact ⟨ret_bool HN.out.symm, hbi.trans ((Below.two hb3 hb4).mono hsi)⟩
                · obtain rfl : j = zs.length := by omega
                  have HO := Lib.hid (HST.out hpi)
                  clear hpi
                  go_wp2_with fail
                  go_roundw
                  case rel => exact ⟨i + 1, by go_num, by omega, HO.out, hbi⟩
                  case measure => simp [intOf]; omega
            · obtain rfl : i = zs.length := by omega
              have HG := Lib.hid (HY.out ⟨hl, H1.out, HQ.out, HR.out, hpo⟩)
              clear hpo
              go_wp2_with fail
              go_ret
              exact ⟨ret_bool HG.out.symm, hbo⟩
    · have hd : decide ((1 : Int) ∈ zs) = false := by simpa using h1
      rw [hd] at TC
      have HN := Lib.hid (grB_no (zs := zs) (fun hp => h1 hp.one))
      clear hin h1 hd TM0
      have tok1 : True := trivial
      have tok2 : True := trivial
      have tok3 : True := trivial
      have tok4 : True := trivial
      go_enter Tryz.func26, Tryz.ntmps26
      go_wp2_with (first | (go_at_call 18; (with_reducible refine ((TI _).out).mono ?_); rintro e w' ⟨rfl, rfl⟩) | (have _t := tok1; go_at_call 42; (with_reducible refine (TC.out).mono ?_); rintro e w1 ⟨rfl, hb1⟩; clear tok1 _t; have hz1 := hb1.size; (try simp only [World.size_alloc, World.size_setCell, World.size_drew, World.size_drewN'] at hz1)))
      go_ret
      exact ⟨ret_bool HN.out.symm, hb1⟩
  · have hin : inB (zs.length : Int) 1 64 = false := by simp [inB]; omega
    rw [hin] at TI
    have HN := Lib.hid (grB_no (zs := zs) (fun hp => hl hp.len))
    clear hin TM0
    have tok1 : True := trivial
    have tok2 : True := trivial
    have tok3 : True := trivial
    have tok4 : True := trivial
    go_enter Tryz.func26, Tryz.ntmps26
    go_wp2_with (first | (go_at_call 18; (with_reducible refine ((TI _).out).mono ?_); rintro e w' ⟨rfl, rfl⟩) | (have _t := tok1; go_at_call 42; (with_reducible refine (TC.out).mono ?_); rintro e w1 ⟨rfl, hb1⟩; clear tok1 _t; have hz1 := hb1.size; (try simp only [World.size_alloc, World.size_setCell, World.size_drew, World.size_drewN'] at hz1)))
    go_ret
    exact ⟨ret_bool HN.out.symm, Below.refl _ _⟩
theorem GrP.ls {zs : List Int} (h : GrP zs) : LsP zs := ⟨h.cls, h.len⟩
theorem GrP.rs {zs : List Int} (h : GrP zs) : RsP zs := ⟨fun i hi => inB_iff.2 (clB_bd (h.cls i hi)).2, h.ris⟩
theorem lsB_dec {zs : List Int} (h : lsB zs = true) : LsP zs := Classical.byContradiction (fun g => by rw [lsB_no g] at h; exact Bool.noConfusion h)
theorem rsB_dec {zs : List Int} (h : rsB zs = true) : RsP zs := Classical.byContradiction (fun g => by rw [rsB_no g] at h; exact Bool.noConfusion h)
theorem dsIsGroup_any (a : Option Addr) (c : Nat) (zs : List Int) (w : World) (h : Sx w a zs.length c zs) : Calls Tryz.prog 23 #[.slice a zs.length c] w fun e w' => e = .returned (.bool (grB zs)) ∧ Below w.heap.size w w' := by
  have T1 := Lib.hid (dsList_any a c zs w h)
  have T2 := fun (W : World) (hW : Below w.heap.size w W) => Lib.hid (l1Rising_any a c zs W (h.below hW))
  have T3 := fun (W : World) (hW : Below w.heap.size w W) => Lib.hid (l1Has_any a c zs 1 W (h.below hW))
  have TM0 := fun (v : Int) (W : World) (hW : Below w.heap.size w W) => Lib.hid (l1Has_any a c zs v W (h.below hW))
  have hnot : ∀ (x : Bool) (w : World), (Op.unary .not (.bool x)).run Tryz.prog w = .ok (.bool (!x)) w := fun _ _ => rfl
  have hcap := h.cap
  have hmax := h.max
  unfold maxLen at hmax
  cases hl : lsB zs
  · have HN := Lib.hid (grB_no (zs := zs) (fun hp => by rw [lsB_yes hp.ls] at hl; cases hl))
    rw [hl] at T1
    clear hl TM0
    have tok1 : True := trivial
    have tok2 : True := trivial
    have tok3 : True := trivial
    have tok4 : True := trivial
    have tok5 : True := trivial
    go_enter Tryz.func23, Tryz.ntmps23
    go_wp2_with (first | (have _t := tok1; go_at_call 33; (with_reducible refine (T1.out).mono ?_); rintro e w1 ⟨rfl, hb1⟩; clear tok1 _t; have hz1 := hb1.size; (try simp only [World.size_alloc, World.size_setCell, World.size_drew, World.size_drewN'] at hz1)) | (have _t := tok2; go_at_call 34; (with_reducible refine ((T2 _ hb1).out).mono ?_); rintro e w2 ⟨rfl, hb2⟩; clear tok2 _t; have hz2 := hb2.size; (try simp only [World.size_alloc, World.size_setCell, World.size_drew, World.size_drewN'] at hz2)) | (have _t := tok3; go_at_call 35; (with_reducible refine ((T3 _ (Below.two hb1 hb2)).out).mono ?_); rintro e w3 ⟨rfl, hb3⟩; clear tok3 _t; have hz3 := hb3.size; (try simp only [World.size_alloc, World.size_setCell, World.size_drew, World.size_drewN'] at hz3)))
    go_ret
    exact ⟨ret_bool HN.out.symm, hb1⟩
  · rw [hl] at T1
    cases hr : rsB zs
    · have HN := Lib.hid (grB_no (zs := zs) (fun hp => by rw [rsB_yes hp.rs] at hr; cases hr))
      rw [hr] at T2
      clear hl hr TM0
      have tok1 : True := trivial
      have tok2 : True := trivial
      have tok3 : True := trivial
      have tok4 : True := trivial
      have tok5 : True := trivial
      go_enter Tryz.func23, Tryz.ntmps23
      go_wp2_with (first | (have _t := tok1; go_at_call 33; (with_reducible refine (T1.out).mono ?_); rintro e w1 ⟨rfl, hb1⟩; clear tok1 _t; have hz1 := hb1.size; (try simp only [World.size_alloc, World.size_setCell, World.size_drew, World.size_drewN'] at hz1)) | (have _t := tok2; go_at_call 34; (with_reducible refine ((T2 _ hb1).out).mono ?_); rintro e w2 ⟨rfl, hb2⟩; clear tok2 _t; have hz2 := hb2.size; (try simp only [World.size_alloc, World.size_setCell, World.size_drew, World.size_drewN'] at hz2)) | (have _t := tok3; go_at_call 35; (with_reducible refine ((T3 _ (Below.two hb1 hb2)).out).mono ?_); rintro e w3 ⟨rfl, hb3⟩; clear tok3 _t; have hz3 := hb3.size; (try simp only [World.size_alloc, World.size_setCell, World.size_drew, World.size_drewN'] at hz3)))
      go_ret
      exact ⟨ret_bool HN.out.symm, Below.two hb1 hb2⟩
    · rw [hr] at T2
      have hls := lsB_dec hl
      have hrs := rsB_dec hr
      clear hl hr
      by_cases h1 : (1 : Int) ∈ zs
      · have hd : decide ((1 : Int) ∈ zs) = true := by simpa using h1
        rw [hd] at T3
        have HQ := Lib.hid hls.1
        have HY := Lib.hid (fun hpo => grB_yes (zs := zs) ⟨hls.2, h1, hls.1, hrs.2, hpo⟩)
        clear h1 hd hls hrs
        have tok1 : True := trivial
        have tok2 : True := trivial
        have tok3 : True := trivial
        have tok4 : True := trivial
        have tok5 : True := trivial
        go_enter Tryz.func23, Tryz.ntmps23
        go_wp2_with (first | (have _t := tok1; go_at_call 33; (with_reducible refine (T1.out).mono ?_); rintro e w1 ⟨rfl, hb1⟩; clear tok1 _t; have hz1 := hb1.size; (try simp only [World.size_alloc, World.size_setCell, World.size_drew, World.size_drewN'] at hz1)) | (have _t := tok2; go_at_call 34; (with_reducible refine ((T2 _ hb1).out).mono ?_); rintro e w2 ⟨rfl, hb2⟩; clear tok2 _t; have hz2 := hb2.size; (try simp only [World.size_alloc, World.size_setCell, World.size_drew, World.size_drewN'] at hz2)) | (have _t := tok3; go_at_call 35; (with_reducible refine ((T3 _ (Below.two hb1 hb2)).out).mono ?_); rintro e w3 ⟨rfl, hb3⟩; clear tok3 _t; have hz3 := hb3.size; (try simp only [World.size_alloc, World.size_setCell, World.size_drew, World.size_drewN'] at hz3)))
        have hb123 := Below.two (Below.two hb1 hb2) hb3
        clear T1 T2 T3
        go_loopw [22] (fun iv wr => GpO w zs iv wr) (fun iv _ => (zs.length - intOf iv).toNat)
        case atStart => exact ⟨0, rfl, by omega, (by intro i hi; omega), hb123⟩
        case round =>
          obtain ⟨i, rfl, hi, hpo, hbo⟩ := hrel
          have hso := hbo.size
          by_cases hlt : i < zs.length
          · have hltc : (i : Int) < (zs.length : Int) := by omega
            obtain ⟨b, off, rfl, hbl, hcs⟩ := h.at (by omega)
            have c0 := (hbo.cell (p := ⟨b, off + i, none⟩) hbl).trans (hcs i hlt)
            have hcx := HQ.out i hlt
            obtain ⟨x, hx⟩ : ∃ x, zs[i]?.getD 0 = x := ⟨_, rfl⟩
            have HST := Lib.hid (gp_stepO (zs := zs) hpo)
            have HPR := Lib.hid (fun (hp : GrP zs) j hj => hp.prod i hlt j hj)
            rw [hx] at c0 hcx HST HPR
            have hxb := clB_bd hcx
            clear hpo hx hcx
            go_wp2_with fail
            go_loopw [28] (fun jv wr => GpI w zs x jv wr) (fun jv _ => (zs.length - intOf jv).toNat)
            case atStart => exact ⟨0, rfl, by omega, (by intro i hi; omega), hbo⟩
            case round =>
              obtain ⟨j, rfl, hj, hpi, hbi⟩ := hrel
              have hsi := hbi.size
              by_cases hjl : j < zs.length
              · have hjc : (j : Int) < (zs.length : Int) := by omega
                have c1 := (hbi.cell (p := ⟨b, off + j, none⟩) hbl).trans (hcs j hjl)
                have hcy := HQ.out j hjl
                have HSI := Lib.hid (gp_step (zs := zs) (x := x) hpi)
                have HPJ := Lib.hid (fun hp : GrP zs => HPR.out hp j hjl)
                obtain ⟨y, hy⟩ : ∃ y, zs[j]?.getD 0 = y := ⟨_, rfl⟩
                rw [hy] at c1 hcy HSI HPJ
                have hyb := clB_bd hcy
                have TP := fun W : World => Lib.hid (dsProduct_any x y W hxb.2 hyb.2 hyb.1)
                have hvb := pcV_bd hxb.2 hyb.2
                clear hpi hy hcy
                have TM := fun (W : World) (hW : Below wr.heap.size wr W) => TM0 (pcV x y) W (hbi.trans (hW.mono hsi))
                generalize pcV x y = v at *
                by_cases hvm : v ∈ zs
                · have HJ := Lib.hid (HSI.out hvm)
                  have hd : decide (v ∈ zs) = true := by simpa using hvm
                  rw [hd] at TM
                  clear TM0 hvm hd
                  go_wp2_with (first | (have _t := tok4; go_at_call 36; (with_reducible refine ((TP _).out).mono ?_); rintro e w4 ⟨rfl, hb4⟩; clear tok4 _t; have hz4 := hb4.size; (try simp only [World.size_alloc, World.size_setCell, World.size_drew, World.size_drewN'] at hz4)) | (have _t := tok5; go_at_call 35; (with_reducible refine ((TM _ hb4).out).mono ?_); rintro e w5 ⟨rfl, hb5⟩; clear tok5 _t; have hz5 := hb5.size; (try simp only [World.size_alloc, World.size_setCell, World.size_drew, World.size_drewN'] at hz5)))
                  go_roundw
                  case rel => exact ⟨j + 1, by go_num, by omega, HJ.out, hbi.trans ((Below.two hb4 hb5).mono hsi)⟩
                  case measure => simp [intOf]; omega
                · have HN := Lib.hid (grB_no (zs := zs) (fun hp => hvm (HPJ.out hp)))
                  have hd : decide (v ∈ zs) = false := by simpa using hvm
                  rw [hd] at TM
                  clear TM0 hvm hd
                  go_wp2_with (first | (have _t := tok4; go_at_call 36; (with_reducible refine ((TP _).out).mono ?_); rintro e w4 ⟨rfl, hb4⟩; clear tok4 _t; have hz4 := hb4.size; (try simp only [World.size_alloc, World.size_setCell, World.size_drew, World.size_drewN'] at hz4)) | (have _t := tok5; go_at_call 35; (with_reducible refine ((TM _ hb4).out).mono ?_); rintro e w5 ⟨rfl, hb5⟩; clear tok5 _t; have hz5 := hb5.size; (try simp only [World.size_alloc, World.size_setCell, World.size_drew, World.size_drewN'] at hz5)))
                  go_ret
                  exact ⟨ret_bool HN.out.symm, hbi.trans ((Below.two hb4 hb5).mono hsi)⟩
              · obtain rfl : j = zs.length := by omega
                have HO := Lib.hid (HST.out hpi)
                clear hpi
                go_wp2_with fail
                go_roundw
                case rel => exact ⟨i + 1, by go_num, by omega, HO.out, hbi⟩
                case measure => simp [intOf]; omega
          · obtain rfl : i = zs.length := by omega
            have HG := Lib.hid (HY.out hpo)
            clear hpo
            go_wp2_with fail
            go_ret
            exact ⟨ret_bool HG.out.symm, hbo⟩
      · have hd : decide ((1 : Int) ∈ zs) = false := by simpa using h1
        rw [hd] at T3
        have HN := Lib.hid (grB_no (zs := zs) (fun hp => h1 hp.one))
        clear h1 hd TM0 hls hrs
        have tok1 : True := trivial
        have tok2 : True := trivial
        have tok3 : True := trivial
        have tok4 : True := trivial
        have tok5 : True := trivial
        go_enter Tryz.func23, Tryz.ntmps23
        go_wp2_with (first | (have _t := tok1; go_at_call 33; (with_reducible refine (T1.out).mono ?_); rintro e w1 ⟨rfl, hb1⟩; clear tok1 _t; have hz1 := hb1.size; (try simp only [World.size_alloc, World.size_setCell, World.size_drew, World.size_drewN'] at hz1)) | (have _t := tok2; go_at_call 34; (with_reducible refine ((T2 _ hb1).out).mono ?_); rintro e w2 ⟨rfl, hb2⟩; clear tok2 _t; have hz2 := hb2.size; (try simp only [World.size_alloc, World.size_setCell, World.size_drew, World.size_drewN'] at hz2)) | (have _t := tok3; go_at_call 35; (with_reducible refine ((T3 _ (Below.two hb1 hb2)).out).mono ?_); rintro e w3 ⟨rfl, hb3⟩; clear tok3 _t; have hz3 := hb3.size; (try simp only [World.size_alloc, World.size_setCell, World.size_drew, World.size_drewN'] at hz3)))
        go_ret
        exact ⟨ret_bool HN.out.symm, Below.two (Below.two hb1 hb2) hb3⟩
/-! ### ranks -/
noncomputable def rkV (zs : List Int) : Int × Bool := if grB zs = true then (((Go.Lib.bitLen zs.length : Nat) : Int) - 1, true) else (0, false)
theorem bit_half : ∀ k : Nat, 1 ≤ k → k ≤ 64 → Go.Lib.bitLen k = Go.Lib.bitLen (k / 2) + 1 := by
  have h : ∀ k : Fin 65, 1 ≤ k.val → Go.Lib.bitLen k.val = Go.Lib.bitLen (k.val / 2) + 1 := by decide
  intro k h1 h2
  exact h ⟨k, by omega⟩ h1
theorem bit_le : ∀ k : Nat, k ≤ 64 → Go.Lib.bitLen k ≤ 7 := by
  have h : ∀ k : Fin 65, Go.Lib.bitLen k.val ≤ 7 := by decide
  intro k h2
  exact h ⟨k, by omega⟩
theorem bit_one : Go.Lib.bitLen 1 = 1 := by decide
theorem rkV_bd (zs : List Int) : -1 ≤ (rkV zs).1 ∧ (rkV zs).1 ≤ 6 := by
  unfold rkV
  split
  · rename_i h
    have := bit_le zs.length (grB_iff.1 h).len.2
    simp; omega
  · simp
theorem RankOfClasses_any (a : Option Addr) (c : Nat) (zs : List Int) (w : World) (h : Sx w a zs.length c zs) : Calls Tryz.prog 20 #[.slice a zs.length c] w fun e w' => e = .returned (.tuple #[.int .i64 (rkV zs).1, .bool (rkV zs).2]) ∧ Below w.heap.size w w' := by
  have T1 := Lib.hid (isClassGroup_any a c zs w h)
  have hnot : ∀ (x : Bool) (w : World), (Op.unary .not (.bool x)).run Tryz.prog w = .ok (.bool (!x)) w := fun _ _ => rfl
  unfold rkV
  cases hg : grB zs
  · rw [hg] at T1
    simp only [Bool.false_eq_true, if_false]
    clear hg h
    have TL := trivial
    have tok1 : True := trivial
    go_enter Tryz.func20, Tryz.ntmps20
    go_wp2_with (first | (have _t := tok1; go_at_call 26; (with_reducible refine (T1.out).mono ?_); rintro e w1 ⟨rfl, hb1⟩; clear tok1 _t; have hz1 := hb1.size; (try simp only [World.size_alloc, World.size_setCell, World.size_drew, World.size_drewN'] at hz1)) | (go_at_call 27; (with_reducible refine ((TL _).out).mono ?_); rintro e w' ⟨rfl, rfl⟩))
    go_ret2
    exact ⟨rfl, hb1⟩
  · rw [hg] at T1
    simp only [if_true]
    have hgp := (grB_iff.1 hg).len
    have hbl := bit_le zs.length hgp.2
    have TL := fun W : World => Lib.hid (len_any zs.length W (by omega) (by omega))
    simp only [Int.toNat_natCast] at TL
    generalize Go.Lib.bitLen zs.length = L at *
    clear hg h
    have tok1 : True := trivial
    go_enter Tryz.func20, Tryz.ntmps20
    go_wp2_with (first | (have _t := tok1; go_at_call 26; (with_reducible refine (T1.out).mono ?_); rintro e w1 ⟨rfl, hb1⟩; clear tok1 _t; have hz1 := hb1.size; (try simp only [World.size_alloc, World.size_setCell, World.size_drew, World.size_drewN'] at hz1)) | (go_at_call 27; (with_reducible refine ((TL _).out).mono ?_); rintro e w' ⟨rfl, rfl⟩))
    go_ret2
    exact ⟨rfl, hb1⟩
def RkRel (w : World) (L : Nat) (rv kv : Value) (wr : World) : Prop := ∃ r k : Nat, rv = .int .i64 r ∧ kv = .int .i64 k ∧ 1 ≤ k ∧ k ≤ 64 ∧ r + Go.Lib.bitLen k = L ∧ Below w.heap.size w wr
theorem sRankOfClasses_any (a : Option Addr) (c : Nat) (zs : List Int) (w : World) (h : Sx w a zs.length c zs) : Calls Tryz.prog 17 #[.slice a zs.length c] w fun e w' => e = .returned (.tuple #[.int .i64 (rkV zs).1, .bool (rkV zs).2]) ∧ Below w.heap.size w w' := by
  have T1 := Lib.hid (dsIsGroup_any a c zs w h)
  have hnot : ∀ (x : Bool) (w : World), (Op.unary .not (.bool x)).run Tryz.prog w = .ok (.bool (!x)) w := fun _ _ => rfl
  unfold rkV
  cases hg : grB zs
  · rw [hg] at T1
    simp only [Bool.false_eq_true, if_false]
    clear hg h
    have tok1 : True := trivial
    go_enter Tryz.func17, Tryz.ntmps17
    go_wp2_with (first | (have _t := tok1; go_at_call 23; (with_reducible refine (T1.out).mono ?_); rintro e w1 ⟨rfl, hb1⟩; clear tok1 _t; have hz1 := hb1.size; (try simp only [World.size_alloc, World.size_setCell, World.size_drew, World.size_drewN'] at hz1)))
    go_ret2
    exact ⟨rfl, hb1⟩
  · rw [hg] at T1
    simp only [if_true]
    have hgp := (grB_iff.1 hg).len
    have hbl := bit_le zs.length hgp.2
    clear hg h
    have tok1 : True := trivial
    go_enter Tryz.func17, Tryz.ntmps17
    go_wp2_with (first | (have _t := tok1; go_at_call 23; (with_reducible refine (T1.out).mono ?_); rintro e w1 ⟨rfl, hb1⟩; clear tok1 _t; have hz1 := hb1.size; (try simp only [World.size_alloc, World.size_setCell, World.size_drew, World.size_drewN'] at hz1)))
    clear T1
    go_loopw [4, 5] (fun rv kv wr => RkRel w (Go.Lib.bitLen zs.length) rv kv wr) (fun _ kv _ => (intOf kv).toNat)
    case atStart => exact ⟨0, zs.length, rfl, rfl, hgp.1, hgp.2, by omega, hb1⟩
    case round =>
      obtain ⟨r, k, rfl, rfl, hk1, hk2, hrk, hb⟩ := hrel
      by_cases h1 : 1 < k
      · have hk1c : (1 : Int) < (k : Int) := by omega
        have hh := bit_half k hk1 hk2
        have HR := Lib.hid (show (r + 1) + Go.Lib.bitLen (k / 2) = Go.Lib.bitLen zs.length by omega)
        have hr9 : r ≤ 7 := by omega
        clear hrk hh
        go_wp2_with fail
        go_roundw
        case rel => exact ⟨r + 1, k / 2, by go_num, by first | rfl | (congr 1), by omega, by omega, HR.out, hb⟩
        case measure => simp [intOf]; omega
      · obtain rfl : k = 1 := by omega
        rw [bit_one] at hrk
        have HR := Lib.hid hrk
        have hr9 : r ≤ 7 := by omega
        clear hrk
        go_wp2_with fail
        go_ret2
        exact ⟨by rw [show ((Go.Lib.bitLen zs.length : Nat) : Int) - 1 = r by have := HR.out; omega]; rfl, hb⟩
noncomputable def srW (l0 l1 : List Int × Bool) : Int × Int × Bool := if (l0.2 && l1.2) = true then (if ((rkV l0.1).2 && (rkV l1.1).2) = true then ((rkV l0.1).1, (rkV l1.1).1, true) else (0, 0, false)) else (0, 0, false)
noncomputable def srV (a b : Int) : Int × Int × Bool := srW (seV a b false) (seV a b true)
theorem srV_bd (a b : Int) : (-1 ≤ (srV a b).1 ∧ (srV a b).1 ≤ 6) ∧ (-1 ≤ (srV a b).2.1 ∧ (srV a b).2.1 ≤ 6) := by
  have h1 := rkV_bd (seV a b false).1
  have h2 := rkV_bd (seV a b true).1
  unfold srV srW
  split
  · split
    · exact ⟨h1, h2⟩
    · simp
  · simp
noncomputable def sqV (a b : Int) : Int × Int × Bool := if tcB a b = true then srV a b else (0, 0, false)
noncomputable def urV (a b : Int) : Int × Bool := if (srV a b).2.2 = true then ((srV a b).1 + (srV a b).2.1 - 2, true) else (0, false)
noncomputable def upV (a b : Int) : Int × Bool := if tcB a b = true then urV a b else (0, false)
theorem selmerRanks_any (a b : Int) (w : World) (h : tcB a b = true) : Calls Tryz.prog 13 #[.agg #[.int .i64 a, .int .i64 b]] w fun e w' =>
    e = .returned (.tuple #[.int .i64 (srV a b).1, .int .i64 (srV a b).2.1, .bool (srV a b).2.2]) ∧ Below w.heap.size w w' := by
  have T1 := fun W : World => Lib.hid (selmer_any a b false W h)
  have T2 := fun W : World => Lib.hid (selmer_any a b true W h)
  have hnot : ∀ (x : Bool) (w : World), (Op.unary .not (.bool x)).run Tryz.prog w = .ok (.bool (!x)) w := fun _ _ => rfl
  unfold srV
  unfold NewJ at T1 T2
  obtain ⟨⟨z0, o0⟩, hv0⟩ : ∃ v, seV a b false = v := ⟨_, rfl⟩
  obtain ⟨⟨z1, o1⟩, hv1⟩ : ∃ v, seV a b true = v := ⟨_, rfl⟩
  rw [hv0] at T1 ⊢
  rw [hv1] at T2 ⊢
  clear hv0 hv1 h
  dsimp only at T1 T2
  unfold srW
  have TR0 := fun (x : Option Addr) (y : Nat) (W : World) => RankOfClasses_any x y z0 W
  have TR1 := fun (x : Option Addr) (y : Nat) (W : World) => RankOfClasses_any x y z1 W
  obtain ⟨⟨r0, g0⟩, hr0⟩ : ∃ v, rkV z0 = v := ⟨_, rfl⟩
  obtain ⟨⟨r1, g1⟩, hr1⟩ : ∃ v, rkV z1 = v := ⟨_, rfl⟩
  simp only [hr0] at TR0 ⊢
  simp only [hr1] at TR1 ⊢
  clear hr0 hr1
  have TR0 := Lib.hid TR0
  have TR1 := Lib.hid TR1
  cases o0 <;> cases o1
  case true.true =>
    cases g0 <;> cases g1
    all_goals
      have tok1 : True := trivial
      have tok2 : True := trivial
      have tok3 : True := trivial
      have tok4 : True := trivial
      go_enter Tryz.func13, Tryz.ntmps13
      go_upto_region 1 with fail
      refine chk (fun W => Below w.heap.size w W ∧ W.heap[w.heap.size]? = some (.cells #[.int .i64 a, .int .i64 b] 26 (0, 0))) (by refine ⟨?_, ?_⟩ <;> (repeat' first | (with_reducible first | assumption | (apply Ne.symm; assumption) | apply Nat.le_refl | apply Nat.le_add_right | apply zL | apply zRf | apply Wx.box | apply Wx.box4 | apply zWa | apply Wx.drew | apply zWn | apply bx_drew | apply bx_drewN | apply bx_set3 | apply bx_set2 | apply bx_set4 | apply bx_set1) | ((with_reducible apply bx_new); (focus (go_size; done))) | (with_reducible first | apply zOl | apply zFa | apply zDn | apply zDr | apply zAl | apply zSt | refine zVi (by assumption) ?_ ?_) | go_size | omega)) ?_
      rintro w9 ⟨hB9, H_E_9⟩
      obtain ⟨k_E_9_0, k_E_9_1, f_E_9, l_E_9⟩ := bk2 H_E_9
      replace H_E_9 := Lib.hid H_E_9
      go_upto_region 2 with (first | (have _t := tok1; go_at_call 19; (with_reducible refine ((T1 _).out).mono ?_); rintro e w1 ⟨u0, B0, rfl, hu0, hB0, hb1⟩; clear tok1 _t; have hz1 := hb1.size; (try simp only [World.size_alloc, World.size_setCell, World.size_drew, World.size_drewN'] at hz1)) | (have _t := tok2; go_at_call 19; (with_reducible refine ((T2 _).out).mono ?_); rintro e w2 ⟨u1, B1, rfl, hu1, hB1, hb2⟩; clear tok2 _t; have hz2 := hb2.size; (try simp only [World.size_alloc, World.size_setCell, World.size_drew, World.size_drewN'] at hz2)))
      obtain ⟨a0, c0, rfl, hx0, -⟩ := Sx.of_owns hu0
      clear hu0
      have H_E_1 := (hb1.block (w.heap.size) (blk_lt' H_E_9.out)).trans H_E_9.out
      clear k_E_9_0 k_E_9_1 f_E_9 H_E_9
      obtain ⟨k_E_1_0, k_E_1_1, f_E_1, l_E_1⟩ := bk2 H_E_1
      replace H_E_1 := Lib.hid H_E_1
      have hB1 : Below w.heap.size w w1 := below_via hb1 (by assumption) (by go_size)
      go_upto_region 3 with (first | (have _t := tok1; go_at_call 19; (with_reducible refine ((T1 _).out).mono ?_); rintro e w1 ⟨u0, B0, rfl, hu0, hB0, hb1⟩; clear tok1 _t; have hz1 := hb1.size; (try simp only [World.size_alloc, World.size_setCell, World.size_drew, World.size_drewN'] at hz1)) | (have _t := tok2; go_at_call 19; (with_reducible refine ((T2 _).out).mono ?_); rintro e w2 ⟨u1, B1, rfl, hu1, hB1, hb2⟩; clear tok2 _t; have hz2 := hb2.size; (try simp only [World.size_alloc, World.size_setCell, World.size_drew, World.size_drewN'] at hz2)))
      obtain ⟨a1, c1, rfl, hx1, -⟩ := Sx.of_owns hu1
      clear hu1
      have H_E_2 := (hb2.block (w.heap.size) (blk_lt' H_E_1.out)).trans H_E_1.out
      clear k_E_1_0 k_E_1_1 f_E_1 H_E_1
      obtain ⟨k_E_2_0, k_E_2_1, f_E_2, l_E_2⟩ := bk2 H_E_2
      replace H_E_2 := Lib.hid H_E_2
      have hB2 : Below w.heap.size w w2 := below_via hb2 (by assumption) (by go_size)
      have hx02 := hx0.below hb2
      have T3 := fun (W : World) (hW : Below w2.heap.size w2 W) => Lib.hid (TR0.out a0 c0 W (hx02.below hW))
      have T4 := fun (W : World) (hW : Below w2.heap.size w2 W) => Lib.hid (TR1.out a1 c1 W (hx1.below hW))
      clear TR0 TR1
      go_wp2_with (first | (have _t := tok3; go_at_call 20; (with_reducible refine ((T3 _ (Below.refl _ _)).out).mono ?_); rintro e w3 ⟨rfl, hb3⟩; clear tok3 _t; have hz3 := hb3.size; (try simp only [World.size_alloc, World.size_setCell, World.size_drew, World.size_drewN'] at hz3)) | (have _t := tok4; go_at_call 20; (with_reducible refine ((T4 _ hb3).out).mono ?_); rintro e w4 ⟨rfl, hb4⟩; clear tok4 _t; have hz4 := hb4.size; (try simp only [World.size_alloc, World.size_setCell, World.size_drew, World.size_drewN'] at hz4)))
      go_ret3
      exact ⟨rfl, below_via (Below.two hb3 hb4) hB2 (by go_size)⟩
  all_goals
    have tok1 : True := trivial
    have tok2 : True := trivial
    have tok3 : True := trivial
    have tok4 : True := trivial
    go_enter Tryz.func13, Tryz.ntmps13
    go_upto_region 1 with fail
    refine chk (fun W => Below w.heap.size w W ∧ W.heap[w.heap.size]? = some (.cells #[.int .i64 a, .int .i64 b] 26 (0, 0))) (by refine ⟨?_, ?_⟩ <;> (repeat' first | (with_reducible first | assumption | (apply Ne.symm; assumption) | apply Nat.le_refl | apply Nat.le_add_right | apply zL | apply zRf | apply Wx.box | apply Wx.box4 | apply zWa | apply Wx.drew | apply zWn | apply bx_drew | apply bx_drewN | apply bx_set3 | apply bx_set2 | apply bx_set4 | apply bx_set1) | ((with_reducible apply bx_new); (focus (go_size; done))) | (with_reducible first | apply zOl | apply zFa | apply zDn | apply zDr | apply zAl | apply zSt | refine zVi (by assumption) ?_ ?_) | go_size | omega)) ?_
    rintro w9 ⟨hB9, H_E_9⟩
    obtain ⟨k_E_9_0, k_E_9_1, f_E_9, l_E_9⟩ := bk2 H_E_9
    replace H_E_9 := Lib.hid H_E_9
    go_upto_region 2 with (first | (have _t := tok1; go_at_call 19; (with_reducible refine ((T1 _).out).mono ?_); rintro e w1 ⟨u0, B0, rfl, hu0, hB0, hb1⟩; clear tok1 _t; have hz1 := hb1.size; (try simp only [World.size_alloc, World.size_setCell, World.size_drew, World.size_drewN'] at hz1)) | (have _t := tok2; go_at_call 19; (with_reducible refine ((T2 _).out).mono ?_); rintro e w2 ⟨u1, B1, rfl, hu1, hB1, hb2⟩; clear tok2 _t; have hz2 := hb2.size; (try simp only [World.size_alloc, World.size_setCell, World.size_drew, World.size_drewN'] at hz2)))
    have H_E_1 := (hb1.block (w.heap.size) (blk_lt' H_E_9.out)).trans H_E_9.out
    clear k_E_9_0 k_E_9_1 f_E_9 H_E_9
    obtain ⟨k_E_1_0, k_E_1_1, f_E_1, l_E_1⟩ := bk2 H_E_1
    replace H_E_1 := Lib.hid H_E_1
    have hB1 : Below w.heap.size w w1 := below_via hb1 (by assumption) (by go_size)
    go_upto_region 3 with (first | (have _t := tok1; go_at_call 19; (with_reducible refine ((T1 _).out).mono ?_); rintro e w1 ⟨u0, B0, rfl, hu0, hB0, hb1⟩; clear tok1 _t; have hz1 := hb1.size; (try simp only [World.size_alloc, World.size_setCell, World.size_drew, World.size_drewN'] at hz1)) | (have _t := tok2; go_at_call 19; (with_reducible refine ((T2 _).out).mono ?_); rintro e w2 ⟨u1, B1, rfl, hu1, hB1, hb2⟩; clear tok2 _t; have hz2 := hb2.size; (try simp only [World.size_alloc, World.size_setCell, World.size_drew, World.size_drewN'] at hz2)))
    have H_E_2 := (hb2.block (w.heap.size) (blk_lt' H_E_1.out)).trans H_E_1.out
    clear k_E_1_0 k_E_1_1 f_E_1 H_E_1
    obtain ⟨k_E_2_0, k_E_2_1, f_E_2, l_E_2⟩ := bk2 H_E_2
    replace H_E_2 := Lib.hid H_E_2
    have hB2 : Below w.heap.size w w2 := below_via hb2 (by assumption) (by go_size)
    go_wp2_with fail
    go_ret3
    exact ⟨rfl, hB2⟩
theorem rkSelmer_any (a b : Int) (w : World) (h : tcB a b = true) : Calls Tryz.prog 11 #[.agg #[.int .i64 a, .int .i64 b]] w fun e w' =>
    e = .returned (.tuple #[.int .i64 (srV a b).1, .int .i64 (srV a b).2.1, .bool (srV a b).2.2]) ∧ Below w.heap.size w w' := by
  have T1 := fun W : World => Lib.hid (dsSelmer_any a b false W h)
  have T2 := fun W : World => Lib.hid (dsSelmer_any a b true W h)
  have hnot : ∀ (x : Bool) (w : World), (Op.unary .not (.bool x)).run Tryz.prog w = .ok (.bool (!x)) w := fun _ _ => rfl
  unfold srV
  unfold NewJ at T1 T2
  obtain ⟨⟨z0, o0⟩, hv0⟩ : ∃ v, seV a b false = v := ⟨_, rfl⟩
  obtain ⟨⟨z1, o1⟩, hv1⟩ : ∃ v, seV a b true = v := ⟨_, rfl⟩
  rw [hv0] at T1 ⊢
  rw [hv1] at T2 ⊢
  clear hv0 hv1 h
  dsimp only at T1 T2
  unfold srW
  have TR0 := fun (x : Option Addr) (y : Nat) (W : World) => sRankOfClasses_any x y z0 W
  have TR1 := fun (x : Option Addr) (y : Nat) (W : World) => sRankOfClasses_any x y z1 W
  obtain ⟨⟨r0, g0⟩, hr0⟩ : ∃ v, rkV z0 = v := ⟨_, rfl⟩
  obtain ⟨⟨r1, g1⟩, hr1⟩ : ∃ v, rkV z1 = v := ⟨_, rfl⟩
  simp only [hr0] at TR0 ⊢
  simp only [hr1] at TR1 ⊢
  clear hr0 hr1
  have TR0 := Lib.hid TR0
  have TR1 := Lib.hid TR1
  cases o0 <;> cases o1
  case true.true =>
    cases g0 <;> cases g1
    all_goals
      have tok1 : True := trivial
      have tok2 : True := trivial
      have tok3 : True := trivial
      have tok4 : True := trivial
      go_enter Tryz.func11, Tryz.ntmps11
      go_upto_region 1 with fail
      refine chk (fun W => Below w.heap.size w W ∧ W.heap[w.heap.size]? = some (.cells #[.int .i64 a, .int .i64 b] 26 (0, 0))) (by refine ⟨?_, ?_⟩ <;> (repeat' first | (with_reducible first | assumption | (apply Ne.symm; assumption) | apply Nat.le_refl | apply Nat.le_add_right | apply zL | apply zRf | apply Wx.box | apply Wx.box4 | apply zWa | apply Wx.drew | apply zWn | apply bx_drew | apply bx_drewN | apply bx_set3 | apply bx_set2 | apply bx_set4 | apply bx_set1) | ((with_reducible apply bx_new); (focus (go_size; done))) | (with_reducible first | apply zOl | apply zFa | apply zDn | apply zDr | apply zAl | apply zSt | refine zVi (by assumption) ?_ ?_) | go_size | omega)) ?_
      rintro w9 ⟨hB9, H_E_9⟩
      obtain ⟨k_E_9_0, k_E_9_1, f_E_9, l_E_9⟩ := bk2 H_E_9
      replace H_E_9 := Lib.hid H_E_9
      go_upto_region 2 with (first | (have _t := tok1; go_at_call 16; (with_reducible refine ((T1 _).out).mono ?_); rintro e w1 ⟨u0, B0, rfl, hu0, hB0, hb1⟩; clear tok1 _t; have hz1 := hb1.size; (try simp only [World.size_alloc, World.size_setCell, World.size_drew, World.size_drewN'] at hz1)) | (have _t := tok2; go_at_call 16; (with_reducible refine ((T2 _).out).mono ?_); rintro e w2 ⟨u1, B1, rfl, hu1, hB1, hb2⟩; clear tok2 _t; have hz2 := hb2.size; (try simp only [World.size_alloc, World.size_setCell, World.size_drew, World.size_drewN'] at hz2)))
      obtain ⟨a0, c0, rfl, hx0, -⟩ := Sx.of_owns hu0
      clear hu0
      have H_E_1 := (hb1.block (w.heap.size) (blk_lt' H_E_9.out)).trans H_E_9.out
      clear k_E_9_0 k_E_9_1 f_E_9 H_E_9
      obtain ⟨k_E_1_0, k_E_1_1, f_E_1, l_E_1⟩ := bk2 H_E_1
      replace H_E_1 := Lib.hid H_E_1
      have hB1 : Below w.heap.size w w1 := below_via hb1 (by assumption) (by go_size)
      go_upto_region 3 with (first | (have _t := tok1; go_at_call 16; (with_reducible refine ((T1 _).out).mono ?_); rintro e w1 ⟨u0, B0, rfl, hu0, hB0, hb1⟩; clear tok1 _t; have hz1 := hb1.size; (try simp only [World.size_alloc, World.size_setCell, World.size_drew, World.size_drewN'] at hz1)) | (have _t := tok2; go_at_call 16; (with_reducible refine ((T2 _).out).mono ?_); rintro e w2 ⟨u1, B1, rfl, hu1, hB1, hb2⟩; clear tok2 _t; have hz2 := hb2.size; (try simp only [World.size_alloc, World.size_setCell, World.size_drew, World.size_drewN'] at hz2)))
      obtain ⟨a1, c1, rfl, hx1, -⟩ := Sx.of_owns hu1
      clear hu1
      have H_E_2 := (hb2.block (w.heap.size) (blk_lt' H_E_1.out)).trans H_E_1.out
      clear k_E_1_0 k_E_1_1 f_E_1 H_E_1
      obtain ⟨k_E_2_0, k_E_2_1, f_E_2, l_E_2⟩ := bk2 H_E_2
      replace H_E_2 := Lib.hid H_E_2
      have hB2 : Below w.heap.size w w2 := below_via hb2 (by assumption) (by go_size)
      have hx02 := hx0.below hb2
      have T3 := fun (W : World) (hW : Below w2.heap.size w2 W) => Lib.hid (TR0.out a0 c0 W (hx02.below hW))
      have T4 := fun (W : World) (hW : Below w2.heap.size w2 W) => Lib.hid (TR1.out a1 c1 W (hx1.below hW))
      clear TR0 TR1
      go_wp2_with (first | (have _t := tok3; go_at_call 17; (with_reducible refine ((T3 _ (Below.refl _ _)).out).mono ?_); rintro e w3 ⟨rfl, hb3⟩; clear tok3 _t; have hz3 := hb3.size; (try simp only [World.size_alloc, World.size_setCell, World.size_drew, World.size_drewN'] at hz3)) | (have _t := tok4; go_at_call 17; (with_reducible refine ((T4 _ hb3).out).mono ?_); rintro e w4 ⟨rfl, hb4⟩; clear tok4 _t; have hz4 := hb4.size; (try simp only [World.size_alloc, World.size_setCell, World.size_drew, World.size_drewN'] at hz4)))
      go_ret3
      exact ⟨rfl, below_via (Below.two hb3 hb4) hB2 (by go_size)⟩
  all_goals
    have tok1 : True := trivial
    have tok2 : True := trivial
    have tok3 : True := trivial
    have tok4 : True := trivial
    go_enter Tryz.func11, Tryz.ntmps11
    go_upto_region 1 with fail
    refine chk (fun W => Below w.heap.size w W ∧ W.heap[w.heap.size]? = some (.cells #[.int .i64 a, .int .i64 b] 26 (0, 0))) (by refine ⟨?_, ?_⟩ <;> (repeat' first | (with_reducible first | assumption | (apply Ne.symm; assumption) | apply Nat.le_refl | apply Nat.le_add_right | apply zL | apply zRf | apply Wx.box | apply Wx.box4 | apply zWa | apply Wx.drew | apply zWn | apply bx_drew | apply bx_drewN | apply bx_set3 | apply bx_set2 | apply bx_set4 | apply bx_set1) | ((with_reducible apply bx_new); (focus (go_size; done))) | (with_reducible first | apply zOl | apply zFa | apply zDn | apply zDr | apply zAl | apply zSt | refine zVi (by assumption) ?_ ?_) | go_size | omega)) ?_
    rintro w9 ⟨hB9, H_E_9⟩
    obtain ⟨k_E_9_0, k_E_9_1, f_E_9, l_E_9⟩ := bk2 H_E_9
    replace H_E_9 := Lib.hid H_E_9
    go_upto_region 2 with (first | (have _t := tok1; go_at_call 16; (with_reducible refine ((T1 _).out).mono ?_); rintro e w1 ⟨u0, B0, rfl, hu0, hB0, hb1⟩; clear tok1 _t; have hz1 := hb1.size; (try simp only [World.size_alloc, World.size_setCell, World.size_drew, World.size_drewN'] at hz1)) | (have _t := tok2; go_at_call 16; (with_reducible refine ((T2 _).out).mono ?_); rintro e w2 ⟨u1, B1, rfl, hu1, hB1, hb2⟩; clear tok2 _t; have hz2 := hb2.size; (try simp only [World.size_alloc, World.size_setCell, World.size_drew, World.size_drewN'] at hz2)))
    have H_E_1 := (hb1.block (w.heap.size) (blk_lt' H_E_9.out)).trans H_E_9.out
    clear k_E_9_0 k_E_9_1 f_E_9 H_E_9
    obtain ⟨k_E_1_0, k_E_1_1, f_E_1, l_E_1⟩ := bk2 H_E_1
    replace H_E_1 := Lib.hid H_E_1
    have hB1 : Below w.heap.size w w1 := below_via hb1 (by assumption) (by go_size)
    go_upto_region 3 with (first | (have _t := tok1; go_at_call 16; (with_reducible refine ((T1 _).out).mono ?_); rintro e w1 ⟨u0, B0, rfl, hu0, hB0, hb1⟩; clear tok1 _t; have hz1 := hb1.size; (try simp only [World.size_alloc, World.size_setCell, World.size_drew, World.size_drewN'] at hz1)) | (have _t := tok2; go_at_call 16; (with_reducible refine ((T2 _).out).mono ?_); rintro e w2 ⟨u1, B1, rfl, hu1, hB1, hb2⟩; clear tok2 _t; have hz2 := hb2.size; (try simp only [World.size_alloc, World.size_setCell, World.size_drew, World.size_drewN'] at hz2)))
    have H_E_2 := (hb2.block (w.heap.size) (blk_lt' H_E_1.out)).trans H_E_1.out
    clear k_E_1_0 k_E_1_1 f_E_1 H_E_1
    obtain ⟨k_E_2_0, k_E_2_1, f_E_2, l_E_2⟩ := bk2 H_E_2
    replace H_E_2 := Lib.hid H_E_2
    have hB2 : Below w.heap.size w w2 := below_via hb2 (by assumption) (by go_size)
    go_wp2_with fail
    go_ret3
    exact ⟨rfl, hB2⟩
theorem SelmerRanks_any (a b : Int) (w : World) : Calls Tryz.prog 7 #[.agg #[.int .i64 a, .int .i64 b]] w fun r w' =>
    r = .returned (.tuple #[.int .i64 (sqV a b).1, .int .i64 (sqV a b).2.1, .bool (sqV a b).2.2]) ∧ Below w.heap.size w w' := by
  have T1 := fun W : World => Lib.hid (isTwoCurve_any a b W)
  have hnot : ∀ (x : Bool) (w : World), (Op.unary .not (.bool x)).run Tryz.prog w = .ok (.bool (!x)) w := fun _ _ => rfl
  unfold sqV
  cases h1 : tcB a b
  · rw [h1] at T1
    have T2 := T1
    clear h1
    simp only [Bool.false_eq_true, if_false]
    have tok1 : True := trivial
    have tok2 : True := trivial
    go_enter Tryz.func7, Tryz.ntmps7
    go_wp2_with (first | (have _t := tok1; go_at_call 12; (with_reducible refine ((T1 _).out).mono ?_); rintro e w1 ⟨rfl, hb1⟩; clear tok1 _t; have hz1 := hb1.size; (try simp only [World.size_alloc, World.size_setCell, World.size_drew, World.size_drewN'] at hz1); (try (have kq := cellAt hb1 (w.heap.size) (by go_size); have k1_w_0_0 := kq 0; have k1_w_0_1 := kq 1; clear kq; have f1_w_0 := frozAt hb1 (w.heap.size) (by go_size); simp [go_sem, *] at k1_w_0_0 k1_w_0_1 f1_w_0)); (try have l1_w_0 : w.heap.size < w1.heap.size := by omega)) | (have _t := tok2; go_at_call 13; (with_reducible refine ((T2 _).out).mono ?_); rintro e w2 ⟨rfl, hb2⟩; clear tok2 _t; have hz2 := hb2.size; (try simp only [World.size_alloc, World.size_setCell, World.size_drew, World.size_drewN'] at hz2); (try (have kq := cellAt hb2 (w.heap.size) (by go_size); have k2_w_0_0 := kq 0; have k2_w_0_1 := kq 1; clear kq; have f2_w_0 := frozAt hb2 (w.heap.size) (by go_size); simp [go_sem, *] at k2_w_0_0 k2_w_0_1 f2_w_0)); (try have l2_w_0 : w.heap.size < w2.heap.size := by omega); (try clear k1_w_0_0 k1_w_0_1 f1_w_0); (try clear l1_w_0)))
    go_ret3
    refine ⟨rfl, ?_⟩
    repeat' first | (with_reducible first | apply zRf | assumption | apply zDn | apply zDr | apply zAl | apply zSt | refine zVi (by assumption) ?_ ?_) | go_size
  · have T2 := fun W : World => Lib.hid (selmerRanks_any a b W h1)
    rw [h1] at T1
    clear h1
    simp only [if_true]
    generalize srV a b = v at *
    have tok1 : True := trivial
    have tok2 : True := trivial
    go_enter Tryz.func7, Tryz.ntmps7
    go_wp2_with (first | (have _t := tok1; go_at_call 12; (with_reducible refine ((T1 _).out).mono ?_); rintro e w1 ⟨rfl, hb1⟩; clear tok1 _t; have hz1 := hb1.size; (try simp only [World.size_alloc, World.size_setCell, World.size_drew, World.size_drewN'] at hz1); (try (have kq := cellAt hb1 (w.heap.size) (by go_size); have k1_w_0_0 := kq 0; have k1_w_0_1 := kq 1; clear kq; have f1_w_0 := frozAt hb1 (w.heap.size) (by go_size); simp [go_sem, *] at k1_w_0_0 k1_w_0_1 f1_w_0)); (try have l1_w_0 : w.heap.size < w1.heap.size := by omega)) | (have _t := tok2; go_at_call 13; (with_reducible refine ((T2 _).out).mono ?_); rintro e w2 ⟨rfl, hb2⟩; clear tok2 _t; have hz2 := hb2.size; (try simp only [World.size_alloc, World.size_setCell, World.size_drew, World.size_drewN'] at hz2); (try (have kq := cellAt hb2 (w.heap.size) (by go_size); have k2_w_0_0 := kq 0; have k2_w_0_1 := kq 1; clear kq; have f2_w_0 := frozAt hb2 (w.heap.size) (by go_size); simp [go_sem, *] at k2_w_0_0 k2_w_0_1 f2_w_0)); (try have l2_w_0 : w.heap.size < w2.heap.size := by omega); (try clear k1_w_0_0 k1_w_0_1 f1_w_0); (try clear l1_w_0)))
    go_ret3
    refine ⟨rfl, ?_⟩
    repeat' first | (with_reducible first | apply zRf | assumption | apply zDn | apply zDr | apply zAl | apply zSt | refine zVi (by assumption) ?_ ?_) | go_size
theorem sSelmerRanks_any (a b : Int) (w : World) : Calls Tryz.prog 5 #[.agg #[.int .i64 a, .int .i64 b]] w fun r w' =>
    r = .returned (.tuple #[.int .i64 (sqV a b).1, .int .i64 (sqV a b).2.1, .bool (sqV a b).2.2]) ∧ Below w.heap.size w w' := by
  have T1 := fun W : World => Lib.hid (tcGood_any a b W)
  have hnot : ∀ (x : Bool) (w : World), (Op.unary .not (.bool x)).run Tryz.prog w = .ok (.bool (!x)) w := fun _ _ => rfl
  unfold sqV
  cases h1 : tcB a b
  · rw [h1] at T1
    have T2 := T1
    clear h1
    simp only [Bool.false_eq_true, if_false]
    have tok1 : True := trivial
    have tok2 : True := trivial
    go_enter Tryz.func5, Tryz.ntmps5
    go_wp2_with (first | (have _t := tok1; go_at_call 10; (with_reducible refine ((T1 _).out).mono ?_); rintro e w1 ⟨rfl, hb1⟩; clear tok1 _t; have hz1 := hb1.size; (try simp only [World.size_alloc, World.size_setCell, World.size_drew, World.size_drewN'] at hz1); (try (have kq := cellAt hb1 (w.heap.size) (by go_size); have k1_w_0_0 := kq 0; have k1_w_0_1 := kq 1; clear kq; have f1_w_0 := frozAt hb1 (w.heap.size) (by go_size); simp [go_sem, *] at k1_w_0_0 k1_w_0_1 f1_w_0)); (try have l1_w_0 : w.heap.size < w1.heap.size := by omega)) | (have _t := tok2; go_at_call 11; (with_reducible refine ((T2 _).out).mono ?_); rintro e w2 ⟨rfl, hb2⟩; clear tok2 _t; have hz2 := hb2.size; (try simp only [World.size_alloc, World.size_setCell, World.size_drew, World.size_drewN'] at hz2); (try (have kq := cellAt hb2 (w.heap.size) (by go_size); have k2_w_0_0 := kq 0; have k2_w_0_1 := kq 1; clear kq; have f2_w_0 := frozAt hb2 (w.heap.size) (by go_size); simp [go_sem, *] at k2_w_0_0 k2_w_0_1 f2_w_0)); (try have l2_w_0 : w.heap.size < w2.heap.size := by omega); (try clear k1_w_0_0 k1_w_0_1 f1_w_0); (try clear l1_w_0)))
    go_ret3
    refine ⟨rfl, ?_⟩
    repeat' first | (with_reducible first | apply zRf | assumption | apply zDn | apply zDr | apply zAl | apply zSt | refine zVi (by assumption) ?_ ?_) | go_size
  · have T2 := fun W : World => Lib.hid (rkSelmer_any a b W h1)
    rw [h1] at T1
    clear h1
    simp only [if_true]
    generalize srV a b = v at *
    have tok1 : True := trivial
    have tok2 : True := trivial
    go_enter Tryz.func5, Tryz.ntmps5
    go_wp2_with (first | (have _t := tok1; go_at_call 10; (with_reducible refine ((T1 _).out).mono ?_); rintro e w1 ⟨rfl, hb1⟩; clear tok1 _t; have hz1 := hb1.size; (try simp only [World.size_alloc, World.size_setCell, World.size_drew, World.size_drewN'] at hz1); (try (have kq := cellAt hb1 (w.heap.size) (by go_size); have k1_w_0_0 := kq 0; have k1_w_0_1 := kq 1; clear kq; have f1_w_0 := frozAt hb1 (w.heap.size) (by go_size); simp [go_sem, *] at k1_w_0_0 k1_w_0_1 f1_w_0)); (try have l1_w_0 : w.heap.size < w1.heap.size := by omega)) | (have _t := tok2; go_at_call 11; (with_reducible refine ((T2 _).out).mono ?_); rintro e w2 ⟨rfl, hb2⟩; clear tok2 _t; have hz2 := hb2.size; (try simp only [World.size_alloc, World.size_setCell, World.size_drew, World.size_drewN'] at hz2); (try (have kq := cellAt hb2 (w.heap.size) (by go_size); have k2_w_0_0 := kq 0; have k2_w_0_1 := kq 1; clear kq; have f2_w_0 := frozAt hb2 (w.heap.size) (by go_size); simp [go_sem, *] at k2_w_0_0 k2_w_0_1 f2_w_0)); (try have l2_w_0 : w.heap.size < w2.heap.size := by omega); (try clear k1_w_0_0 k1_w_0_1 f1_w_0); (try clear l1_w_0)))
    go_ret3
    refine ⟨rfl, ?_⟩
    repeat' first | (with_reducible first | apply zRf | assumption | apply zDn | apply zDr | apply zAl | apply zSt | refine zVi (by assumption) ?_ ?_) | go_size
theorem UpperRank_any (a b : Int) (w : World) : Calls Tryz.prog 9 #[.agg #[.int .i64 a, .int .i64 b]] w fun r w' =>
    r = .returned (.tuple #[.int .i64 (upV a b).1, .bool (upV a b).2]) ∧ Below w.heap.size w w' := by
  have T1 := fun W : World => Lib.hid (isTwoCurve_any a b W)
  have hnot : ∀ (x : Bool) (w : World), (Op.unary .not (.bool x)).run Tryz.prog w = .ok (.bool (!x)) w := fun _ _ => rfl
  unfold upV
  cases h1 : tcB a b
  · rw [h1] at T1
    have T2 := T1
    clear h1
    simp only [Bool.false_eq_true, if_false]
    have tok1 : True := trivial
    have tok2 : True := trivial
    go_enter Tryz.func9, Tryz.ntmps9
    go_wp2_with (first | (have _t := tok1; go_at_call 12; (with_reducible refine ((T1 _).out).mono ?_); rintro e w1 ⟨rfl, hb1⟩; clear tok1 _t; have hz1 := hb1.size; (try simp only [World.size_alloc, World.size_setCell, World.size_drew, World.size_drewN'] at hz1); (try (have kq := cellAt hb1 (w.heap.size) (by go_size); have k1_w_0_0 := kq 0; have k1_w_0_1 := kq 1; clear kq; have f1_w_0 := frozAt hb1 (w.heap.size) (by go_size); simp [go_sem, *] at k1_w_0_0 k1_w_0_1 f1_w_0)); (try have l1_w_0 : w.heap.size < w1.heap.size := by omega)) | (have _t := tok2; go_at_call 13; (with_reducible refine ((T2 _).out).mono ?_); rintro e w2 ⟨rfl, hb2⟩; clear tok2 _t; have hz2 := hb2.size; (try simp only [World.size_alloc, World.size_setCell, World.size_drew, World.size_drewN'] at hz2); (try (have kq := cellAt hb2 (w.heap.size) (by go_size); have k2_w_0_0 := kq 0; have k2_w_0_1 := kq 1; clear kq; have f2_w_0 := frozAt hb2 (w.heap.size) (by go_size); simp [go_sem, *] at k2_w_0_0 k2_w_0_1 f2_w_0)); (try have l2_w_0 : w.heap.size < w2.heap.size := by omega); (try clear k1_w_0_0 k1_w_0_1 f1_w_0); (try clear l1_w_0)))
    go_ret2
    refine ⟨rfl, ?_⟩
    repeat' first | (with_reducible first | apply zRf | assumption | apply zDn | apply zDr | apply zAl | apply zSt | refine zVi (by assumption) ?_ ?_) | go_size
  · have T2 := fun W : World => Lib.hid (selmerRanks_any a b W h1)
    have hbd := srV_bd a b
    rw [h1] at T1
    clear h1
    simp only [if_true]
    unfold urV
    obtain ⟨⟨r0, r1, ok⟩, hv⟩ : ∃ v, srV a b = v := ⟨_, rfl⟩
    rw [hv] at T2 hbd ⊢
    clear hv
    dsimp only at T2 hbd ⊢
    cases ok
    all_goals
      have tok1 : True := trivial
      have tok2 : True := trivial
      go_enter Tryz.func9, Tryz.ntmps9
      go_wp2_with (first | (have _t := tok1; go_at_call 12; (with_reducible refine ((T1 _).out).mono ?_); rintro e w1 ⟨rfl, hb1⟩; clear tok1 _t; have hz1 := hb1.size; (try simp only [World.size_alloc, World.size_setCell, World.size_drew, World.size_drewN'] at hz1); (try (have kq := cellAt hb1 (w.heap.size) (by go_size); have k1_w_0_0 := kq 0; have k1_w_0_1 := kq 1; clear kq; have f1_w_0 := frozAt hb1 (w.heap.size) (by go_size); simp [go_sem, *] at k1_w_0_0 k1_w_0_1 f1_w_0)); (try have l1_w_0 : w.heap.size < w1.heap.size := by omega)) | (have _t := tok2; go_at_call 13; (with_reducible refine ((T2 _).out).mono ?_); rintro e w2 ⟨rfl, hb2⟩; clear tok2 _t; have hz2 := hb2.size; (try simp only [World.size_alloc, World.size_setCell, World.size_drew, World.size_drewN'] at hz2); (try (have kq := cellAt hb2 (w.heap.size) (by go_size); have k2_w_0_0 := kq 0; have k2_w_0_1 := kq 1; clear kq; have f2_w_0 := frozAt hb2 (w.heap.size) (by go_size); simp [go_sem, *] at k2_w_0_0 k2_w_0_1 f2_w_0)); (try have l2_w_0 : w.heap.size < w2.heap.size := by omega); (try clear k1_w_0_0 k1_w_0_1 f1_w_0); (try clear l1_w_0)))
      go_ret2
      refine ⟨rfl, ?_⟩
      repeat' first | (with_reducible first | apply zRf | assumption | apply zDn | apply zDr | apply zAl | apply zSt | refine zVi (by assumption) ?_ ?_) | go_size
theorem rkUpper_any (a b : Int) (w : World) (h1 : tcB a b = true) : Calls Tryz.prog 14 #[.agg #[.int .i64 a, .int .i64 b]] w fun r w' =>
    r = .returned (.tuple #[.int .i64 (urV a b).1, .bool (urV a b).2]) ∧ Below w.heap.size w w' := by
  have hnot : ∀ (x : Bool) (w : World), (Op.unary .not (.bool x)).run Tryz.prog w = .ok (.bool (!x)) w := fun _ _ => rfl
  have T2 := fun W : World => Lib.hid (rkSelmer_any a b W h1)
  have hbd := srV_bd a b
  clear h1
  unfold urV
  obtain ⟨⟨r0, r1, ok⟩, hv⟩ : ∃ v, srV a b = v := ⟨_, rfl⟩
  rw [hv] at T2 hbd ⊢
  clear hv
  dsimp only at T2 hbd ⊢
  cases ok
  all_goals
    have tok1 : True := trivial
    have tok2 : True := trivial
    go_enter Tryz.func14, Tryz.ntmps14
    go_wp2_with (first | (have _t := tok2; go_at_call 11; (with_reducible refine ((T2 _).out).mono ?_); rintro e w2 ⟨rfl, hb2⟩; clear tok2 _t; have hz2 := hb2.size; (try simp only [World.size_alloc, World.size_setCell, World.size_drew, World.size_drewN'] at hz2); (try (have kq := cellAt hb2 (w.heap.size) (by go_size); have k2_w_0_0 := kq 0; have k2_w_0_1 := kq 1; clear kq; have f2_w_0 := frozAt hb2 (w.heap.size) (by go_size); simp [go_sem, *] at k2_w_0_0 k2_w_0_1 f2_w_0)); (try have l2_w_0 : w.heap.size < w2.heap.size := by omega); (try clear k1_w_0_0 k1_w_0_1 f1_w_0); (try clear l1_w_0)))
    go_ret2
    refine ⟨rfl, ?_⟩
    repeat' first | (with_reducible first | apply zRf | assumption | apply zDn | apply zDr | apply zAl | apply zSt | refine zVi (by assumption) ?_ ?_) | go_size
theorem sUpperRank_any (a b : Int) (w : World) : Calls Tryz.prog 8 #[.agg #[.int .i64 a, .int .i64 b]] w fun r w' =>
    r = .returned (.tuple #[.int .i64 (upV a b).1, .bool (upV a b).2]) ∧ Below w.heap.size w w' := by
  have T1 := fun W : World => Lib.hid (tcGood_any a b W)
  have hnot : ∀ (x : Bool) (w : World), (Op.unary .not (.bool x)).run Tryz.prog w = .ok (.bool (!x)) w := fun _ _ => rfl
  unfold upV
  cases h1 : tcB a b
  · rw [h1] at T1
    have T2 := T1
    clear h1
    simp only [Bool.false_eq_true, if_false]
    have tok1 : True := trivial
    have tok2 : True := trivial
    go_enter Tryz.func8, Tryz.ntmps8
    go_wp2_with (first | (have _t := tok1; go_at_call 10; (with_reducible refine ((T1 _).out).mono ?_); rintro e w1 ⟨rfl, hb1⟩; clear tok1 _t; have hz1 := hb1.size; (try simp only [World.size_alloc, World.size_setCell, World.size_drew, World.size_drewN'] at hz1); (try (have kq := cellAt hb1 (w.heap.size) (by go_size); have k1_w_0_0 := kq 0; have k1_w_0_1 := kq 1; clear kq; have f1_w_0 := frozAt hb1 (w.heap.size) (by go_size); simp [go_sem, *] at k1_w_0_0 k1_w_0_1 f1_w_0)); (try have l1_w_0 : w.heap.size < w1.heap.size := by omega)) | (have _t := tok2; go_at_call 14; (with_reducible refine ((T2 _).out).mono ?_); rintro e w2 ⟨rfl, hb2⟩; clear tok2 _t; have hz2 := hb2.size; (try simp only [World.size_alloc, World.size_setCell, World.size_drew, World.size_drewN'] at hz2); (try (have kq := cellAt hb2 (w.heap.size) (by go_size); have k2_w_0_0 := kq 0; have k2_w_0_1 := kq 1; clear kq; have f2_w_0 := frozAt hb2 (w.heap.size) (by go_size); simp [go_sem, *] at k2_w_0_0 k2_w_0_1 f2_w_0)); (try have l2_w_0 : w.heap.size < w2.heap.size := by omega); (try clear k1_w_0_0 k1_w_0_1 f1_w_0); (try clear l1_w_0)))
    go_ret2
    refine ⟨rfl, ?_⟩
    repeat' first | (with_reducible first | apply zRf | assumption | apply zDn | apply zDr | apply zAl | apply zSt | refine zVi (by assumption) ?_ ?_) | go_size
  · have T2 := fun W : World => Lib.hid (rkUpper_any a b W h1)
    rw [h1] at T1
    clear h1
    simp only [if_true]
    generalize urV a b = v at *
    have tok1 : True := trivial
    have tok2 : True := trivial
    go_enter Tryz.func8, Tryz.ntmps8
    go_wp2_with (first | (have _t := tok1; go_at_call 10; (with_reducible refine ((T1 _).out).mono ?_); rintro e w1 ⟨rfl, hb1⟩; clear tok1 _t; have hz1 := hb1.size; (try simp only [World.size_alloc, World.size_setCell, World.size_drew, World.size_drewN'] at hz1); (try (have kq := cellAt hb1 (w.heap.size) (by go_size); have k1_w_0_0 := kq 0; have k1_w_0_1 := kq 1; clear kq; have f1_w_0 := frozAt hb1 (w.heap.size) (by go_size); simp [go_sem, *] at k1_w_0_0 k1_w_0_1 f1_w_0)); (try have l1_w_0 : w.heap.size < w1.heap.size := by omega)) | (have _t := tok2; go_at_call 14; (with_reducible refine ((T2 _).out).mono ?_); rintro e w2 ⟨rfl, hb2⟩; clear tok2 _t; have hz2 := hb2.size; (try simp only [World.size_alloc, World.size_setCell, World.size_drew, World.size_drewN'] at hz2); (try (have kq := cellAt hb2 (w.heap.size) (by go_size); have k2_w_0_0 := kq 0; have k2_w_0_1 := kq 1; clear kq; have f2_w_0 := frozAt hb2 (w.heap.size) (by go_size); simp [go_sem, *] at k2_w_0_0 k2_w_0_1 f2_w_0)); (try have l2_w_0 : w.heap.size < w2.heap.size := by omega); (try clear k1_w_0_0 k1_w_0_1 f1_w_0); (try clear l1_w_0)))
    go_ret2
    refine ⟨rfl, ?_⟩
    repeat' first | (with_reducible first | apply zRf | assumption | apply zDn | apply zDr | apply zAl | apply zSt | refine zVi (by assumption) ?_ ?_) | go_size
theorem FnExactSelmerRanks_any (a0_0 : Int) (a0_1 : Int) (w : World) : Calls Tryz.prog 3 #[.agg #[.int .i64 a0_0, .int .i64 a0_1]] w fun e w' => e = .returned (.bool true) ∧ Below w.heap.size w w' := by
  have CS := fun W : World => Lib.hid (sSelmerRanks_any a0_0 a0_1 W)
  have CI := fun W : World => Lib.hid (SelmerRanks_any a0_0 a0_1 W)
  generalize sqV a0_0 a0_1 = rv at CS CI
  have tok1 : True := trivial
  have tok2 : True := trivial
  have tok3 : True := trivial
  have tok4 : True := trivial
  go_enter Tryz.func3, Tryz.ntmps3
  go_wp2_with (first | (have _t := tok1; go_at_call 6; refine (toTwoCurve_any _ _ _).mono ?_; rintro e w1 ⟨rfl, hb1⟩; clear tok1 _t; have hz1 := hb1.size; (try simp only [World.size_alloc, World.size_setCell, World.size_drew, World.size_drewN'] at hz1); (try (have kq := cellAt hb1 (w.heap.size) (by go_size); have k1_w_0_0 := kq 0; have k1_w_0_1 := kq 1; clear kq; have f1_w_0 := frozAt hb1 (w.heap.size) (by go_size); simp [go_sem, *] at k1_w_0_0 k1_w_0_1 f1_w_0)); (try have l1_w_0 : w.heap.size < w1.heap.size := by omega)) | (have _t := tok2; go_at_call 5; refine ((CS _).out).mono ?_; rintro e w2 ⟨rfl, hb2⟩; clear tok2 _t; have hz2 := hb2.size; (try simp only [World.size_alloc, World.size_setCell, World.size_drew, World.size_drewN'] at hz2); (try (have kq := cellAt hb2 (w.heap.size) (by go_size); have k2_w_0_0 := kq 0; have k2_w_0_1 := kq 1; clear kq; have f2_w_0 := frozAt hb2 (w.heap.size) (by go_size); simp [go_sem, *] at k2_w_0_0 k2_w_0_1 f2_w_0)); (try have l2_w_0 : w.heap.size < w2.heap.size := by omega); (try clear k1_w_0_0 k1_w_0_1 f1_w_0); (try clear l1_w_0)) | (have _t := tok3; go_at_call 6; refine (toTwoCurve_any _ _ _).mono ?_; rintro e w3 ⟨rfl, hb3⟩; clear tok3 _t; have hz3 := hb3.size; (try simp only [World.size_alloc, World.size_setCell, World.size_drew, World.size_drewN'] at hz3); (try (have kq := cellAt hb3 (w.heap.size) (by go_size); have k3_w_0_0 := kq 0; have k3_w_0_1 := kq 1; clear kq; have f3_w_0 := frozAt hb3 (w.heap.size) (by go_size); simp [go_sem, *] at k3_w_0_0 k3_w_0_1 f3_w_0)); (try have l3_w_0 : w.heap.size < w3.heap.size := by omega); (try clear k1_w_0_0 k1_w_0_1 f1_w_0); (try clear l1_w_0); (try clear k2_w_0_0 k2_w_0_1 f2_w_0); (try clear l2_w_0)) | (have _t := tok4; go_at_call 7; refine ((CI _).out).mono ?_; rintro e w4 ⟨rfl, hb4⟩; clear tok4 _t; have hz4 := hb4.size; (try simp only [World.size_alloc, World.size_setCell, World.size_drew, World.size_drewN'] at hz4); (try (have kq := cellAt hb4 (w.heap.size) (by go_size); have k4_w_0_0 := kq 0; have k4_w_0_1 := kq 1; clear kq; have f4_w_0 := frozAt hb4 (w.heap.size) (by go_size); simp [go_sem, *] at k4_w_0_0 k4_w_0_1 f4_w_0)); (try have l4_w_0 : w.heap.size < w4.heap.size := by omega); (try clear k1_w_0_0 k1_w_0_1 f1_w_0); (try clear l1_w_0); (try clear k2_w_0_0 k2_w_0_1 f2_w_0); (try clear l2_w_0); (try clear k3_w_0_0 k3_w_0_1 f3_w_0); (try clear l3_w_0)))
  go_ret
  refine ⟨rfl, ?_⟩
  repeat' first | (with_reducible first | apply zRf | assumption | apply zDn | apply zDr | apply zAl | apply zSt | refine zVi (by assumption) ?_ ?_) | go_size
theorem FnExactUpperRank_any (a0_0 : Int) (a0_1 : Int) (w : World) : Calls Tryz.prog 4 #[.agg #[.int .i64 a0_0, .int .i64 a0_1]] w fun e w' => e = .returned (.bool true) ∧ Below w.heap.size w w' := by
  have CS := fun W : World => Lib.hid (sUpperRank_any a0_0 a0_1 W)
  have CI := fun W : World => Lib.hid (UpperRank_any a0_0 a0_1 W)
  generalize upV a0_0 a0_1 = rv at CS CI
  have tok1 : True := trivial
  have tok2 : True := trivial
  have tok3 : True := trivial
  have tok4 : True := trivial
  go_enter Tryz.func4, Tryz.ntmps4
  go_wp2_with (first | (have _t := tok1; go_at_call 6; refine (toTwoCurve_any _ _ _).mono ?_; rintro e w1 ⟨rfl, hb1⟩; clear tok1 _t; have hz1 := hb1.size; (try simp only [World.size_alloc, World.size_setCell, World.size_drew, World.size_drewN'] at hz1); (try (have kq := cellAt hb1 (w.heap.size) (by go_size); have k1_w_0_0 := kq 0; have k1_w_0_1 := kq 1; clear kq; have f1_w_0 := frozAt hb1 (w.heap.size) (by go_size); simp [go_sem, *] at k1_w_0_0 k1_w_0_1 f1_w_0)); (try have l1_w_0 : w.heap.size < w1.heap.size := by omega)) | (have _t := tok2; go_at_call 8; refine ((CS _).out).mono ?_; rintro e w2 ⟨rfl, hb2⟩; clear tok2 _t; have hz2 := hb2.size; (try simp only [World.size_alloc, World.size_setCell, World.size_drew, World.size_drewN'] at hz2); (try (have kq := cellAt hb2 (w.heap.size) (by go_size); have k2_w_0_0 := kq 0; have k2_w_0_1 := kq 1; clear kq; have f2_w_0 := frozAt hb2 (w.heap.size) (by go_size); simp [go_sem, *] at k2_w_0_0 k2_w_0_1 f2_w_0)); (try have l2_w_0 : w.heap.size < w2.heap.size := by omega); (try clear k1_w_0_0 k1_w_0_1 f1_w_0); (try clear l1_w_0)) | (have _t := tok3; go_at_call 6; refine (toTwoCurve_any _ _ _).mono ?_; rintro e w3 ⟨rfl, hb3⟩; clear tok3 _t; have hz3 := hb3.size; (try simp only [World.size_alloc, World.size_setCell, World.size_drew, World.size_drewN'] at hz3); (try (have kq := cellAt hb3 (w.heap.size) (by go_size); have k3_w_0_0 := kq 0; have k3_w_0_1 := kq 1; clear kq; have f3_w_0 := frozAt hb3 (w.heap.size) (by go_size); simp [go_sem, *] at k3_w_0_0 k3_w_0_1 f3_w_0)); (try have l3_w_0 : w.heap.size < w3.heap.size := by omega); (try clear k1_w_0_0 k1_w_0_1 f1_w_0); (try clear l1_w_0); (try clear k2_w_0_0 k2_w_0_1 f2_w_0); (try clear l2_w_0)) | (have _t := tok4; go_at_call 9; refine ((CI _).out).mono ?_; rintro e w4 ⟨rfl, hb4⟩; clear tok4 _t; have hz4 := hb4.size; (try simp only [World.size_alloc, World.size_setCell, World.size_drew, World.size_drewN'] at hz4); (try (have kq := cellAt hb4 (w.heap.size) (by go_size); have k4_w_0_0 := kq 0; have k4_w_0_1 := kq 1; clear kq; have f4_w_0 := frozAt hb4 (w.heap.size) (by go_size); simp [go_sem, *] at k4_w_0_0 k4_w_0_1 f4_w_0)); (try have l4_w_0 : w.heap.size < w4.heap.size := by omega); (try clear k1_w_0_0 k1_w_0_1 f1_w_0); (try clear l1_w_0); (try clear k2_w_0_0 k2_w_0_1 f2_w_0); (try clear l2_w_0); (try clear k3_w_0_0 k3_w_0_1 f3_w_0); (try clear l3_w_0)))
  go_ret
  refine ⟨rfl, ?_⟩
  repeat' first | (with_reducible first | apply zRf | assumption | apply zDn | apply zDr | apply zAl | apply zSt | refine zVi (by assumption) ?_ ?_) | go_size
end Go.Proofs.YtpikckgaonppkaaGreat
