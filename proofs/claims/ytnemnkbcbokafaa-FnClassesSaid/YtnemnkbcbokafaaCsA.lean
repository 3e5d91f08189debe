/- Parts: FnClasses: what both sides return, as numbers and lists of which the law's own tests hold, FnClasses: the law's own comparisons. -/
import Derived.Test.YtnemnkbcbokafaaCs2
import Derived.Test.YtnemnkbcbokafaaPln
import Derived.Test.YtnemnkbcbokafaaTwA
import Derived.Laws.StructEq
namespace Go.Proofs.Ytnemnkbcbokafaa
section
open Go.RowKit
set_option linter.unusedVariables false
set_option maxHeartbeats 4000000
set_option maxRecDepth 20000
set_option linter.unusedSimpArgs false
def RetC (f : FuncId) (args : Array Value) (r : Value) : Prop := ∀ W : World, Calls Try.prog f args W fun e w' => e = .returned r ∧ Below W.heap.size W w'
theorem XIsQuartic_any (D A C : Int) (w : World) : Calls Try.prog 26 #[.agg #[.int .i64 D, .int .i64 A, .int .i64 C]] w fun e w' => e = .returned (.bool (qaB D A C)) ∧ Below w.heap.size w w' := by
  have tok1 : True := trivial
  go_enter Try.func26, Try.ntmps26
  go_wp2_with (first | (have _t := tok1; go_at_call 55; refine (isQuartic_any _ _ _ _).mono ?_; rintro e w1 ⟨rfl, hb1⟩; clear tok1 _t; have hz1 := hb1.size; (try simp only [World.size_alloc, World.size_setCell, World.size_drew, World.size_drewN'] at hz1); (try (have kq := cellAt hb1 (w.heap.size) (by go_size); have k1_w_0_0 := kq 0; have k1_w_0_1 := kq 1; have k1_w_0_2 := kq 2; clear kq; have f1_w_0 := frozAt hb1 (w.heap.size) (by go_size); simp [go_sem, *] at k1_w_0_0 k1_w_0_1 k1_w_0_2 f1_w_0)); (try have l1_w_0 : w.heap.size < w1.heap.size := by omega)))
  go_ret
  refine ⟨rfl, ?_⟩
  repeat' first | (with_reducible first | apply zRf | assumption | apply zDn | apply zDr | apply zAl | apply zSt | refine zVi (by assumption) ?_ ?_) | go_size
theorem XIsTwoCurve_any (a b : Int) (w : World) : Calls Try.prog 22 #[.agg #[.int .i64 a, .int .i64 b]] w fun e w' => e = .returned (.bool (tcB a b)) ∧ Below w.heap.size w w' := by
  have tok1 : True := trivial
  go_enter Try.func22, Try.ntmps22
  go_wp2_with (first | (have _t := tok1; go_at_call 38; refine (isTwoCurve_any _ _ _).mono ?_; rintro e w1 ⟨rfl, hb1⟩; clear tok1 _t; have hz1 := hb1.size; (try simp only [World.size_alloc, World.size_setCell, World.size_drew, World.size_drewN'] at hz1); (try (have kq := cellAt hb1 (w.heap.size) (by go_size); have k1_w_0_0 := kq 0; have k1_w_0_1 := kq 1; clear kq; have f1_w_0 := frozAt hb1 (w.heap.size) (by go_size); simp [go_sem, *] at k1_w_0_0 k1_w_0_1 f1_w_0)); (try have l1_w_0 : w.heap.size < w1.heap.size := by omega)))
  go_ret
  refine ⟨rfl, ?_⟩
  repeat' first | (with_reducible first | apply zRf | assumption | apply zDn | apply zDr | apply zAl | apply zSt | refine zVi (by assumption) ?_ ?_) | go_size
/-! ### plain -/
theorem clF_eq {n : Int} : ∀ {ps : List Int} {s : Int}, clF n s ps = s * prodL (oL n ps)
  | [], s => by simp [clF, oL, prodL]
  | p :: ps, s => by
    have e : clF n s (p :: ps) = clF n (if vl n p % 2 = 1 then s * p else s) ps := rfl
    rw [e, clF_eq]
    unfold oL
    rw [List.filter_cons]
    by_cases h : vl n p % 2 = 1
    · rw [if_pos h, if_pos (decide_eq_true h)]
      show s * p * _ = s * (p * _)
      rw [Int.mul_assoc]; rfl
    · rw [if_neg h, if_neg (by simpa using h)]
theorem clV_eq (n : Int) : clV n = clS n * prodL (oL n (prL n.natAbs)) := clF_eq
theorem oL_sub {n x : Int} {ps : List Int} (h : x ∈ oL n ps) : x ∈ ps := (List.mem_filter.1 h).1
theorem prL_ne (n : Int) : (prL n).Pairwise (· ≠ ·) := (prL_cop n).imp_of_mem fun {a b} ha hb h e => by
  subst e
  have h1 := (prL_pz ha).1
  unfold Cop at h
  rw [Nat.coprime_self] at h
  omega
theorem oL_sf (n m : Int) : SF (prodL (oL n (prL m))) := sf_list (fun q hq => prL_pz (oL_sub hq)) ((prL_ne m).sublist List.filter_sublist)
theorem clV_sq {n : Int} (hn : n ≠ 0) : ∃ r : Int, 1 ≤ r ∧ n = clV n * (r * r) := by
  obtain ⟨s, s1, s2⟩ := prW_sq _ n.natAbs 2 (Nat.le_refl _) (by omega) (by omega) (noDv_two _)
  have hc : oL n (prL n.natAbs) = oL n.natAbs (prL n.natAbs) := oL_cong fun q hq => (vl_abs hn (prL_pz hq).1).symm
  refine ⟨s, s1, ?_⟩
  rw [clV_eq, hc]
  have s3 : (n.natAbs : Int) = s * s * prodL (oL n.natAbs (prL n.natAbs)) := s2
  generalize prodL (oL n.natAbs (prL n.natAbs)) = P at *
  unfold clS
  split
  · have : n = -(n.natAbs : Int) := by omega
    rw [this, s3]; grind
  · have : n = (n.natAbs : Int) := by omega
    rw [this, s3]; grind
theorem sf_clS {n x : Int} (h : SF x) : SF (clS n * x) := by
  unfold clS
  split
  · rw [show -1 * x = -x by omega]; exact sf_neg h
  · rw [Int.one_mul]; exact h
theorem clV_sf (n : Int) : SF (clV n) := by rw [clV_eq]; exact sf_clS (oL_sf n _)
theorem clV_ne {n : Int} (hn : n ≠ 0) : clV n ≠ 0 := by
  obtain ⟨r, r1, r2⟩ := clV_sq hn
  intro e; rw [e, Int.zero_mul] at r2; exact hn r2
theorem clV_sf2 {n m : Int} (hg : Cop n m) : SF (clV n * clV m) := by
  rw [clV_eq n, clV_eq m]
  have e : clS n * prodL (oL n (prL n.natAbs)) * (clS m * prodL (oL m (prL m.natAbs))) = clS n * (clS m * prodL (oL n (prL n.natAbs) ++ oL m (prL m.natAbs))) := by
    rw [prodL_app]; grind
  rw [e]
  refine sf_clS (sf_clS (sf_list (fun q hq => ?_) ?_))
  · rcases List.mem_append.1 hq with h | h
    · exact prL_pz (oL_sub h)
    · exact prL_pz (oL_sub h)
  · rw [List.pairwise_append]
    refine ⟨(prL_ne _).sublist List.filter_sublist, (prL_ne _).sublist List.filter_sublist, fun x hx y hy e => ?_⟩
    subst e
    have h1 := (prL_pz (oL_sub hx)).1
    have h2 : x.natAbs ∣ n.natAbs := by
      have := Int.natAbs_dvd_natAbs.2 (prL_dvd (oL_sub hx))
      rwa [Int.natAbs_natCast] at this
    have h3 : x.natAbs ∣ m.natAbs := by
      have := Int.natAbs_dvd_natAbs.2 (prL_dvd (oL_sub hy))
      rwa [Int.natAbs_natCast] at this
    have h4 := Nat.dvd_gcd h2 h3
    unfold Cop at hg
    rw [hg] at h4
    have := Nat.dvd_one.1 h4
    omega
/-- the class of a point of a quartic is that of its divisor -/
theorem class_mul {N D d m e : Int} (hN : N ≠ 0) (hD : D ≠ 0) (hd : d ≠ 0) (hm : m ≠ 0) (he : e ≠ 0) (hg : Cop N D) (h : N * (e * e) = d * (m * m) * D) : clV N * clV D = clV d := by
  obtain ⟨s1, p1, e1⟩ := clV_sq hN
  obtain ⟨s2, p2, e2⟩ := clV_sq hD
  obtain ⟨s3, p3, e3⟩ := clV_sq hd
  refine sq_uniq (u := s1 * s2 * e) (v := s3 * m * D) (clV_sf2 hg) (clV_sf d) ?_ ?_ ?_
  · exact Int.mul_ne_zero (Int.mul_ne_zero (by omega) (by omega)) he
  · exact Int.mul_ne_zero (Int.mul_ne_zero (by omega) hm) hD
  · have k : N * D * (e * e) = d * (m * m) * (D * D) := by
      have := congrArg (· * D) h
      try dsimp only at this
      grind
    have k1 : N * D = clV N * clV D * (s1 * s2 * (s1 * s2)) := by
      have : N * D = (clV N * (s1 * s1)) * (clV D * (s2 * s2)) := by rw [← e1, ← e2]
      rw [this]; grind
    have k2 : d * (m * m) * (D * D) = clV d * (s3 * m * D * (s3 * m * D)) := by
      have : d * (m * m) * (D * D) = (clV d * (s3 * s3)) * (m * m) * (D * D) := by rw [← e3]
      rw [this]; grind
    rw [k1, k2] at k
    rw [← k]; grind
theorem clF_in : ∀ {ps l : List Int} {n s : Int}, s ∈ l → clF n s ps ∈ dvA l ps
  | [], l, n, s, h => h
  | p :: ps, l, n, s, h => by
    show clF n (if vl n p % 2 = 1 then s * p else s) ps ∈ dvA (dvS l p) ps
    refine clF_in ?_
    split
    · exact dvS_mem.2 (.inr ⟨s, h, rfl⟩)
    · exact dvS_mem.2 (.inl h)
theorem clV_in (n : Int) : clV n ∈ dvR n.natAbs := (dvR_mem _ _).1 (clF_in (l := [-1, 1]) (by
  unfold clS
  split <;> simp))
theorem getD_mem {l : List Int} {j : Nat} (h : j < l.length) : l[j]?.getD 0 ∈ l := by
  rw [List.getElem?_eq_getElem h]; exact List.getElem_mem h
theorem exR_sq {r : Int} (hr : 0 ≤ r) : exR (r * r) = (r, true) := by
  have h0 : 0 ≤ r * r := Int.mul_nonneg hr hr
  have h1 : rtV (r * r) = r := (rtV_is h0).exact hr rfl
  unfold exR
  rw [if_neg (by omega), h1, if_pos rfl]
theorem cs_set1 (n : Int) : ∃ (s : Int) (L : List Int) (ok : Bool),
    RetC 5 #[.int .i64 n] (.tuple #[.int .i64 s, .bool ok]) ∧
    RetC 6 #[.int .i64 n] (.tuple #[.int .i64 s, .bool ok]) ∧
    (∀ W, Calls Try.prog 7 #[.int .i64 n] W (NewD W L ok)) ∧
    (∀ W, Calls Try.prog 8 #[.int .i64 n] W (NewD W L ok)) ∧
    (ok = true → s ≠ 0 ∧ n.tmod s = 0 ∧ (-1000000000 ≤ n ∧ n ≤ 1000000000) ∧ (-1000000000 ≤ s ∧ s ≤ 1000000000) ∧ (∃ r : Int, (0 ≤ r ∧ r ≤ 31623) ∧ r * r = n.tdiv s ∧ RetC 23 #[.agg #[.int .i64 (n.tdiv s), .int .i64 1]] (.tuple #[.agg #[.int .i64 r, .int .i64 1], .bool true])) ∧ s ∈ L ∧ -s ∈ L ∧
      ∀ i, i < L.length → L[i]?.getD 0 ≠ 0 ∧ (-1000000000 ≤ L[i]?.getD 0 ∧ L[i]?.getD 0 ≤ 1000000000) ∧ n.tmod (L[i]?.getD 0) = 0 ∧ (0 < i → L[i - 1]?.getD 0 < L[i]?.getD 0) ∧ L[L.length - 1 - i]?.getD 0 = -(L[i]?.getD 0)) ∧
    L.length ≤ 2000000000 := by
  refine ⟨spV n, sdL n, spB n, SquarefreePart_any n, sSquarefreePart_any n, SquarefreeDivisors_any n, sSquarefreeDivisors_any n, fun h => ?_, ?_⟩
  · have hb := spB_bd h
    unfold spV sdL
    rw [h, ifZ_t, if_pos rfl]
    obtain ⟨r, r1, r2⟩ := clV_sq hb.1
    have hc := clV_ne hb.1
    have hcb := clV_bd hb.1
    have hdv : clV n ∣ n := ⟨r * r, r2⟩
    have htd : n.tdiv (clV n) = r * r := by
      have : n.tdiv (clV n) = (clV n * (r * r)).tdiv (clV n) := by rw [← r2]
      rw [this, Int.mul_tdiv_cancel_left _ hc]
    have hrb : r ≤ 31623 := by
      have h1 : r * r ≤ n.natAbs := by
        have := tdiv_bd n (clV n)
        rw [htd] at this
        have := Int.mul_nonneg (show 0 ≤ r by omega) (show 0 ≤ r by omega)
        omega
      rcases Int.lt_or_le 31623 r with h2 | h2
      · have := Int.mul_le_mul (show 31624 ≤ r by omega) (show 31624 ≤ r by omega) (by omega) (by omega)
        omega
      · exact h2
    refine ⟨hc, Int.tmod_eq_zero_of_dvd hdv, hb.2, by omega, ⟨r, ⟨by omega, hrb⟩, htd.symm, fun W => ?_⟩, clV_in n, dvR_neg (clV_in n), fun i hi => ?_⟩
    · have h1 : 0 ≤ r * r := Int.mul_nonneg (by omega) (by omega)
      have h2 : r * r ≤ 31623 * 31623 := Int.mul_le_mul hrb hrb (by omega) (by omega)
      have := SquareRootOf_one (n.tdiv (clV n)) W (by
        have := tdiv_bd n (clV n)
        omega)
      rw [htd, exR_sq (by omega)] at this
      rw [htd]
      exact this
    · have hm := getD_mem hi
      have hbd := dvR_bd (n := n.natAbs) (by omega) _ hm
      refine ⟨hbd.1, by omega, Int.tmod_eq_zero_of_dvd (Int.dvd_natAbs.1 (dvR_dvd (by omega) hm)), fun h0 => ?_, dvR_at hi⟩
      obtain ⟨j, rfl⟩ : ∃ j, i = j + 1 := ⟨i - 1, by omega⟩
      exact sorted_at (dvR_sorted _) hi
  · unfold sdL
    split
    · rename_i h
      have hb := spB_bd h
      have h1 : (dvR n.natAbs).length ≤ (dvL n.natAbs).length := by
        have := dvB_len (prL n.natAbs) [-1, 1]
        unfold dvL
        rw [dvA_len]
        exact this
      have := dvL_len (n := n.natAbs) (by omega)
      omega
    · simp
theorem cs_set2 (a b nx dx : Int) : ∃ (c : Int) (o : Bool),
    RetC 10 #[.agg #[.int .i64 a, .int .i64 b], .agg #[.int .i64 nx, .int .i64 dx]] (.tuple #[.int .i64 c, .bool o]) ∧
    RetC 11 #[.agg #[.int .i64 a, .int .i64 b], .agg #[.int .i64 nx, .int .i64 dx]] (.tuple #[.int .i64 c, .bool o]) := ⟨_, _, SquareClass_any a b nx dx, sSquareClass_any a b nx dx⟩
theorem po_q {a b d m n e : Int} (hv : qvV d a (b.tdiv d) m e = n * n) (hm : b.tmod d = 0) (he : e ≠ 0) {X Y : Rat} (hx : X = qv (d * m * m) (e * e)) (hy : Y = qv (d * m * n) (e * e * e)) : Y * Y = X * ((X + (a : Rat)) * X + (b : Rat)) := by
  have hb : b = d * b.tdiv d := by have := Int.mul_tdiv_add_tmod b d; omega
  generalize b.tdiv d = c at *
  subst hb
  have he0 := ne_rat he
  have e2 : e * e ≠ 0 := Int.mul_ne_zero he he
  have e3 : e * e * e ≠ 0 := Int.mul_ne_zero e2 he
  have q1 := qv_mul (n := d * m * m) e2
  have q2 := qv_mul (n := d * m * n) e3
  rw [← hx] at q1
  rw [← hy] at q2
  have hv2 : ((qvV d a c m e : Int) : Rat) = ((n * n : Int) : Rat) := by rw [hv]
  unfold qvV at hv2
  push_cast at q1 q2 hv2 ⊢
  have k : (Y * Y - X * ((X + (a : Rat)) * X + (d : Rat) * (c : Rat))) * ((e : Rat) * e * e * ((e : Rat) * e * e)) = 0 := by grind
  rcases Rat.mul_eq_zero.1 k with h | h
  · grind
  · exfalso
    have z : ∀ x y : Rat, x * y = 0 → x ≠ 0 → y = 0 := fun x y h hx => (Rat.mul_eq_zero.1 h).resolve_left hx
    have n2 : (e : Rat) * e ≠ 0 := fun h => he0 (z _ _ h he0)
    have n3 : (e : Rat) * e * e ≠ 0 := fun h => he0 (z _ _ h n2)
    exact n3 (z _ _ h n3)
theorem cs_set3 (a b d m n e : Int) : ∃ (x1 x2 y1 y2 : Int) (o : Bool),
    RetC 13 #[.agg #[.int .i64 a, .int .i64 b], .int .i64 d, .int .i64 m, .int .i64 n, .int .i64 e] (.tuple #[.agg #[.int .i64 x1, .int .i64 x2], .agg #[.int .i64 y1, .int .i64 y2], .bool o]) ∧
    RetC 14 #[.agg #[.int .i64 a, .int .i64 b], .int .i64 d, .int .i64 m, .int .i64 n, .int .i64 e] (.tuple #[.agg #[.int .i64 x1, .int .i64 x2], .agg #[.int .i64 y1, .int .i64 y2], .bool o]) ∧
    (o = true → (∃ is told : Bool, RetC 25 #[.agg #[.int .i64 a, .int .i64 b], .agg #[.int .i64 x1, .int .i64 x2], .agg #[.int .i64 y1, .int .i64 y2]] (.tuple #[.bool is, .bool told]) ∧ (told = true → is = true)) ∧
      ∃ c : Int, RetC 10 #[.agg #[.int .i64 a, .int .i64 b], .agg #[.int .i64 x1, .int .i64 x2]] (.tuple #[.int .i64 c, .bool true]) ∧ RetC 5 #[.int .i64 d] (.tuple #[.int .i64 c, .bool true])) := by
  refine ⟨(pnV a b d m n e).1.1, (pnV a b d m n e).1.2, (pnV a b d m n e).2.1.1, (pnV a b d m n e).2.1.2, (pnV a b d m n e).2.2, PointOfQuartic_any a b d m n e, sPointOfQuartic_any a b d m n e, fun h => ?_⟩
  have hpo : pnB a b d m n e = true := by
    unfold pnV at h
    split at h
    · assumption
    · cases h
  rw [pnV_t hpo] at h ⊢
  have hp := hpo
  simp only [pnB, qoB, Bool.and_eq_true, decide_eq_true_eq] at hp
  obtain ⟨⟨t1, t2, t3⟩, t4, t5, t6, t7, t8, t9⟩ := hp
  unfold pnW at h ⊢
  split at h
  · rename_i hh
    rw [if_pos hh]
    obtain ⟨k1, k2⟩ := Bool.and_eq_true_iff.1 hh
    have e2 : e * e ≠ 0 := Int.mul_ne_zero t7 t7
    have e3 : e * e * e ≠ 0 := Int.mul_ne_zero e2 t7
    obtain ⟨fx, qx⟩ := mkF_q e2 k1
    obtain ⟨fy, qy⟩ := mkF_q e3 k2
    have hd := qoB_in t1 t2 t3
    have htc := tcB_bd t1
    dsimp only
    generalize mkF (d * m * m) (e * e) = X at *
    generalize mkF (d * m * n) (e * e * e) = Y at *
    obtain ⟨x1, x2, xo⟩ := X
    obtain ⟨y1, y2, yo⟩ := Y
    dsimp only at *
    have bx := frB_bd fx
    have hcr : x1 * (e * e) = d * (m * m) * x2 := by
      have := cross_of (by omega) e2 qx
      rw [this]; grind
    have hx0 : x1 ≠ 0 := by
      intro e0
      rw [e0, Int.zero_mul] at hcr
      exact Int.mul_ne_zero (Int.mul_ne_zero t2 (Int.mul_ne_zero t5 t5)) (show x2 ≠ 0 by omega) hcr.symm
    have hgc : Cop x1 x2 := by
      have := frB_gcd fx
      unfold gcdI Int.gcd at this
      unfold Cop Nat.Coprime
      omega
    refine ⟨⟨(twP a b x1 x2 y1 y2).1, (twP a b x1 x2 y1 y2).2, IsTwoPoint_any a b x1 x2 y1 y2, fun ht => ?_⟩, clV d, fun W => ?_, fun W => ?_⟩
    · have et : twP a b x1 x2 y1 y2 = onS a b x1 x2 y1 y2 := by unfold twP; rw [t1, fx, fy]; rfl
      rw [et] at ht ⊢
      exact (onS_q (by omega) (by omega) fx fy ht).2 (po_q t9 t3 t7 qx qy)
    · have := SquareClass_any a b x1 x2 W
      have hs : scB a b x1 x2 = true := by unfold scB; rw [t1, fx]; rfl
      rw [show scV a b x1 x2 = clV d by unfold scV; rw [hs, ifZ_t, if_neg hx0]; exact class_mul hx0 (by omega) t2 t5 t7 hgc hcr, hs] at this
      exact this
    · have := SquarefreePart_any d W
      have hs : spB d = true := by unfold spB; rw [inB_true (by omega) (by omega), decide_eq_true t2]; rfl
      rw [show spV d = clV d by unfold spV; rw [hs, ifZ_t], hs] at this
      exact this
  · cases h
theorem cs_set4 (a b d : Int) : ∃ (D A C : Int) (o : Bool),
    RetC 16 #[.agg #[.int .i64 a, .int .i64 b], .int .i64 d] (.tuple #[.agg #[.int .i64 D, .int .i64 A, .int .i64 C], .bool o]) ∧
    RetC 17 #[.agg #[.int .i64 a, .int .i64 b], .int .i64 d] (.tuple #[.agg #[.int .i64 D, .int .i64 A, .int .i64 C], .bool o]) ∧
    (o = true → (D * C = b ∧ A = a ∧ -300 ≤ b ∧ b ≤ 300) ∧ RetC 26 #[.agg #[.int .i64 D, .int .i64 A, .int .i64 C]] (.bool true)) := by
  refine ⟨ifZ (qoB a b d) d, ifZ (qoB a b d) a, ifZ (qoB a b d) (b.tdiv d), qoB a b d, QuarticOf_any a b d, sQuarticOf_any a b d, fun h => ?_⟩
  have hp := h
  simp only [qoB, Bool.and_eq_true, decide_eq_true_eq] at hp
  obtain ⟨t1, t2, t3⟩ := hp
  have htc := tcB_bd t1
  have hq := tq_bd d t1
  have hd := qoB_in t1 t2 t3
  have hb : b = d * b.tdiv d := by have := Int.mul_tdiv_add_tmod b d; omega
  rw [h]
  simp only [ifZ_t]
  refine ⟨⟨hb.symm, trivial, htc.2.1⟩, fun W => ?_⟩
  have hc : b.tdiv d ≠ 0 := fun e => by rw [e, Int.mul_zero] at hb; exact htc.2.2.1 hb
  have := XIsQuartic_any d a (b.tdiv d) W
  rw [show qaB d a (b.tdiv d) = true by unfold qaB; rw [inB_true (by omega) (by omega), inB_true (by omega) (by omega), inB_true (by omega) (by omega), decide_eq_true t2, decide_eq_true hc]; rfl] at this
  exact this
theorem cs_set5 (a b : Int) : ∃ (v : Int) (o : Bool),
    RetC 19 #[.agg #[.int .i64 a, .int .i64 b]] (.tuple #[.int .i64 v, .bool o]) ∧
    RetC 20 #[.agg #[.int .i64 a, .int .i64 b]] (.tuple #[.int .i64 v, .bool o]) ∧
    RetC 22 #[.agg #[.int .i64 a, .int .i64 b]] (.bool o) ∧
    (o = true → (-300 ≤ a ∧ a ≤ 300) ∧ (-300 ≤ b ∧ b ≤ 300) ∧ ∃ (x1 x2 : Int) (q : Bool), RetC 23 #[.agg #[.int .i64 (a * a - 4 * b), .int .i64 1]] (.tuple #[.agg #[.int .i64 x1, .int .i64 x2], .bool q]) ∧ ((v = 4 ∧ q = true) ∨ (v = 2 ∧ q = false))) := by
  refine ⟨ttV a b, tcB a b, TwoTorsion_any a b, sTwoTorsion_any a b, XIsTwoCurve_any a b, fun h => ?_⟩
  have htc := tcB_bd h
  have m1 := mul_bd (a := a) (b := a) (A := 300) (B := 300) (by omega) (by omega)
  refine ⟨htc.1, htc.2.1, _, _, _, fun W => SquareRootOf_one (a * a - 4 * b) W (by omega), ?_⟩
  unfold ttV ttO
  rw [h, ifZ_t]
  rcases (exR (a * a - 4 * b)).2 with _ | _
  · exact .inr ⟨if_neg (by simp), rfl⟩
  · exact .inl ⟨if_pos rfl, rfl⟩
end
section
open Go.RowKit
set_option linter.unusedVariables false
set_option maxHeartbeats 4000000
set_option maxRecDepth 20000
set_option linter.unusedSimpArgs false
theorem eqFr_at (d : Nat) (a b : Int) (w : World) : (Op.equalIn (d + 1 + 1) 32 (.agg #[.int .i64 a, .int .i64 b]) (.agg #[.int .i64 a, .int .i64 b])).run Try.prog w = .ok true w := by
  have u3 := Try.underlying3
  have hS : Try.prog.underlying 32 = some (.struct (Try.prog.fieldsOf 32)) := by kernel_rfl
  have hp : Try.prog.stoodInHeld 32 = false := by kernel_rfl
  rw [run_equalIn_agg w (d + 1) 32 _ _ hS hp]
  simp only [Program.fieldsOf, Try.underlying32]
  go_simp
theorem neqFr_same (a b : Int) (w : World) : (binOp .neq 32 (.agg #[.int .i64 a, .int .i64 b]) (.agg #[.int .i64 a, .int .i64 b])).run Try.prog w = .ok (.bool false) w := by
  rw [run_neq_struct, show (10000 : Nat) = 9998 + 1 + 1 from rfl, eqFr_at]
  rfl
theorem eqQu_at (d : Nat) (a b c : Int) (w : World) : (Op.equalIn (d + 1 + 1) 43 (.agg #[.int .i64 a, .int .i64 b, .int .i64 c]) (.agg #[.int .i64 a, .int .i64 b, .int .i64 c])).run Try.prog w = .ok true w := by
  have u3 := Try.underlying3
  have hS : Try.prog.underlying 43 = some (.struct (Try.prog.fieldsOf 43)) := by kernel_rfl
  have hp : Try.prog.stoodInHeld 43 = false := by kernel_rfl
  rw [run_equalIn_agg w (d + 1) 43 _ _ hS hp]
  simp only [Program.fieldsOf, Try.underlying43]
  go_simp
theorem neqQu_same (a b c : Int) (w : World) : (binOp .neq 43 (.agg #[.int .i64 a, .int .i64 b, .int .i64 c]) (.agg #[.int .i64 a, .int .i64 b, .int .i64 c])).run Try.prog w = .ok (.bool false) w := by
  rw [run_neq_struct, show (10000 : Nat) = 9998 + 1 + 1 from rfl, eqQu_at]
  rfl
theorem mem_at {l : List Int} {x : Int} (h : x ∈ l) : ∃ j, j < l.length ∧ l[j]?.getD 0 = x := by
  obtain ⟨j, hj, e⟩ := List.mem_iff_getElem.1 h
  exact ⟨j, hj, by rw [List.getElem?_eq_getElem hj]; exact e⟩
theorem at_mem {l : List Int} {j : Nat} (h : j < l.length) : l[j]?.getD 0 ∈ l := by
  rw [List.getElem?_eq_getElem h]; exact List.getElem_mem h
theorem qHas_any {a : Option Addr} {n c : Nat} {zs : List Int} {x : Int} {w : World} (h : Sx w a n c zs) : Calls Try.prog 24 #[.slice a n c, .int .i64 x] w fun e w' => e = .returned (.bool (decide (x ∈ zs))) ∧ Below w.heap.size w w' := by
  have hnm := h.cap
  have hnl := h.len
  have hnm2 := h.max
  unfold maxLen at hnm2
  obtain ⟨o, ho⟩ : ∃ o, decide (x ∈ zs) = o := ⟨_, rfl⟩
  rw [ho]
  have ho1 : ∀ k, k < n → zs[k]?.getD 0 = x → o = true := fun k hk e => by
    rw [← ho, decide_eq_true_eq, ← e]; exact at_mem (by omega)
  have ho2 : (∀ k, k < n → zs[k]?.getD 0 ≠ x) → o = false := fun q => by
    rw [← ho, decide_eq_false_iff_not]; intro hm
    obtain ⟨j, hj, e⟩ := mem_at hm
    exact q j (by omega) e
  replace ho1 := Lib.hid ho1
  replace ho2 := Lib.hid ho2
  clear ho
  go_enter Try.func24, Try.ntmps24
  go_wp2_with fail
  go_loopw [9] (fun iv wr => ∃ k : Nat, iv = .int .i64 k ∧ k ≤ n ∧ Hid (∀ j, j < k → zs[j]?.getD 0 ≠ x) ∧ ∃ m, wr = w.drewN m) (fun iv _ => (n - intOf iv).toNat)
  case atStart => exact ⟨0, rfl, by omega, Lib.hid (fun j hj => by omega), 0, rfl⟩
  case round =>
    obtain ⟨k, rfl, hk, hall, m, rfl⟩ := hrel
    by_cases h0 : k < n
    · obtain ⟨b, off, rfl, hb, hcs⟩ := h.at (by omega)
      have c0 := hcs k h0
      have hk2 : (k : Int) < (n : Int) := by omega
      obtain ⟨y, hy⟩ : ∃ y, zs[k]?.getD 0 = y := ⟨_, rfl⟩
      rw [hy] at c0
      clear hcs
      by_cases hyx : y = x
      · obtain rfl := ho1.out k h0 (hy.trans hyx)
        subst hyx
        have hyy : (y == y) = true := by simp
        go_wp2_with fail
        go_ret
        exact ⟨rfl, below_drewN (Below.refl _ _) _⟩
      · have hyy : (y == x) = false := by simpa using hyx
        have hall2 := Lib.hid (show ∀ j, j < k + 1 → zs[j]?.getD 0 ≠ x from fun j hj => by
          by_cases e : j = k
          · subst e; rw [hy]; exact hyx
          · exact hall.out j (by omega))
        clear hy hyx
        go_wp2_with fail
        go_roundw
        case rel => exact ⟨k + 1, by go_num, by omega, hall2, _, rfl⟩
        case measure => simp [intOf]; omega
    · obtain rfl : k = n := by omega
      obtain rfl := ho2.out hall.out
      go_wp2_with fail
      go_ret
      exact ⟨rfl, below_drewN (Below.refl _ _) _⟩
theorem qHas_yes {a : Option Addr} {n c : Nat} {zs : List Int} {x : Int} {w : World} (h : Sx w a n c zs) (hm : x ∈ zs) : Calls Try.prog 24 #[.slice a n c, .int .i64 x] w fun e w' => e = .returned (.bool true) ∧ Below w.heap.size w w' := by
  have := qHas_any (x := x) h
  rw [decide_eq_true hm] at this
  exact this
theorem qHas_no {a : Option Addr} {n c : Nat} {zs : List Int} {x : Int} {w : World} (h : Sx w a n c zs) (hm : x ∉ zs) : Calls Try.prog 24 #[.slice a n c, .int .i64 x] w fun e w' => e = .returned (.bool false) ∧ Below w.heap.size w w' := by
  have := qHas_any (x := x) h
  rw [decide_eq_false hm] at this
  exact this
theorem qInts_same {a a2 : Option Addr} {n c n2 c2 : Nat} {zs : List Int} {w : World} (h : Sx w a n c zs) (h2 : Sx w a2 n2 c2 zs) : Calls Try.prog 21 #[.slice a n c, .slice a2 n2 c2] w fun e w' => e = .returned (.bool true) ∧ Below w.heap.size w w' := by
  obtain rfl : n2 = n := by have := h2.len; have := h.len; omega
  have hnm := h.cap
  have hnm2 := h.max
  unfold maxLen at hnm2
  have e1 : ((n2 : Int) != (n2 : Int)) = false := by simp
  go_enter Try.func21, Try.ntmps21
  go_wp2_with fail
  go_loopw [13] (fun iv wr => ∃ k : Nat, iv = .int .i64 k ∧ k ≤ n2 ∧ ∃ m, wr = w.drewN m) (fun iv _ => (n2 - intOf iv).toNat)
  case atStart => exact ⟨0, rfl, by omega, 0, rfl⟩
  case round =>
    obtain ⟨k, rfl, hk, m, rfl⟩ := hrel
    by_cases h0 : k < n2
    · obtain ⟨b, off, rfl, hb, hcs⟩ := h.at (by omega)
      obtain ⟨b2, off2, rfl, hb2, hcs2⟩ := h2.at (by omega)
      have c0 := hcs k h0
      have d0 := hcs2 k h0
      have hk2 : (k : Int) < (n2 : Int) := by omega
      have hx : ∀ x : Int, (x != x) = false := fun x => by simp
      clear hcs hcs2
      go_wp2_with fail
      go_quiet (fail)
      go_wp2_with fail
      go_roundw
      case rel => exact ⟨k + 1, by go_num, by omega, _, rfl⟩
      case measure => simp [intOf]; omega
    · obtain rfl : k = n2 := by omega
      go_wp2_with fail
      go_ret
      exact ⟨rfl, below_drewN (Below.refl _ _) _⟩
end
end Go.Proofs.Ytnemnkbcbokafaa
