/- The rational roots of a cubic: the program. -/
import Derived.Test.YtldonmcbnhgbdaaCuS
import Derived.Test.YtldonmcbnhgbdaaBy
import Derived.Maps.AppendAt
namespace Go.Proofs.Ytldonmcbnhgbdaa
open Go.RowKit
set_option linter.unusedVariables false
set_option maxHeartbeats 4000000
set_option maxRecDepth 20000
set_option linter.unusedSimpArgs false
theorem infoFr : (Try.prog.info? 37).map (fun i => (i.zero, i.size, i.bytes)) = some (some (.agg #[.int .i64 0, .int .i64 0]), 2, 16) := by kernel_rfl
/-- the numbers of a list of pairs, one after the other -/
def flat : List Fr2 → List Int
  | [] => []
  | (a, b) :: l => a :: b :: flat l
theorem flat_len : ∀ l, (flat l).length = 2 * l.length
  | [] => rfl
  | (a, b) :: l => by simp [flat, flat_len l]; omega
theorem flat_append : ∀ l m, flat (l ++ m) = flat l ++ flat m
  | [], m => rfl
  | (a, b) :: l, m => by simp [flat, flat_append l m]
theorem flat_at : ∀ (l : List Fr2) (i : Nat), i < l.length → (flat l)[i * 2]?.getD 0 = (l[i]?.getD (0, 1)).1 ∧ (flat l)[i * 2 + 1]?.getD 0 = (l[i]?.getD (0, 1)).2
  | (a, b) :: l, 0, _ => by simp [flat]
  | (a, b) :: l, i + 1, h => by
    have := flat_at l i (by simpa using h)
    simpa [flat, Nat.add_mul, Nat.succ_mul] using this
/-- a row of fractions that a call has made -/
def OwnR (W : World) (B : Nat) (v : Value) (l : List Fr2) : Prop := W.ownsRow B 37 2 v l.length (ints (flat l))
theorem OwnR.below {W W2 : World} {B : Nat} {v : Value} {l : List Fr2} (h : OwnR W B v l) (hb : Below W.heap.size W W2) : OwnR W2 B v l :=
  ⟨h.1, h.2.imp id fun ⟨g, cap, cur, hv, hB, hg, rest⟩ => ⟨g, cap, cur, hv, hB, (hb.block g (blk_lt' hg)).trans hg, rest⟩⟩
theorem OwnR.nil (W : World) (B : Nat) : OwnR W B (.slice none 0 0) [] := World.ownsRow_nil _ _ _ _
/-- a slice of fractions that a call has made, once and for all -/
def SlR (W : World) (B : Nat) (v : Value) (l : List Fr2) : Prop := (v = .slice none 0 0 ∧ l = []) ∨ ∃ g cap, v = .slice (some ⟨g, 0, none⟩) l.length cap ∧ l.length ≤ cap ∧ cap ≤ maxLen ∧ B ≤ g ∧ RowQ W g l
theorem OwnR.sl {W : World} {B : Nat} {v : Value} {l : List Fr2} (h : OwnR W B v l) : SlR W B v l := by
  obtain ⟨hx, h⟩ := h
  rcases h with ⟨h1, h2⟩ | ⟨g, cap, cur, hv, hB, hg, hnc, hcm, hcs, ht⟩
  · exact .inl ⟨h1, List.length_eq_zero_iff.1 h2⟩
  · refine .inr ⟨g, cap, hv, hnc, hcm, hB, blk_lt' hg, fun i hi => ?_⟩
    have hl := flat_len l
    have hc : ∀ j, j < 2 * l.length → W.cell? ⟨g, j, none⟩ = some (.int .i64 ((flat l)[j]?.getD 0)) := fun j hj => by
      rw [cell_of_row W g j cur 37 (0, 0) hg]
      have h3 : (ints (flat l))[j]? = cur[j]? := by rw [← ht, List.getElem?_take, if_pos (by omega)]; simp
      rw [← h3, ints_at _ j (by omega), List.getD_eq_getElem?_getD]
    obtain ⟨f1, f2⟩ := flat_at l i hi
    have c1 := hc (i * 2) (by omega)
    have c2 := hc (i * 2 + 1) (by omega)
    rw [f1] at c1
    rw [f2] at c2
    exact ⟨c1, c2, blk_frozen hg _, blk_frozen hg _⟩
theorem cells2_new (w : World) (x y : Value) (t : TypeId) : ∀ j u, [x, y][j]? = some u → (w.alloc (.cells #[x, y] t)).cell? ((⟨w.heap.size, 0, none⟩ : Addr).add j) = some u := by
  intro j u hj
  match j, hj with
  | 0, hj => simp at hj; subst hj; simp [Addr.add]
  | 1, hj => simp at hj; subst hj; simp [Addr.add]
theorem row_typeR {W : World} {B : Nat} {v : Value} {l : List Fr2} (h : OwnR W B v l) {i t : Nat} {c : Array Value} (hi : W.heap[i]? = some (Obj.cells c t (0, 0))) (hte : t ≠ 37) : some i ≠ v.ownBlock := by
  rcases h.2 with ⟨rfl, _⟩ | ⟨g, cap, cur, rfl, hB, hgb, _⟩
  · simp [Value.ownBlock]
  · intro e'
    obtain rfl : i = g := by simpa [Value.ownBlock] using e'
    rw [hi] at hgb; simp at hgb
    exact hte hgb.2
theorem lsV_bd {a b c d : Int} (ha : -1000 ≤ a ∧ a ≤ 1000) (hb : -1000 ≤ b ∧ b ≤ 1000) (hc : -1000 ≤ c ∧ c ≤ 1000) (hd : -1000 ≤ d ∧ d ≤ 1000) : -1000 ≤ lsV a b c d ∧ lsV a b c d ≤ 1000 := by
  unfold lsV laV
  (repeat' split) <;> assumption
theorem rt_fx {a b c d : Int} (ha : -1000 ≤ a ∧ a ≤ 1000) (hb : -1000 ≤ b ∧ b ≤ 1000) (hc : -1000 ≤ c ∧ c ≤ 1000) (hd : -1000 ≤ d ∧ d ≤ 1000) (h0 : a ≠ 0) {x : Fr2} (h : RtP a b c d x) : 1 ≤ x.2 ∧ x.2 ≤ 1000 ∧ -1000 ≤ x.1 ∧ x.1 ≤ 1000 := by
  have h1 := root_den h.low h.zero
  have b2 := Int.le_of_dvd (b := a.natAbs) (by omega) (Int.dvd_natAbs.2 h1)
  refine ⟨h.den, by omega, ?_⟩
  by_cases hn : x.1 = 0
  · omega
  · have h2 : x.1 ∣ lsV a b c d := root_num h.low hn h.zero
    have hl := lsV_ne (b := b) (c := c) (d := d) h0
    have b1 := Int.le_of_dvd (b := (lsV a b c d).natAbs) (by omega) (Int.natCast_dvd_natCast.2 (Int.natAbs_dvd_natAbs.2 h2))
    have b3 := lsV_bd ha hb hc hd
    omega
/-- the last coefficient that is not 0 among the first i of b, c, d -/
def ls3 (a b c d : Int) (i : Nat) : Int := if 2 < i ∧ d ≠ 0 then d else if 1 < i ∧ c ≠ 0 then c else if 0 < i ∧ b ≠ 0 then b else a
def ls3N (b c d : Int) (i : Nat) : Int := if i = 0 then b else if i = 1 then c else d
theorem ls3_step (a b c d : Int) {i : Nat} (h : i < 3) : ls3 a b c d (i + 1) = if ls3N b c d i ≠ 0 then ls3N b c d i else ls3 a b c d i := by
  unfold ls3 ls3N
  rcases (show i = 0 ∨ i = 1 ∨ i = 2 by omega) with rfl | rfl | rfl <;> simp
theorem ls3_end (a b c d : Int) : ls3 a b c d 3 = lsV a b c d := by
  unfold ls3 lsV laV
  by_cases hd : d = 0 <;> by_cases hc : c = 0 <;> by_cases hb : b = 0 <;> simp [hd, hc, hb]
theorem dvd_mod (x d : Int) (hd : d ≠ 0) : (x.tmod d != 0) = !decide (x % d = 0) ∧ (x % d != 0) = !decide (x % d = 0) := by
  by_cases h : x % d = 0
  · have := Int.tmod_eq_zero_of_dvd (Int.dvd_of_emod_eq_zero h)
    simp [h, this]
  · have : x.tmod d ≠ 0 := fun q => h (Int.emod_eq_zero_of_dvd (Int.dvd_of_tmod_eq_zero q))
    simp [h, this]
def L1Rel (w : World) (a b c d : Int) (lv iv : Value) (wr : World) : Prop := ∃ i : Nat, iv = .int .i64 i ∧ lv = .int .i64 (ls3 a b c d i) ∧ i ≤ 3 ∧ wr.heap[w.heap.size]? = some (.cells #[.int .i64 a, .int .i64 b, .int .i64 c, .int .i64 d] 24 (0, 0)) ∧ wr.heap[w.heap.size + 1]? = some (.cells #[.int .i64 b, .int .i64 c, .int .i64 d] 3 (0, 0)) ∧ Below w.heap.size w wr
/-- what holds in the loops -/
def L2In (w : World) (a b c d : Int) (v : Value) (l : List Fr2) (wr : World) : Prop := OwnR wr (w.heap.size + 1) v l ∧ wr.heap[w.heap.size]? = some (.cells #[.int .i64 a, .int .i64 b, .int .i64 c, .int .i64 d] 24 (0, 0)) ∧ Below w.heap.size w wr
def L2Rel (w : World) (a b c d L : Int) (ov dv : Value) (wr : World) : Prop := ∃ (k : Nat) (v : Value), dv = .int .i64 ((k : Int) + 1) ∧ v = ov ∧ k ≤ a.natAbs ∧ L2In w a b c d v (spB d ++ imE a b c d L L.natAbs k) wr
def L3Rel (w : World) (a b c d L e : Int) (l : List Fr2) (ov nv : Value) (wr : World) : Prop := ∃ (k : Nat) (v : Value), nv = .int .i64 ((k : Int) + 1) ∧ v = ov ∧ k ≤ L.natAbs ∧ L2In w a b c d v (l ++ imN a b c d L e k) wr
def imX (a b c d n e : Int) (t : Nat) : List Fr2 := (if 0 < t then imT a b c d n e else []) ++ (if 1 < t then imT a b c d (-n) e else [])
def imY (n : Int) (t : Nat) : Int := if t = 0 then n else -n
theorem imX_step (a b c d n e : Int) {t : Nat} (h : t < 2) : imX a b c d n e (t + 1) = imX a b c d n e t ++ imT a b c d (imY n t) e := by
  rcases (show t = 0 ∨ t = 1 by omega) with rfl | rfl <;> simp [imX, imY]
theorem imX_end (a b c d n e : Int) : imX a b c d n e 2 = imJ a b c d n e := by simp [imX, imJ]
theorem imX_len (a b c d n e : Int) (t : Nat) : (imX a b c d n e t).length ≤ 2 := by
  unfold imX
  rw [List.length_append]
  have := imT_len a b c d n e
  have := imT_len a b c d (-n) e
  split <;> split <;> simp <;> omega
def L4Rel (w : World) (a b c d n e : Int) (g : Nat) (l : List Fr2) (ov tv : Value) (wr : World) : Prop := ∃ (t : Nat) (v : Value), tv = .int .i64 t ∧ v = ov ∧ t ≤ 2 ∧ wr.heap[g]? = some (.cells #[.int .i64 n, .int .i64 (-n)] 3 (0, 0)) ∧ L2In w a b c d v (l ++ imX a b c d n e t) wr
theorem imI_yes {a b c d L e : Int} {i : Nat} (h1 : L % ((i : Int) + 1) = 0) (h2 : gcdI ((i : Int) + 1) e = 1) : imI a b c d L e i = imJ a b c d ((i : Int) + 1) e := by unfold imI; rw [if_pos ⟨h1, h2⟩]
theorem imI_no {a b c d L e : Int} {i : Nat} (h : ¬ (L % ((i : Int) + 1) = 0 ∧ gcdI ((i : Int) + 1) e = 1)) : imI a b c d L e i = [] := by unfold imI; rw [if_neg h]
theorem gcdBelow (x y : Int) (W : World) (hx : -9223372036854775807 ≤ x ∧ x ≤ 9223372036854775807) (hy : -9223372036854775807 ≤ y ∧ y ≤ 9223372036854775807) : Calls Try.prog 47 #[.int .i64 x, .int .i64 y] W fun e w' => e = .returned (.int .i64 (gcdI x y)) ∧ Below W.heap.size W w' :=
  (gcd_any x y W hx.1 hx.2 hy.1 hy.2).mono fun e w' h => ⟨h.1, by obtain ⟨n, rfl⟩ := h.2; exact ⟨rfl, rfl, rfl, Nat.le_refl _, fun _ _ => rfl⟩⟩
theorem keepR {W V : World} {b : Nat} {X : Obj} (h : Below W.heap.size W V) (e : W.heap[b]? = some X) : V.heap[b]? = some X := (h.block b (Array.getElem?_eq_some_iff.1 e).1).trans e
theorem rationalRoots_any (a b c d : Int) (w : World) (hcu : cuB a b c d = true) : Calls Try.prog 26 #[.agg #[.int .i64 a, .int .i64 b, .int .i64 c, .int .i64 d]] w fun r w' =>
    ∃ v B, r = .returned v ∧ SlR w' B v (spL a b c d) ∧ w.heap.size ≤ B ∧ Below w.heap.size w w' := by
  obtain ⟨i0, hi, iz0, iz1, iz2⟩ := info_parts infoFr
  obtain ⟨h0, ha, hb, hc, hd⟩ := cuB_bd hcu
  have H0 := Lib.hid h0
  clear hcu h0
  have tok1 : True := trivial
  have tok2 : True := trivial
  have tok3 : True := trivial
  have tok4 : True := trivial
  have tok5 : True := trivial
  have tok6 : True := trivial
  have tok7 : True := trivial
  have tok8 : True := trivial
  have tok9 : True := trivial
  go_enter Try.func26, Try.ntmps26
  go_upto_region 3 with fail
  refine chk (fun W => Below w.heap.size w W ∧ W.heap[w.heap.size]? = some (.cells #[.int .i64 a, .int .i64 b, .int .i64 c, .int .i64 d] 24 (0, 0)) ∧ W.heap[w.heap.size + 1]? = some (.cells #[.int .i64 b, .int .i64 c, .int .i64 d] 3 (0, 0))) (by refine ⟨?_, ?_, ?_⟩ <;> (repeat' first | (with_reducible first | assumption | (apply Ne.symm; assumption) | apply Nat.le_refl | apply Nat.le_add_right | apply zL | apply zRf | apply Wx.box | apply Wx.box4 | apply zWa | apply Wx.drew | apply zWn | apply bx_drew | apply bx_drewN | apply bx_set3 | apply bx_set2 | apply bx_set4 | apply bx_set1) | ((with_reducible apply bx_new); (focus (go_size; done))) | (with_reducible first | apply zOl | apply zFa | apply zDn | apply zDr | apply zAl | apply zSt | refine zVi (by assumption) ?_ ?_) | go_size | omega)) ?_
  rintro w1 ⟨hB1, H_Q_1, H_R_1⟩
  obtain ⟨k_Q_1_0, k_Q_1_1, k_Q_1_2, k_Q_1_3, f_Q_1, l_Q_1⟩ := bk4 H_Q_1
  replace H_Q_1 := Lib.hid H_Q_1
  obtain ⟨k_R_1_0, k_R_1_1, k_R_1_2, f_R_1, l_R_1⟩ := bk3 H_R_1
  replace H_R_1 := Lib.hid H_R_1
  go_loopw [3, 21] (fun lv iv wr => L1Rel w a b c d lv iv wr) (fun _ iv _ => (3 - intOf iv).toNat)
  case atStart => exact ⟨0, rfl, by simp [ls3], by omega, H_Q_1.out, H_R_1.out, hB1⟩
  case round =>
    obtain ⟨i, rfl, rfl, hi3, hQ, hR, hbw⟩ := hrel
    by_cases hlt : i < 3
    · have hltc : (i : Int) < 3 := by omega
      have hst := ls3_step a b c d hlt
      obtain ⟨x, hx⟩ : ∃ x, ls3N b c d i = x := ⟨_, rfl⟩
      have c0 : wr.cell? ⟨w.heap.size + 1, i, none⟩ = some (.int .i64 x) := by
        have hcc := blk_cell hR
        rw [← hx]
        rcases (show i = 0 ∨ i = 1 ∨ i = 2 by omega) with rfl | rfl | rfl
        · exact hcc 0
        · exact hcc 1
        · exact hcc 2
      have hl1 := blk_lt' hR
      rw [hx] at hst
      have HQ := Lib.hid hQ
      have HR := Lib.hid hR
      clear hx hQ hR
      by_cases hx0 : x = 0
      · subst hx0
        simp only [ne_eq, not_true_eq_false, if_false] at hst
        have HS := Lib.hid hst
        have hxx : ((0 : Int) != 0) = false := rfl
        clear hst
        generalize ls3 a b c d i = s at *
        go_wp2_with fail
        go_roundw
        case rel => exact ⟨i + 1, by go_num, by rw [HS.out], by omega, HQ.out, HR.out, hbw⟩
        case measure => simp [intOf]; omega
      · rw [if_pos hx0] at hst
        have HS := Lib.hid hst
        have hxx : (x != 0) = true := by simpa using hx0
        clear hst
        generalize ls3 a b c d i = s at *
        go_wp2_with fail
        go_roundw
        case rel => exact ⟨i + 1, by go_num, by rw [HS.out], by omega, HQ.out, HR.out, hbw⟩
        case measure => simp [intOf]; omega
    · obtain rfl : i = 3 := by omega
      rw [ls3_end]
      have hlb := lsV_bd ha hb hc hd
      have hL0 := lsV_ne (b := b) (c := c) (d := d) H0.out
      have HSO := Lib.hid (fun (l : List Fr2) h1 h2 => im_sort (b := b) (c := c) (d := d) (l := l) H0.out h1 h2)
      have HFX := Lib.hid (fun x (hx : x ∈ imL a b c d) => rt_fx ha hb hc hd H0.out ((imL_mem H0.out).1 hx))
      obtain ⟨L, hL⟩ : ∃ L, lsV a b c d = L := ⟨_, rfl⟩
      have HIM := Lib.hid (show imL a b c d = spB d ++ imE a b c d L L.natAbs a.natAbs by unfold imL; rw [hL])
      rw [hL] at hlb hL0 ⊢
      have HL0 := Lib.hid hL0
      clear hL hL0
      have hq0 : wr.cell? ⟨w.heap.size, 3, none⟩ = some (.int .i64 d) := blk_cell hQ 3
      have hql := blk_lt' hQ
      have HQ := Lib.hid hQ
      clear hQ hR
      by_cases hd0 : d = 0
      all_goals first
        | (have hdd : (d == 0) = false := by simpa using hd0
           have hst0 : L2In w a b c d (.slice none 0 0) (spB d) wr := ⟨by unfold spB; rw [if_neg hd0]; exact OwnR.nil _ _, HQ.out, hbw⟩
           have HST0 := Lib.hid hst0
           clear hst0
           go_wp2_with fail
           clear hq0)
        | (have HD0 := Lib.hid hd0
           rw [hd0] at hq0
           clear hd0
           have hdd : ((0 : Int) == 0) = true := rfl
           have hsw := hbw.size
           go_wp2_with (first | (at_builtin; refine wpList_append_own_at _ rfl _ _ 26 rfl (w.heap.size + 1) 37 i0 (.agg #[.int .i64 0, .int .i64 0]) 2 16 Try.underlying26 hi iz0 iz1 iz2 rfl (by decide) (.slice none 0 0) 0 [] rfl (World.ownsRow_nil _ _ _ _) ⟨wr.heap.size, 0, none⟩ 1 1 [_, _] rfl rfl (cells2_new _ _ _ _) (by simp [Value.oneCell']) (by unfold maxLen; omega) (by omega) (by simp; omega) ?_; intro v1 w6 hv1 hg1 _ hat))
           have hst0 : L2In w a b c d v1 (spB d) w6 := ⟨by unfold spB OwnR; rw [if_pos HD0.out]; exact hv1, (hg1.block _ (by simp; omega) (by simp [Value.ownBlock])).trans (bx_old HQ.out _), (hbw.alloc (by omega) _).grown hg1 (by simp; omega) (fun j h => by simp [Value.ownBlock] at h)⟩
           have HST0 := Lib.hid hst0
           clear hst0 hv1 hg1 hat hq0
           go_wp2_with fail)
      all_goals
        go_loopw [6, 7] (fun ov dv wr => L2Rel w a b c d L ov dv wr) (fun _ dv _ => (a.natAbs + 1 - intOf dv).toNat)
        case atStart => exact ⟨0, _, by first | rfl | simp, rfl, by omega, by simpa [imE] using HST0.out⟩
        case round =>
          obtain ⟨k, v, rfl, rfl, hk, ho, hQ2, hb2⟩ := hrel
          have hs2 := hb2.size
          have q0 : wr.cell? ⟨w.heap.size, 0, none⟩ = some (.int .i64 a) := blk_cell hQ2 0
          have hql2 := blk_lt' hQ2
          have HQ2 := Lib.hid hQ2
          have HO := Lib.hid ho
          have hle := imE_len a b c d L L.natAbs k
          clear hQ2 ho
          by_cases hka : k < a.natAbs
          · have hkc : (k : Int) + 1 ≤ max a (-a) := by omega
            obtain ⟨hm1, hm2⟩ := dvd_mod a ((k : Int) + 1) (by omega)
            have hsu := imE_succ a b c d L L.natAbs k
            unfold imH at hsu
            by_cases hda : a % ((k : Int) + 1) = 0
            · rw [if_pos hda] at hsu
              rw [decide_eq_true hda] at hm1 hm2
              have hkM : k * (2 * L.natAbs) ≤ 1000 * 2000 := Nat.mul_le_mul (by omega) (by omega)
              have hl0b : (spB d ++ imE a b c d L L.natAbs k).length ≤ 2000001 := by
                rw [List.length_append]
                have : (spB d).length ≤ 1 := by unfold spB; split <;> simp
                omega
              have hsu2 : spB d ++ imE a b c d L L.natAbs (k + 1) = (spB d ++ imE a b c d L L.natAbs k) ++ imN a b c d L ((k : Int) + 1) L.natAbs := by rw [hsu, List.append_assoc]
              obtain ⟨l0, hl0⟩ : ∃ l0, spB d ++ imE a b c d L L.natAbs k = l0 := ⟨_, rfl⟩
              rw [hl0] at HO hl0b hsu2
              have HSU := Lib.hid hsu2
              clear hsu hsu2 hda hle hkM hl0
              go_wp2_with fail
              go_loopw [6, 8] (fun ov nv wr => L3Rel w a b c d L ((k : Int) + 1) l0 ov nv wr) (fun _ nv _ => (L.natAbs + 1 - intOf nv).toNat)
              case atStart => exact ⟨0, v, by first | rfl | simp, rfl, by omega, by simpa [imN] using HO.out, HQ2.out, hb2⟩
              case round =>
                obtain ⟨j, v, rfl, rfl, hj, hoj, hQj, hbj⟩ := hrel
                have hsj := hbj.size
                have hln := imN_len a b c d L ((k : Int) + 1) j
                have hlqj := blk_lt' hQj
                have HQJ := Lib.hid hQj
                have HOJ := Lib.hid hoj
                clear hQj hoj
                by_cases hjl : j < L.natAbs
                · have hjc : (j : Int) + 1 ≤ max L (-L) := by omega
                  obtain ⟨hp1, hp2⟩ := dvd_mod L ((j : Int) + 1) (by omega)
                  have hsv := imN_succ a b c d L ((k : Int) + 1) j
                  have TG := fun W : World => Lib.hid (gcdBelow ((j : Int) + 1) ((k : Int) + 1) W (by omega) (by omega))
                  by_cases hdl : L % ((j : Int) + 1) = 0
                  · rw [decide_eq_true hdl] at hp1 hp2
                    by_cases hg : gcdI ((j : Int) + 1) ((k : Int) + 1) = 1
                    · rw [imI_yes hdl hg] at hsv
                      rw [hg] at TG
                      have hl1b : (l0 ++ imN a b c d L ((k : Int) + 1) j).length ≤ 2002001 := by rw [List.length_append]; omega
                      have hsv2 : l0 ++ imN a b c d L ((k : Int) + 1) (j + 1) = (l0 ++ imN a b c d L ((k : Int) + 1) j) ++ imJ a b c d ((j : Int) + 1) ((k : Int) + 1) := by rw [hsv, List.append_assoc]
                      obtain ⟨l1, hl1⟩ : ∃ l1, l0 ++ imN a b c d L ((k : Int) + 1) j = l1 := ⟨_, rfl⟩
                      rw [hl1] at HOJ hl1b hsv2
                      have HSV := Lib.hid hsv2
                      clear hsv hsv2 hdl hg hln hl1
                      go_wp2_with (first | (have _t := tok3; go_at_call 47; (with_reducible refine ((TG _).out).mono ?_); rintro e w3 ⟨rfl, hb3⟩; clear tok3 _t; have hz3 := hb3.size; (try simp only [World.size_alloc, World.size_setCell, World.size_drew, World.size_drewN'] at hz3)))
                      have hs3 := hb3.size
                      have HO3 := Lib.hid (HOJ.out.below hb3)
                      have HQ3 := Lib.hid (keepR hb3 HQJ.out)
                      have hb3w := hbj.trans (hb3.mono hsj)
                      clear HOJ HQJ TG
                      go_loopw [6, 74] (fun ov tv wr => L4Rel w a b c d ((j : Int) + 1) ((k : Int) + 1) w3.heap.size l1 ov tv wr) (fun _ tv _ => (2 - intOf tv).toNat)
                      case atStart => exact ⟨0, v, rfl, rfl, by omega, bx_new rfl, by simpa [imX] using (HO3.out.below ((Below.refl _ _).alloc (Nat.le_refl _) _)), bx_old HQ3.out _, hb3w.alloc (by omega) _⟩
                      case round =>
                        obtain ⟨t, v, rfl, rfl, ht, hR4, ho4, hQ4, hb4w⟩ := hrel
                        have hs4 := hb4w.size
                        by_cases htl : t < 2
                        · have htc : (t : Int) < 2 := by omega
                          have hst := imX_step a b c d ((j : Int) + 1) ((k : Int) + 1) htl
                          have hl2b : (l1 ++ imX a b c d ((j : Int) + 1) ((k : Int) + 1) t).length ≤ 2002003 := by
                            rw [List.length_append]
                            have := imX_len a b c d ((j : Int) + 1) ((k : Int) + 1) t
                            omega
                          obtain ⟨x, hx⟩ : ∃ x, imY ((j : Int) + 1) t = x := ⟨_, rfl⟩
                          have c0 : wr.cell? ⟨w3.heap.size, t, none⟩ = some (.int .i64 x) := by
                            have hcc := blk_cell hR4
                            rw [← hx]
                            rcases (show t = 0 ∨ t = 1 by omega) with rfl | rfl
                            · exact hcc 0
                            · exact hcc 1
                          have hxb : -1000 ≤ x ∧ x ≤ 1000 := by rw [← hx]; unfold imY; split <;> omega
                          have p0 : wr.cell? ⟨w.heap.size, 0, none⟩ = some (.int .i64 a) := blk_cell hQ4 0
                          have p1 : wr.cell? ⟨w.heap.size, 1, none⟩ = some (.int .i64 b) := blk_cell hQ4 1
                          have p2 : wr.cell? ⟨w.heap.size, 2, none⟩ = some (.int .i64 c) := blk_cell hQ4 2
                          have p3 : wr.cell? ⟨w.heap.size, 3, none⟩ = some (.int .i64 d) := blk_cell hQ4 3
                          have hlr := blk_lt' hR4
                          have hlq := blk_lt' hQ4
                          have TV := fun W : World => Lib.hid (over_any a b c d x ((k : Int) + 1) W ha hb hc hd (by omega) (by omega))
                          rw [hx] at hst
                          unfold imT at hst
                          obtain ⟨z, hz⟩ : ∃ z, cuV a b c d x ((k : Int) + 1) = z := ⟨_, rfl⟩
                          rw [hz] at TV hst
                          have hst2 : l1 ++ imX a b c d ((j : Int) + 1) ((k : Int) + 1) (t + 1) = (l1 ++ imX a b c d ((j : Int) + 1) ((k : Int) + 1) t) ++ (if z = 0 then [(x, (k : Int) + 1)] else []) := by rw [hst, List.append_assoc]
                          obtain ⟨l2, hl2⟩ : ∃ l2, l1 ++ imX a b c d ((j : Int) + 1) ((k : Int) + 1) t = l2 := ⟨_, rfl⟩
                          rw [hl2] at ho4 hl2b hst2
                          have HO4a := Lib.hid ho4
                          have HQ4 := Lib.hid hQ4
                          have HR4 := Lib.hid hR4
                          clear hst hx hz hl2 ho4 hQ4 hR4
                          by_cases hz0 : z = 0
                          · subst hz0
                            rw [if_pos rfl] at hst2
                            have HST := Lib.hid hst2
                            clear hst2
                            go_upto_region 23 with (first | (have _t := tok4; go_at_call 46; (with_reducible refine ((TV _).out).mono ?_); rintro e w4 ⟨rfl, hb4⟩; clear tok4 _t; have hz4 := hb4.size; (try simp only [World.size_alloc, World.size_setCell, World.size_drew, World.size_drewN'] at hz4)))
                            have hs44 := hb4.size
                            have HO4 := Lib.hid (HO4a.out.below hb4)
                            have HQ5 := Lib.hid (keepR hb4 HQ4.out)
                            have HR5 := Lib.hid (keepR hb4 HR4.out)
                            have hb5w := hb4w.trans (hb4.mono hs4)
                            clear HO4a HQ4 HR4 TV c0 p0 p1 p2 p3
                            go_wp2_with (first | (at_builtin; refine wpList_append_own_at _ rfl _ _ 26 rfl (w.heap.size + 1) 37 i0 (.agg #[.int .i64 0, .int .i64 0]) 2 16 Try.underlying26 hi iz0 iz1 iz2 rfl (by decide) v _ _ rfl (HO4.out.alloc _) ⟨w4.heap.size, 0, none⟩ 1 1 [_, _] rfl rfl (cells2_new _ _ _ _) (by simp [Value.oneCell']) (by unfold maxLen; omega) (by omega) (by simp; omega) ?_; intro v1 w6 hv1 hg1 _ hat))
                            go_roundw
                            case rel =>
                              refine ⟨t + 1, v1, by go_num, rfl, by omega, ?_, ?_, ?_, ?_⟩
                              · have h5 := bx_old HR5.out (.cells #[.int .i64 x, .int .i64 ((k : Int) + 1)] 37 (0, 0))
                                exact (hg1.block _ (blk_lt' h5) (row_typeR (HO4.out.below ((Below.refl _ _).alloc (Nat.le_refl _) _)) h5 (by decide))).trans h5
                              · unfold OwnR
                                rw [HST.out, flat_append, ints_append, List.length_append]
                                simpa [ints, flat] using hv1
                              · have h5 := bx_old HQ5.out (.cells #[.int .i64 x, .int .i64 ((k : Int) + 1)] 37 (0, 0))
                                exact (hg1.block _ (blk_lt' h5) (row_typeR (HO4.out.below ((Below.refl _ _).alloc (Nat.le_refl _) _)) h5 (by decide))).trans h5
                              · exact (hb5w.alloc (by omega) _).grown hg1 (by simp; omega) (fun i h => by have := (HO4.out.lt _ h).1; omega)
                            case measure => simp [intOf]; omega
                          · rw [if_neg hz0, List.append_nil] at hst2
                            have HST := Lib.hid hst2
                            have hzz : (z == 0) = false := by simpa using hz0
                            clear hst2 hz0
                            go_wp2_with (first | (have _t := tok4; go_at_call 46; (with_reducible refine ((TV _).out).mono ?_); rintro e w4 ⟨rfl, hb4⟩; clear tok4 _t; have hz4 := hb4.size; (try simp only [World.size_alloc, World.size_setCell, World.size_drew, World.size_drewN'] at hz4)))
                            go_roundw
                            case rel => exact ⟨t + 1, v, by go_num, rfl, by omega, keepR hb4 HR4.out, by rw [HST.out]; exact HO4a.out.below hb4, keepR hb4 HQ4.out, hb4w.trans (hb4.mono hs4)⟩
                            case measure => simp [intOf]; omega
                        · obtain rfl : t = 2 := by omega
                          rw [imX_end, ← HSV.out] at ho4
                          have HO9 := Lib.hid ho4
                          have HQ9 := Lib.hid hQ4
                          clear ho4 hQ4 hR4
                          go_wp2_with fail
                          go_roundw
                          case rel =>
                            first
                            | exact ⟨j + 1, v, by go_num, rfl, by omega, HO9.out, HQ9.out, hb4w⟩
                            | ((repeat (with_reducible apply Exists.intro)); exact ⟨⟨j + 1, v, by go_num, rfl, by omega, HO9.out, HQ9.out, hb4w⟩, rfl⟩)
                          case measure => simp [intOf]; omega
                    · rw [imI_no (fun q => hg q.2), List.append_nil] at hsv
                      have HSV := Lib.hid hsv
                      obtain ⟨gg, hgg⟩ : ∃ gg, gcdI ((j : Int) + 1) ((k : Int) + 1) = gg := ⟨_, rfl⟩
                      rw [hgg] at TG hg
                      have hgn : (gg != 1) = true := by simpa using hg
                      clear hsv hdl hg hgg hln
                      go_wp2_with (first | (have _t := tok3; go_at_call 47; (with_reducible refine ((TG _).out).mono ?_); rintro e w3 ⟨rfl, hb3⟩; clear tok3 _t; have hz3 := hb3.size; (try simp only [World.size_alloc, World.size_setCell, World.size_drew, World.size_drewN'] at hz3)))
                      go_roundw
                      case rel =>
                        first
                        | exact ⟨j + 1, v, by go_num, rfl, by omega, by rw [HSV.out]; exact HOJ.out.below hb3, keepR hb3 HQJ.out, hbj.trans (hb3.mono hsj)⟩
                        | ((repeat (with_reducible apply Exists.intro)); exact ⟨⟨j + 1, v, by go_num, rfl, by omega, by rw [HSV.out]; exact HOJ.out.below hb3, keepR hb3 HQJ.out, hbj.trans (hb3.mono hsj)⟩, rfl⟩)
                      case measure => simp [intOf]; omega
                  · rw [imI_no (fun q => hdl q.1), List.append_nil] at hsv
                    rw [decide_eq_false hdl] at hp1 hp2
                    have HSV := Lib.hid hsv
                    clear hsv hdl hln TG
                    go_wp2_with fail
                    go_roundw
                    case rel =>
                      first
                      | exact ⟨j + 1, v, by go_num, rfl, by omega, by rw [HSV.out]; exact HOJ.out, HQJ.out, hbj⟩
                      | ((repeat (with_reducible apply Exists.intro)); exact ⟨⟨j + 1, v, by go_num, rfl, by omega, by rw [HSV.out]; exact HOJ.out, HQJ.out, hbj⟩, rfl⟩)
                    case measure => simp [intOf]; omega
                · obtain rfl : j = L.natAbs := by omega
                  have HO9 := HOJ.out
                  rw [← HSU.out] at HO9
                  have HO9 := Lib.hid HO9
                  clear HOJ hln
                  go_wp2_with fail
                  go_roundw
                  case rel =>
                    first
                    | exact ⟨k + 1, v, by go_num, rfl, by omega, HO9.out, HQJ.out, hbj⟩
                    | ((repeat (with_reducible apply Exists.intro)); exact ⟨⟨k + 1, v, by go_num, rfl, by omega, HO9.out, HQJ.out, hbj⟩, rfl⟩)
                  case measure => simp [intOf]; omega
            · rw [if_neg hda, List.append_nil] at hsu
              rw [decide_eq_false hda] at hm1 hm2
              have HSU := Lib.hid hsu
              clear hsu hda hle
              go_wp2_with fail
              go_roundw
              case rel =>
                first
                | exact ⟨k + 1, v, by go_num, rfl, by omega, by rw [HSU.out]; exact HO.out, HQ2.out, hb2⟩
                | ((repeat (with_reducible apply Exists.intro)); exact ⟨⟨k + 1, v, by go_num, rfl, by omega, by rw [HSU.out]; exact HO.out, HQ2.out, hb2⟩, rfl⟩)
              case measure => simp [intOf]; omega
          · obtain rfl : k = a.natAbs := by omega
            have ho := HO.out
            rw [← HIM.out] at ho
            have hlen : (imL a b c d).length ≤ 4000000 := by
              rw [HIM.out, List.length_append]
              have : (spB d).length ≤ 1 := by unfold spB; split <;> simp
              have : a.natAbs * (2 * L.natAbs) ≤ 1000 * 2000 := Nat.mul_le_mul (by omega) (by omega)
              omega
            clear HO hle
            have hke : ¬ ((a.natAbs : Int) + 1 ≤ max a (-a)) := by omega
            rcases ho.sl with ⟨rfl, hnil⟩ | ⟨g, cap, rfl, hlc, hcm, hBg, hrow⟩
            · have TS := Lib.hid (sortF_none wr)
              have HSP := Lib.hid (HSO.out [] (by rw [hnil]) List.Pairwise.nil)
              clear hnil ho hlen
              go_wp2_with (first | (go_at_call 48; (with_reducible refine (TS.out).mono ?_); rintro e w7 ⟨rfl, hrest⟩))
              go_ret
              subst hrest
              exact ⟨_, w.heap.size, rfl, .inl ⟨rfl, HSP.out.symm⟩, Nat.le_refl _, hb2⟩
            · have TS := Lib.hid (sortF_any g cap (imL a b c d) (fun x hx => by have := HFX.out x hx; unfold FxP; omega) w.heap.size wr hrow (by omega) hlen)
              have HSO2 := HSO
              generalize imL a b c d = il at *
              clear ho hrow hlen
              go_wp2_with (first | (go_at_call 48; (with_reducible refine (TS.out).mono ?_); rintro e w7 ⟨rfl, hrest⟩))
              go_ret
              obtain ⟨l', hp, hs, hr, hb7⟩ := hrest
              have hl := HSO2.out l' hp hs
              have hll : (spL a b c d).length = il.length := by rw [← hl]; exact hp.length_eq
              exact ⟨.slice (some ⟨g, 0, none⟩) il.length cap, w.heap.size, rfl, .inr ⟨g, cap, by rw [hll], by rw [hll]; exact hlc, hcm, by omega, by rw [← hl]; exact hr⟩, Nat.le_refl _, hb2.trans hb7⟩
end Go.Proofs.Ytldonmcbnhgbdaa
