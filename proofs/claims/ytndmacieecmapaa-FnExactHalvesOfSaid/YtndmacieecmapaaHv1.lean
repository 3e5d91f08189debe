/- Points at given first coordinates: the program's and the reference's lists, in memory. -/
import Derived.Test.YtndmacieecmapaaHvP
import Derived.Test.YtndmacieecmapaaMkX
import Derived.Maps.AppendAt
namespace Go.Proofs.Ytndmacieecmapaa
open Go.RowKit
set_option linter.unusedVariables false
set_option maxHeartbeats 4000000
set_option maxRecDepth 20000
set_option linter.unusedSimpArgs false
theorem infoPt : (Try.prog.info? 31).map (fun i => (i.zero, i.size, i.bytes)) = some (some (.agg #[.int .i64 0, .int .i64 0, .int .i64 0]), 3, 24) := by kernel_rfl
def flat3 : List P3 → List Int
  | [] => []
  | (a, b, c) :: l => a :: b :: c :: flat3 l
theorem flat3_len : ∀ l, (flat3 l).length = 3 * l.length
  | [] => rfl
  | (a, b, c) :: l => by simp [flat3, flat3_len l]; omega
theorem flat3_append : ∀ l m, flat3 (l ++ m) = flat3 l ++ flat3 m
  | [], m => rfl
  | (a, b, c) :: l, m => by simp [flat3, flat3_append l m]
theorem flat3_at : ∀ (l : List P3) (i : Nat), i < l.length → (flat3 l)[i * 3]?.getD 0 = (l[i]?.getD (0, 0, 0)).1 ∧ (flat3 l)[i * 3 + 1]?.getD 0 = (l[i]?.getD (0, 0, 0)).2.1 ∧ (flat3 l)[i * 3 + 2]?.getD 0 = (l[i]?.getD (0, 0, 0)).2.2
  | (a, b, c) :: l, 0, _ => by simp [flat3]
  | (a, b, c) :: l, i + 1, h => by
    have := flat3_at l i (by simpa using h)
    simpa [flat3, Nat.add_mul, Nat.succ_mul] using this
theorem rowX_blk {W : World} {G : Nat} {T : TypeId} {cs : Array Value} {zs : List Int} (h : W.heap[G]? = some (.cells cs T (0, 0))) (hc : cs.toList = ints zs) : RowX W G zs :=
  ⟨blk_lt' h, fun j hj => ⟨by rw [blk_cell h j, ← Array.getElem?_toList, hc, ints_at zs j hj, List.getD_eq_getElem?_getD], blk_frozen h _⟩⟩
/-- a row of points that a call has made -/
def OwnX (W : World) (B : Nat) (v : Value) (l : List P3) : Prop := W.ownsRow B 31 3 v l.length (ints (flat3 l))
theorem OwnX.below {W W2 : World} {B : Nat} {v : Value} {l : List P3} (h : OwnX W B v l) (hb : Below W.heap.size W W2) : OwnX W2 B v l :=
  ⟨h.1, h.2.imp id fun ⟨g, cap, cur, hv, hB, hg, rest⟩ => ⟨g, cap, cur, hv, hB, (hb.block g (blk_lt' hg)).trans hg, rest⟩⟩
theorem OwnX.nil (W : World) (B : Nat) : OwnX W B (.slice none 0 0) [] := World.ownsRow_nil _ _ _ _
theorem OwnX.toX {W : World} {B : Nat} {v : Value} {l : List P3} (h : OwnX W B v l) : SlX W B 3 v l.length (flat3 l) := by
  refine ⟨flat3_len l, ?_⟩
  obtain ⟨hx, h⟩ := h
  rcases h with ⟨h1, h2⟩ | ⟨g, cap, cur, hv, hB, hg, hnc, hcm, hcs, ht⟩
  · exact .inl ⟨h1, h2⟩
  · refine .inr ⟨g, cap, hv, hnc, hcm, hB, blk_lt' hg, fun j hj => ⟨?_, blk_frozen hg _⟩⟩
    rw [cell_of_row W g j cur 31 (0, 0) hg]
    have hl := flat3_len l
    have h3 : (ints (flat3 l))[j]? = cur[j]? := by rw [← ht, List.getElem?_take, if_pos (by omega)]; simp
    rw [← h3, ints_at _ j hj, List.getD_eq_getElem?_getD]
theorem cells3_new' (w : World) (x y z : Value) (t : TypeId) : ∀ j u, [x, y, z][j]? = some u → (w.alloc (.cells #[x, y, z] t)).cell? ((⟨w.heap.size, 0, none⟩ : Addr).add j) = some u := by
  intro j u hj
  match j, hj with
  | 0, hj => simp at hj; subst hj; simp [Addr.add]
  | 1, hj => simp at hj; subst hj; simp [Addr.add]
  | 2, hj => simp at hj; subst hj; simp [Addr.add]
theorem row_typeX {W : World} {B : Nat} {v : Value} {l : List P3} (h : OwnX W B v l) {i t : Nat} {c : Array Value} (hi : W.heap[i]? = some (Obj.cells c t (0, 0))) (hte : t ≠ 31) : some i ≠ v.ownBlock := by
  rcases h.2 with ⟨rfl, _⟩ | ⟨g, cap, cur, rfl, hB, hgb, _⟩
  · simp [Value.ownBlock]
  · intro e'
    obtain rfl : i = g := by simpa [Value.ownBlock] using e'
    rw [hi] at hgb; simp at hgb
    exact hte hgb.2
noncomputable def hvA (A B x e : Int) : List P3 := if (exR (evV A B x e)).2 = true then pm (x, hvY A B x e, e) else []
theorem hvQ_yes {A B x e : Int} (h : gcdI x e = 1) : hvQ A B x e = hvA A B x e := by unfold hvQ hvA hvOk; simp [h]
theorem hvQ_no {A B x e : Int} (h : ¬ gcdI x e = 1) : hvQ A B x e = [] := by unfold hvQ hvOk; simp [h]
theorem keepX {W V : World} {b : Nat} {X : Obj} (h : Below W.heap.size W V) (e : W.heap[b]? = some X) : V.heap[b]? = some X := (h.block b (Array.getElem?_eq_some_iff.1 e).1).trans e
theorem frSquare_any (n : Int) (w : World) (h0 : 0 ≤ n) (h1 : n ≤ 4000000000000000000) : Calls Try.prog 27 #[.int .i64 n] w fun e w' => e = .returned (.bool (rtV n * rtV n == n)) ∧ w = w' := by
  have TR := fun W : World => Lib.hid (frRoot_any n W h0 h1)
  have hr := rtV_spec' h0
  have hb : 0 ≤ rtV n ∧ rtV n * rtV n ≤ n := ⟨hr.1, hr.2.1⟩
  have hb2 : 0 ≤ rtV n * rtV n := Int.mul_nonneg hb.1 hb.1
  generalize rtV n = r at *
  clear hr
  go_enter Try.func27, Try.ntmps27
  go_wp2_with (first | (go_at_call 28; (with_reducible refine ((TR _).out).mono ?_); rintro e w' ⟨rfl, rfl⟩))
  go_ret
  exact ⟨rfl, rfl⟩
theorem ptAtX_any (A B x e : Int) (w : World) (hA : -1000 ≤ A ∧ A ≤ 1000) (hB : -10000 ≤ B ∧ B ≤ 10000) (hx : -10000 ≤ x ∧ x ≤ 10000) (he : 1 ≤ e ∧ e ≤ 20) :
    Calls Try.prog 15 #[.agg #[.int .i64 A, .int .i64 B], .int .i64 x, .int .i64 e] w fun r w' => ∃ v, r = .returned v ∧ SlX w' w.heap.size 3 v (hvA A B x e).length (flat3 (hvA A B x e)) ∧ Below w.heap.size w w' := by
  have TV := fun W : World => Lib.hid (ptValue_any A B x e W hA hB hx he)
  have hvb := evV_bd hA hB hx (e := e) (by omega)
  unfold hvA hvY
  generalize evV A B x e = n at *
  by_cases hn : n < 0
  · have HV := Lib.hid (show exR n = (0, false) by simp [exR, hn])
    have TQ := TV; have TR := TV
    rw [HV.out, if_neg (by simp)]
    have tok1 : True := trivial
    have tok2 : True := trivial
    have tok3 : True := trivial
    go_enter Try.func15, Try.ntmps15
    go_wp2_with (first | (have _t := tok1; go_at_call 26; (with_reducible refine ((TV _).out).mono ?_); rintro e w1 ⟨rfl, hb1⟩; clear tok1 _t; have hz1 := hb1.size; (try simp only [World.size_alloc, World.size_setCell, World.size_drew, World.size_drewN'] at hz1); (try (have kq := cellAt hb1 (w.heap.size) (by go_size); have k1_w_0_0 := kq 0; have k1_w_0_1 := kq 1; clear kq; have f1_w_0 := frozAt hb1 (w.heap.size) (by go_size); simp [go_sem, *] at k1_w_0_0 k1_w_0_1 f1_w_0)); (try have l1_w_0 : w.heap.size < w1.heap.size := by omega)) | (go_at_call 27; (with_reducible refine ((TQ _).out).mono ?_); rintro e w' ⟨rfl, rfl⟩) | (go_at_call 28; (with_reducible refine ((TR _).out).mono ?_); rintro e w' ⟨rfl, rfl⟩))
    go_ret
    refine ⟨_, rfl, ⟨rfl, .inl ⟨rfl, rfl⟩⟩, ?_⟩
    repeat' first | (with_reducible first | apply zRf | assumption | apply zDn | apply zDr | apply zAl | apply zSt | refine zVi (by assumption) ?_ ?_) | go_size
  · have TQ := fun W : World => Lib.hid (frSquare_any n W (by omega) (by omega))
    have TR := fun W : World => Lib.hid (frRoot_any n W (by omega) (by omega))
    have hr := rtV_spec' (n := n) (by omega)
    have hxr : exR n = if rtV n * rtV n = n then (rtV n, true) else (0, false) := by unfold exR; rw [if_neg hn]
    obtain ⟨hr0, hr1, -⟩ := hr
    have hrb : rtV n ≤ 3000000 := by
      refine Int.not_lt.1 fun h2 => ?_
      have this : 3000001 * 3000001 ≤ rtV n * rtV n := Int.mul_le_mul (by omega) (by omega) (by omega) (by omega)
      omega
    generalize rtV n = r at *
    by_cases hs : r * r = n
    · rw [if_pos hs] at hxr
      have hss : (r * r == n) = true := by simpa using hs
      rw [hss] at TQ
      have HS := Lib.hid hs
      have HV := Lib.hid hxr
      clear hxr hs hss hr1
      by_cases h0 : n = 0
      · have hnn : (n == 0) = true := by simpa using h0
        have HR0 := Lib.hid (show r = 0 by have := HS.out; rw [h0] at this; rcases Int.mul_eq_zero.1 this with q | q <;> exact q)
        have hnd : decide (n < 0) = false := by simpa using hn
        clear h0
        have hpm : pm (x, r, e) = [(x, 0, e)] := by unfold pm; rw [if_pos HR0.out]
        rw [HV.out, if_pos rfl, show pm (x, ((r, true) : Int × Bool).1, e) = [(x, 0, e)] from hpm]
        clear hpm
        have tok1 : True := trivial
        have tok2 : True := trivial
        have tok3 : True := trivial
        go_enter Try.func15, Try.ntmps15
        go_wp2_with (first | (have _t := tok1; go_at_call 26; (with_reducible refine ((TV _).out).mono ?_); rintro e w1 ⟨rfl, hb1⟩; clear tok1 _t; have hz1 := hb1.size; (try simp only [World.size_alloc, World.size_setCell, World.size_drew, World.size_drewN'] at hz1); (try (have kq := cellAt hb1 (w.heap.size) (by go_size); have k1_w_0_0 := kq 0; have k1_w_0_1 := kq 1; clear kq; have f1_w_0 := frozAt hb1 (w.heap.size) (by go_size); simp [go_sem, *] at k1_w_0_0 k1_w_0_1 f1_w_0)); (try have l1_w_0 : w.heap.size < w1.heap.size := by omega)) | (go_at_call 27; (with_reducible refine ((TQ _).out).mono ?_); rintro e w' ⟨rfl, rfl⟩) | (go_at_call 28; (with_reducible refine ((TR _).out).mono ?_); rintro e w' ⟨rfl, rfl⟩))
        go_ret
        refine ⟨_, rfl, ?_, ?_⟩
        · refine ⟨rfl, .inr ⟨_, _, rfl, Nat.le_refl _, (by unfold maxLen; omega), ?_, rowX_blk (heap_alloc_new _ _) rfl⟩⟩
          go_size
        · repeat' first | (with_reducible first | apply zRf | assumption | apply zDn | apply zDr | apply zAl | apply zSt | refine zVi (by assumption) ?_ ?_) | go_size
      · have hnn : (n == 0) = false := by simpa using h0
        have HR0 := Lib.hid (show r ≠ 0 by intro q; have := HS.out; rw [q] at this; exact h0 (by omega))
        have hnd : decide (n < 0) = false := by simpa using hn
        clear h0
        have hpm : pm (x, r, e) = [(x, -r, e), (x, r, e)] := by unfold pm; rw [if_neg HR0.out]
        rw [HV.out, if_pos rfl, show pm (x, ((r, true) : Int × Bool).1, e) = [(x, -r, e), (x, r, e)] from hpm]
        clear hpm
        have tok1 : True := trivial
        have tok2 : True := trivial
        have tok3 : True := trivial
        go_enter Try.func15, Try.ntmps15
        go_wp2_with (first | (have _t := tok1; go_at_call 26; (with_reducible refine ((TV _).out).mono ?_); rintro e w1 ⟨rfl, hb1⟩; clear tok1 _t; have hz1 := hb1.size; (try simp only [World.size_alloc, World.size_setCell, World.size_drew, World.size_drewN'] at hz1); (try (have kq := cellAt hb1 (w.heap.size) (by go_size); have k1_w_0_0 := kq 0; have k1_w_0_1 := kq 1; clear kq; have f1_w_0 := frozAt hb1 (w.heap.size) (by go_size); simp [go_sem, *] at k1_w_0_0 k1_w_0_1 f1_w_0)); (try have l1_w_0 : w.heap.size < w1.heap.size := by omega)) | (go_at_call 27; (with_reducible refine ((TQ _).out).mono ?_); rintro e w' ⟨rfl, rfl⟩) | (go_at_call 28; (with_reducible refine ((TR _).out).mono ?_); rintro e w' ⟨rfl, rfl⟩))
        go_ret
        refine ⟨_, rfl, ?_, ?_⟩
        · refine ⟨rfl, .inr ⟨_, _, rfl, Nat.le_refl _, (by unfold maxLen; omega), ?_, rowX_blk (heap_alloc_new _ _) rfl⟩⟩
          go_size
        · repeat' first | (with_reducible first | apply zRf | assumption | apply zDn | apply zDr | apply zAl | apply zSt | refine zVi (by assumption) ?_ ?_) | go_size
    · rw [if_neg hs] at hxr
      have hss : (r * r == n) = false := by simpa using hs
      rw [hss] at TQ
      have HV := Lib.hid hxr
      have hnd : decide (n < 0) = false := by simpa using hn
      clear hxr hs hss
      rw [HV.out, if_neg (by simp)]
      have tok1 : True := trivial
      have tok2 : True := trivial
      have tok3 : True := trivial
      go_enter Try.func15, Try.ntmps15
      go_wp2_with (first | (have _t := tok1; go_at_call 26; (with_reducible refine ((TV _).out).mono ?_); rintro e w1 ⟨rfl, hb1⟩; clear tok1 _t; have hz1 := hb1.size; (try simp only [World.size_alloc, World.size_setCell, World.size_drew, World.size_drewN'] at hz1); (try (have kq := cellAt hb1 (w.heap.size) (by go_size); have k1_w_0_0 := kq 0; have k1_w_0_1 := kq 1; clear kq; have f1_w_0 := frozAt hb1 (w.heap.size) (by go_size); simp [go_sem, *] at k1_w_0_0 k1_w_0_1 f1_w_0)); (try have l1_w_0 : w.heap.size < w1.heap.size := by omega)) | (go_at_call 27; (with_reducible refine ((TQ _).out).mono ?_); rintro e w' ⟨rfl, rfl⟩) | (go_at_call 28; (with_reducible refine ((TR _).out).mono ?_); rintro e w' ⟨rfl, rfl⟩))
      go_ret
      refine ⟨_, rfl, ⟨rfl, .inl ⟨rfl, rfl⟩⟩, ?_⟩
      repeat' first | (with_reducible first | apply zRf | assumption | apply zDn | apply zDr | apply zAl | apply zSt | refine zVi (by assumption) ?_ ?_) | go_size
def PwRel (w : World) (A B : Int) (m : Nat) (e : Int) (ov xv : Value) (wr : World) : Prop := ∃ (k : Nat) (v : Value), xv = .int .i64 (-(m : Int) + k) ∧ v = ov ∧ k ≤ 2 * m + 1 ∧ OwnX wr (w.heap.size + 1) v (hvW A B m e k) ∧ wr.heap[w.heap.size]? = some (.cells #[.int .i64 A, .int .i64 B] 29 (0, 0)) ∧ Below w.heap.size w wr
theorem gcdBelow' (x y : Int) (W : World) (hx : -9223372036854775807 ≤ x ∧ x ≤ 9223372036854775807) (hy : -9223372036854775807 ≤ y ∧ y ≤ 9223372036854775807) : Calls Try.prog 32 #[.int .i64 x, .int .i64 y] W fun e w' => e = .returned (.int .i64 (gcdI x y)) ∧ Below W.heap.size W w' :=
  (gcd_any x y W hx.1 hx.2 hy.1 hy.2).mono fun e w' h => ⟨h.1, by obtain ⟨n, rfl⟩ := h.2; exact ⟨rfl, rfl, rfl, Nat.le_refl _, fun _ _ => rfl⟩⟩
theorem pointsWithE_any (A B e : Int) (m : Nat) (w : World) (hA : -1000 ≤ A ∧ A ≤ 1000) (hB : -10000 ≤ B ∧ B ≤ 10000) (he : 1 ≤ e ∧ e ≤ 20) (hm : m ≤ 1000) :
    Calls Try.prog 19 #[.agg #[.int .i64 A, .int .i64 B], .int .i64 e, .int .i64 m] w fun r w' => ∃ v, r = .returned v ∧ SlX w' w.heap.size 3 v (hvW A B m e (2 * m + 1)).length (flat3 (hvW A B m e (2 * m + 1))) ∧ Below w.heap.size w w' := by
  obtain ⟨i0, hi, iz0, iz1, iz2⟩ := info_parts infoPt
  have tok1 : True := trivial
  have tok2 : True := trivial
  have tok3 : True := trivial
  go_enter Try.func19, Try.ntmps19
  go_upto_region 1 with fail
  refine chk (fun W => Below w.heap.size w W ∧ W.heap[w.heap.size]? = some (.cells #[.int .i64 A, .int .i64 B] 29 (0, 0))) (by refine ⟨?_, ?_⟩ <;> (repeat' first | (with_reducible first | assumption | (apply Ne.symm; assumption) | apply Nat.le_refl | apply Nat.le_add_right | apply zL | apply zRf | apply Wx.box | apply Wx.box4 | apply zWa | apply Wx.drew | apply zWn | apply bx_drew | apply bx_drewN | apply bx_set3 | apply bx_set2 | apply bx_set4 | apply bx_set1) | ((with_reducible apply bx_new); (focus (go_size; done))) | (with_reducible first | apply zOl | apply zFa | apply zDn | apply zDr | apply zAl | apply zSt | refine zVi (by assumption) ?_ ?_) | go_size | omega)) ?_
  rintro w9 ⟨hB9, H_C_9⟩
  obtain ⟨k_C_9_0, k_C_9_1, f_C_9, l_C_9⟩ := bk2 H_C_9
  replace H_C_9 := Lib.hid H_C_9
  go_wp2_with fail
  go_loopw [7, 8] (fun ov xv wr => PwRel w A B m e ov xv wr) (fun _ xv _ => (m + 1 - intOf xv).toNat)
  case atStart => exact ⟨0, _, by simp, rfl, by omega, OwnX.nil _ _, H_C_9.out, hB9⟩
  case round =>
    obtain ⟨k, v, rfl, rfl, hk, ho, hC, hbw⟩ := hrel
    have hsw := hbw.size
    have q0 : wr.cell? ⟨w.heap.size, 0, none⟩ = some (.int .i64 A) := blk_cell hC 0
    have q1 : wr.cell? ⟨w.heap.size, 1, none⟩ = some (.int .i64 B) := blk_cell hC 1
    have lq := blk_lt' hC
    have HC := Lib.hid hC
    have HO := Lib.hid ho
    clear hC ho
    have hl := hvW_len A B m e k
    have hsu : hvW A B m e (k + 1) = hvW A B m e k ++ if hvOk A B (-(m : Int) + k) e = true then [(-(m : Int) + k, hvY A B (-(m : Int) + k) e, e)] else [] := rfl
    by_cases hlt : k < 2 * m + 1
    · have hltc : -(m : Int) + (k : Int) ≤ (m : Int) := by omega
      obtain ⟨x, hx⟩ : ∃ x, -(m : Int) + (k : Int) = x := ⟨_, rfl⟩
      have hxb : -1000 ≤ x ∧ x ≤ 1000 := by omega
      have hxn : x + 1 = -(m : Int) + ((k + 1 : Nat) : Int) := by omega
      have hxm : (m + 1 - (x + 1)).toNat < (m + 1 - x).toNat := by omega
      rw [hx] at hsu hltc ⊢
      have TG := fun W : World => Lib.hid (gcdBelow' x e W (by omega) (by omega))
      have TC := fun W : World => Lib.hid (curveValue_any A B x e W hA hB (by omega) (by omega))
      have hvb := evV_bd hA hB (x := x) (by omega) (e := e) (by omega)
      have TX := fun W : World => Lib.hid (exactRoot_any (evV A B x e) W (by omega) (by omega))
      have hok : hvOk A B x e = (decide (gcdI x e = 1) && (exR (evV A B x e)).2) := rfl
      have hvy : hvY A B x e = (exR (evV A B x e)).1 := rfl
      rw [hok, hvy] at hsu
      obtain ⟨l0, hl0⟩ : ∃ l, hvW A B m e k = l := ⟨_, rfl⟩
      rw [hl0] at HO hl hsu
      have HXN := Lib.hid hxn
      have HXM := Lib.hid hxm
      clear hok hvy hl0 hx hxn hxm
      by_cases hg : gcdI x e = 1
      · rw [hg] at TG
        rw [decide_eq_true hg, Bool.true_and] at hsu
        obtain ⟨⟨y, ok⟩, hxr⟩ : ∃ q, exR (evV A B x e) = q := ⟨_, rfl⟩
        rw [hxr] at TX hsu
        simp only at TX hsu
        generalize evV A B x e = n at *
        clear hg hxr
        cases ok
        · rw [if_neg (by simp), List.append_nil] at hsu
          have HSU := Lib.hid hsu
          clear hsu
          go_wp2_with (first | (have _t := tok1; go_at_call 32; (with_reducible refine ((TG _).out).mono ?_); rintro e w1 ⟨rfl, hb1⟩; clear tok1 _t; have hz1 := hb1.size; (try simp only [World.size_alloc, World.size_setCell, World.size_drew, World.size_drewN'] at hz1); (try (have kq := cellAt hb1 (w.heap.size) (by go_size); have k1_w_0_0 := kq 0; have k1_w_0_1 := kq 1; clear kq; have f1_w_0 := frozAt hb1 (w.heap.size) (by go_size); simp [go_sem, *] at k1_w_0_0 k1_w_0_1 f1_w_0)); (try have l1_w_0 : w.heap.size < w1.heap.size := by omega)) | (have _t := tok2; go_at_call 33; (with_reducible refine ((TC _).out).mono ?_); rintro e w2 ⟨rfl, hb2⟩; clear tok2 _t; have hz2 := hb2.size; (try simp only [World.size_alloc, World.size_setCell, World.size_drew, World.size_drewN'] at hz2); (try (have kq := cellAt hb2 (w.heap.size) (by go_size); have k2_w_0_0 := kq 0; have k2_w_0_1 := kq 1; clear kq; have f2_w_0 := frozAt hb2 (w.heap.size) (by go_size); simp [go_sem, *] at k2_w_0_0 k2_w_0_1 f2_w_0)); (try have l2_w_0 : w.heap.size < w2.heap.size := by omega); (try clear k1_w_0_0 k1_w_0_1 f1_w_0); (try clear l1_w_0)) | (go_at_call 34; (with_reducible refine ((TX _).out).mono ?_); rintro e w' ⟨rfl, rfl⟩) | (at_builtin; refine wpList_append_own_at _ rfl _ _ 26 rfl (w.heap.size + 1) 31 i0 (.agg #[.int .i64 0, .int .i64 0, .int .i64 0]) 3 24 Try.underlying26 hi iz0 iz1 iz2 rfl (by decide) v _ _ rfl ((HO.out.below (below_via hb2 hb1 (by have := hb1.size; omega))).alloc _) ⟨w2.heap.size, 0, none⟩ 1 1 [_, _, _] rfl rfl (cells3_new' _ _ _ _ _) (by simp [Value.oneCell']) (by unfold maxLen; omega) (by omega) (by simp; omega) ?_; intro v1 w6 hv1 hg1 _ hat))
          have hb12 := below_via hb2 hb1 (by have := hb1.size; omega)
          go_roundw
          case rel => exact ⟨k + 1, v, by rw [HXN.out], rfl, by omega, by rw [HSU.out]; exact HO.out.below hb12, keepX hb12 HC.out, hbw.trans (hb12.mono hsw)⟩
          case measure => simpa [intOf] using HXM.out
        · rw [if_pos rfl] at hsu
          have HSU := Lib.hid hsu
          clear hsu
          have hs2 : True := trivial
          go_wp2_with (first | (have _t := tok1; go_at_call 32; (with_reducible refine ((TG _).out).mono ?_); rintro e w1 ⟨rfl, hb1⟩; clear tok1 _t; have hz1 := hb1.size; (try simp only [World.size_alloc, World.size_setCell, World.size_drew, World.size_drewN'] at hz1); (try (have kq := cellAt hb1 (w.heap.size) (by go_size); have k1_w_0_0 := kq 0; have k1_w_0_1 := kq 1; clear kq; have f1_w_0 := frozAt hb1 (w.heap.size) (by go_size); simp [go_sem, *] at k1_w_0_0 k1_w_0_1 f1_w_0)); (try have l1_w_0 : w.heap.size < w1.heap.size := by omega)) | (have _t := tok2; go_at_call 33; (with_reducible refine ((TC _).out).mono ?_); rintro e w2 ⟨rfl, hb2⟩; clear tok2 _t; have hz2 := hb2.size; (try simp only [World.size_alloc, World.size_setCell, World.size_drew, World.size_drewN'] at hz2); (try (have kq := cellAt hb2 (w.heap.size) (by go_size); have k2_w_0_0 := kq 0; have k2_w_0_1 := kq 1; clear kq; have f2_w_0 := frozAt hb2 (w.heap.size) (by go_size); simp [go_sem, *] at k2_w_0_0 k2_w_0_1 f2_w_0)); (try have l2_w_0 : w.heap.size < w2.heap.size := by omega); (try clear k1_w_0_0 k1_w_0_1 f1_w_0); (try clear l1_w_0)) | (go_at_call 34; (with_reducible refine ((TX _).out).mono ?_); rintro e w' ⟨rfl, rfl⟩) | (at_builtin; refine wpList_append_own_at _ rfl _ _ 26 rfl (w.heap.size + 1) 31 i0 (.agg #[.int .i64 0, .int .i64 0, .int .i64 0]) 3 24 Try.underlying26 hi iz0 iz1 iz2 rfl (by decide) v _ _ rfl ((HO.out.below (below_via hb2 hb1 (by have := hb1.size; omega))).alloc _) ⟨w2.heap.size, 0, none⟩ 1 1 [_, _, _] rfl rfl (cells3_new' _ _ _ _ _) (by simp [Value.oneCell']) (by unfold maxLen; omega) (by omega) (by simp; omega) ?_; intro v1 w6 hv1 hg1 _ hat))
          have hb12 := below_via hb2 hb1 (by have := hb1.size; omega)
          have hs12 := hb12.size
          have hr6 := HO.out.below hb12
          go_roundw
          case rel =>
            have hQ5 := bx_old (keepX hb12 HC.out) (.cells #[.int .i64 x, .int .i64 y, .int .i64 e] 31 (0, 0))
            refine ⟨k + 1, v1, by rw [HXN.out], rfl, by omega, ?_, ?_, ?_⟩
            · unfold OwnX
              rw [HSU.out, flat3_append, ints_append, List.length_append]
              simpa [ints, flat3] using hv1
            · exact (hg1.block _ (blk_lt' hQ5) (row_typeX (hr6.below ((Below.refl _ _).alloc (Nat.le_refl _) _)) hQ5 (by decide))).trans hQ5
            · exact (Below.alloc (hbw.trans (hb12.mono hsw)) (by omega) _).grown hg1 (by simp; omega) (fun i h => by have := (hr6.lt _ h).1; omega)
          case measure => simpa [intOf] using HXM.out
      · obtain ⟨gg, hgg⟩ : ∃ gg, gcdI x e = gg := ⟨_, rfl⟩
        rw [decide_eq_false hg, Bool.false_and, if_neg (by simp), List.append_nil] at hsu
        rw [hgg] at TG hg
        have HSU := Lib.hid hsu
        have hgn : (gg != 1) = true := by simpa using hg
        clear hsu hg hgg TX TC
        go_wp2_with (first | (have _t := tok1; go_at_call 32; (with_reducible refine ((TG _).out).mono ?_); rintro e w1 ⟨rfl, hb1⟩; clear tok1 _t; have hz1 := hb1.size; (try simp only [World.size_alloc, World.size_setCell, World.size_drew, World.size_drewN'] at hz1); (try (have kq := cellAt hb1 (w.heap.size) (by go_size); have k1_w_0_0 := kq 0; have k1_w_0_1 := kq 1; clear kq; have f1_w_0 := frozAt hb1 (w.heap.size) (by go_size); simp [go_sem, *] at k1_w_0_0 k1_w_0_1 f1_w_0)); (try have l1_w_0 : w.heap.size < w1.heap.size := by omega)) | (have _t := tok2; go_at_call 33; (with_reducible refine ((TC _).out).mono ?_); rintro e w2 ⟨rfl, hb2⟩; clear tok2 _t; have hz2 := hb2.size; (try simp only [World.size_alloc, World.size_setCell, World.size_drew, World.size_drewN'] at hz2); (try (have kq := cellAt hb2 (w.heap.size) (by go_size); have k2_w_0_0 := kq 0; have k2_w_0_1 := kq 1; clear kq; have f2_w_0 := frozAt hb2 (w.heap.size) (by go_size); simp [go_sem, *] at k2_w_0_0 k2_w_0_1 f2_w_0)); (try have l2_w_0 : w.heap.size < w2.heap.size := by omega); (try clear k1_w_0_0 k1_w_0_1 f1_w_0); (try clear l1_w_0)) | (go_at_call 34; (with_reducible refine ((TX _).out).mono ?_); rintro e w' ⟨rfl, rfl⟩) | (at_builtin; refine wpList_append_own_at _ rfl _ _ 26 rfl (w.heap.size + 1) 31 i0 (.agg #[.int .i64 0, .int .i64 0, .int .i64 0]) 3 24 Try.underlying26 hi iz0 iz1 iz2 rfl (by decide) v _ _ rfl ((HO.out.below (below_via hb2 hb1 (by have := hb1.size; omega))).alloc _) ⟨w2.heap.size, 0, none⟩ 1 1 [_, _, _] rfl rfl (cells3_new' _ _ _ _ _) (by simp [Value.oneCell']) (by unfold maxLen; omega) (by omega) (by simp; omega) ?_; intro v1 w6 hv1 hg1 _ hat))
        go_roundw
        case rel => exact ⟨k + 1, v, by rw [HXN.out], rfl, by omega, by rw [HSU.out]; exact HO.out.below hb1, keepX hb1 HC.out, hbw.trans (hb1.mono hsw)⟩
        case measure => simpa [intOf] using HXM.out
    · obtain rfl : k = 2 * m + 1 := by omega
      have hnc : ¬ (-(m : Int) + ((2 * m + 1 : Nat) : Int) ≤ (m : Int)) := by omega
      clear hsu
      go_wp2_with fail
      go_ret
      exact ⟨_, rfl, (HO.out.toX).low (by omega), hbw⟩
end Go.Proofs.Ytndmacieecmapaa
