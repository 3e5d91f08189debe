/- Lemmas and contracts of functions. No condition. -/
import Derived.Test.YtnemnkbcbokafaaGreatPk14
import Derived.Test.YtnemnkbcbokafaaGreatPk44
import Derived.Maps.AppendAt
namespace Go.Proofs.YtnemnkbcbokafaaGreat
open Go.RowKit
set_option linter.unusedVariables false
set_option maxHeartbeats 4000000
set_option maxRecDepth 20000
set_option linter.unusedSimpArgs false
def flat3 : List P3 → List Int
 | [] => []
 | (a, b, c) :: l => a :: b :: c :: flat3 l
theorem flat3_len : ∀ l, (flat3 l).length = 3 * l.length
 | [] => rfl
 | (a, b, c) :: l => by simp [flat3, flat3_len l]; omega
theorem flat3_at : ∀ (l : List P3) (i : Nat), i < l.length → (flat3 l)[i * 3]?.getD 0 = (l[i]?.getD (0, 0, 0)).1 ∧ (flat3 l)[i * 3 + 1]?.getD 0 = (l[i]?.getD (0, 0, 0)).2.1 ∧ (flat3 l)[i * 3 + 2]?.getD 0 = (l[i]?.getD (0, 0, 0)).2.2
 | (a, b, c) :: l, 0, _ => by simp [flat3]
 | (a, b, c) :: l, i + 1, h => by
  have := flat3_at l i (by simpa using h)
  simpa [flat3, Nat.add_mul, Nat.succ_mul] using this
theorem rowX_blk {W : World} {G : Nat} {T : TypeId} {cs : Array Value} {zs : List Int} (h : W.heap[G]? = some (.cells cs T (0, 0))) (hc : cs.toList = ints zs) : RowX W G zs :=
 ⟨blk_lt' h, fun j hj => ⟨by rw [blk_cell h j, ← Array.getElem?_toList, hc, ints_at zs j hj, List.getD_eq_getElem?_getD], blk_frozen h _⟩⟩
/-- a row of points that a call has made -/
def OwnX (W : World) (B : Nat) (v : Value) (l : List P3) : Prop := W.ownsRow B 45 3 v l.length (ints (flat3 l))
theorem OwnX.below {W W2 : World} {B : Nat} {v : Value} {l : List P3} (h : OwnX W B v l) (hb : Below W.heap.size W W2) : OwnX W2 B v l :=
 ⟨h.1, h.2.imp id fun ⟨g, cap, cur, hv, hB, hg, rest⟩ => ⟨g, cap, cur, hv, hB, (hb.block g (blk_lt' hg)).trans hg, rest⟩⟩
theorem OwnX.nil (W : World) (B : Nat) : OwnX W B (.slice none 0 0) [] := World.ownsRow_nil _ _ _ _
noncomputable def hvA (A B x e : Int) : List P3 := if (exR (evV A B x e)).2 = true then pm (x, hvY A B x e, e) else []
theorem frSquare_any (n : Int) (w : World) (h0 : 0 ≤ n) (h1 : n ≤ 4000000000000000000) : Calls Tryz.prog 46 #[.int .i64 n] w fun e w' => e = .returned (.bool (rtV n * rtV n == n)) ∧ w = w' := by
 have TR := fun W : World => Lib.hid (frRoot_any n W h0 h1)
 have hr := rtV_spec' h0
 have hb : 0 ≤ rtV n ∧ rtV n * rtV n ≤ n := ⟨hr.1, hr.2.1⟩
 have hb2 : 0 ≤ rtV n * rtV n := Int.mul_nonneg hb.1 hb.1
 generalize rtV n = r at *
 clear hr
 go_enter Tryz.func46, Tryz.ntmps46
 go_wp2_with (first | (go_at_call 47; (with_reducible refine ((TR _).out).mono ?_); rintro e w' ⟨rfl, rfl⟩))
 go_ret
 exact ⟨rfl, rfl⟩
theorem ptAtX_any (A B x e : Int) (w : World) (hA : -1000 ≤ A ∧ A ≤ 1000) (hB : -10000 ≤ B ∧ B ≤ 10000) (hx : -10000 ≤ x ∧ x ≤ 10000) (he : 1 ≤ e ∧ e ≤ 20) :
  Calls Tryz.prog 49 #[.agg #[.int .i64 A, .int .i64 B], .int .i64 x, .int .i64 e] w fun r w' => ∃ v, r = .returned v ∧ SlX w' w.heap.size 3 v (hvA A B x e).length (flat3 (hvA A B x e)) ∧ Below w.heap.size w w' := by
 have TV := fun W : World => Lib.hid (ptValue_any A B x e W hA hB hx he)
 have hvb := evV_bd hA hB hx (e := e) (by omega)
 unfold hvA hvY
 generalize evV A B x e = n at *
 by_cases hn : n < 0
 ·have HV := Lib.hid (show exR n = (0, false) by simp [exR, hn])
  have TQ := TV; have TR := TV
  rw [HV.out, if_neg (by simp)]
  have tok1 := trivial
  have tok2 := trivial
  have tok3 := trivial
  go_enter Tryz.func49, Tryz.ntmps49
  go_wp2_with (first | (have _t := tok1; go_at_call 74; (with_reducible refine ((TV _).out).mono ?_); rintro e w1 ⟨rfl, hb1⟩; clear tok1 _t; have hz1 := hb1.size; (try simp only [sA, sB, sC, sD] at hz1); (try (obtain ⟨qa, qb, qc⟩ := cf2 hb1 (w.heap.size); simp [go_sem, *] at qa qb qc)); (try have qf : w.heap.size < w1.heap.size := by omega)) | (go_at_call 46; (with_reducible refine ((TQ _).out).mono ?_); rintro e w' ⟨rfl, rfl⟩) | (go_at_call 47; (with_reducible refine ((TR _).out).mono ?_); rintro e w' ⟨rfl, rfl⟩))
  go_ret
  refine ⟨_, rfl, ⟨rfl, .inl ⟨rfl, rfl⟩⟩, ?_⟩
  exact bel
 ·have TQ := fun W : World => Lib.hid (frSquare_any n W (by omega) (by omega))
  have TR := fun W : World => Lib.hid (frRoot_any n W (by omega) (by omega))
  have hr := rtV_spec' (n := n) (by omega)
  have hxr : exR n = if rtV n * rtV n = n then (rtV n, true) else (0, false) := by unfold exR; rw [if_neg hn]
  obtain ⟨hr0, hr1, -⟩ := hr
  have hrb : rtV n ≤ 3000000 := by
   refine Int.not_lt.1 fun h2 => ?_
   have this : 3000001 * 3000001 ≤ rtV n * rtV n := Int.mul_le_mul (by omega) (by omega) (by omega) (by omega)
   omega
  generalize rtV n = r at *
  by_cases hs : r * r = n
  ·rw [if_pos hs] at hxr
   have hss : (r * r == n) = true := by simpa using hs
   rw [hss] at TQ
   have HS := Lib.hid hs
   have HV := Lib.hid hxr
   clear hxr hs hss hr1
   by_cases h0 : n = 0
   ·have hnn : (n == 0) = true := by simpa using h0
    have HR0 := Lib.hid (show r = 0 by have := HS.out; rw [h0] at this; rcases Int.mul_eq_zero.1 this with q | q <;> exact q)
    have hnd : decide (n < 0) = false := by simpa using hn
    clear h0
    have hpm : pm (x, r, e) = [(x, 0, e)] := by unfold pm; rw [if_pos HR0.out]
    rw [HV.out, if_pos rfl, show pm (x, ((r, true) : Int × Bool).1, e) = [(x, 0, e)] from hpm]
    clear hpm
    have tok1 := trivial
    have tok2 := trivial
    have tok3 := trivial
    go_enter Tryz.func49, Tryz.ntmps49
    go_wp2_with (first | (have _t := tok1; go_at_call 74; (with_reducible refine ((TV _).out).mono ?_); rintro e w1 ⟨rfl, hb1⟩; clear tok1 _t; have hz1 := hb1.size; (try simp only [sA, sB, sC, sD] at hz1); (try (obtain ⟨qa, qb, qc⟩ := cf2 hb1 (w.heap.size); simp [go_sem, *] at qa qb qc)); (try have qf : w.heap.size < w1.heap.size := by omega)) | (go_at_call 46; (with_reducible refine ((TQ _).out).mono ?_); rintro e w' ⟨rfl, rfl⟩) | (go_at_call 47; (with_reducible refine ((TR _).out).mono ?_); rintro e w' ⟨rfl, rfl⟩))
    go_ret
    refine ⟨_, rfl, ?_, ?_⟩
    ·refine ⟨rfl, .inr ⟨_, _, rfl, Nat.le_refl _, (by unfold maxLen; omega), ?_, rowX_blk (heap_alloc_new _ _) rfl⟩⟩
     go_size
    ·exact bel
   ·have hnn : (n == 0) = false := by simpa using h0
    have HR0 := Lib.hid (show r ≠ 0 by intro q; have := HS.out; rw [q] at this; exact h0 (by omega))
    have hnd : decide (n < 0) = false := by simpa using hn
    clear h0
    have hpm : pm (x, r, e) = [(x, -r, e), (x, r, e)] := by unfold pm; rw [if_neg HR0.out]
    rw [HV.out, if_pos rfl, show pm (x, ((r, true) : Int × Bool).1, e) = [(x, -r, e), (x, r, e)] from hpm]
    clear hpm
    have tok1 := trivial
    have tok2 := trivial
    have tok3 := trivial
    go_enter Tryz.func49, Tryz.ntmps49
    go_wp2_with (first | (have _t := tok1; go_at_call 74; (with_reducible refine ((TV _).out).mono ?_); rintro e w1 ⟨rfl, hb1⟩; clear tok1 _t; have hz1 := hb1.size; (try simp only [sA, sB, sC, sD] at hz1); (try (obtain ⟨qa, qb, qc⟩ := cf2 hb1 (w.heap.size); simp [go_sem, *] at qa qb qc)); (try have qf : w.heap.size < w1.heap.size := by omega)) | (go_at_call 46; (with_reducible refine ((TQ _).out).mono ?_); rintro e w' ⟨rfl, rfl⟩) | (go_at_call 47; (with_reducible refine ((TR _).out).mono ?_); rintro e w' ⟨rfl, rfl⟩))
    go_ret
    refine ⟨_, rfl, ?_, ?_⟩
    ·refine ⟨rfl, .inr ⟨_, _, rfl, Nat.le_refl _, (by unfold maxLen; omega), ?_, rowX_blk (heap_alloc_new _ _) rfl⟩⟩
     go_size
    ·exact bel
  ·rw [if_neg hs] at hxr
   have hss : (r * r == n) = false := by simpa using hs
   rw [hss] at TQ
   have HV := Lib.hid hxr
   have hnd : decide (n < 0) = false := by simpa using hn
   clear hxr hs hss
   rw [HV.out, if_neg (by simp)]
   have tok1 := trivial
   have tok2 := trivial
   have tok3 := trivial
   go_enter Tryz.func49, Tryz.ntmps49
   go_wp2_with (first | (have _t := tok1; go_at_call 74; (with_reducible refine ((TV _).out).mono ?_); rintro e w1 ⟨rfl, hb1⟩; clear tok1 _t; have hz1 := hb1.size; (try simp only [sA, sB, sC, sD] at hz1); (try (obtain ⟨qa, qb, qc⟩ := cf2 hb1 (w.heap.size); simp [go_sem, *] at qa qb qc)); (try have qf : w.heap.size < w1.heap.size := by omega)) | (go_at_call 46; (with_reducible refine ((TQ _).out).mono ?_); rintro e w' ⟨rfl, rfl⟩) | (go_at_call 47; (with_reducible refine ((TR _).out).mono ?_); rintro e w' ⟨rfl, rfl⟩))
   go_ret
   refine ⟨_, rfl, ⟨rfl, .inl ⟨rfl, rfl⟩⟩, ?_⟩
   exact bel
end Go.Proofs.YtnemnkbcbokafaaGreat
