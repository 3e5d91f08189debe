/- Rows of ratios in memory, and what becomes of a point. No program in sight. -/
import Derived.Test.YtijpfnkhaldfeaaBx
import Derived.Test.YtijpfnkhaldfeaaPln
import Derived.Test.YtijpfnkhaldfeaaEc1
namespace Go.Proofs.Ytijpfnkhaldfeaa
open Go.RowKit
set_option linter.unusedVariables false
set_option linter.unusedSimpArgs false
/-- the row of limbs lies in another block than the row v -/
def farR (a : Option Addr) (n : Nat) (v : Value) : Prop := 0 < n → ∀ A, a = some A → v.ownBlock ≠ some A.block
def RtE (W : World) (xs : List Value) (v : Value) (i : Nat) (p : Int × Int) : Prop := ∃ b a n c b2 a2 n2 c2, xs[i * 4]? = some (.bool b) ∧ xs[i * 4 + 1]? = some (.slice a n c) ∧ xs[i * 4 + 2]? = some (.bool b2) ∧ xs[i * 4 + 3]? = some (.slice a2 n2 c2) ∧ Wx W b a n c p.1 ∧ Wx W b2 a2 n2 c2 p.2 ∧ farR a n v ∧ farR a2 n2 v
def RtsE (W : World) (xs : List Value) (v : Value) (zs : List (Int × Int)) : Prop := ∀ i, i < zs.length → RtE W xs v i (zs.getD i (0, 0))
def RowRt (W : World) (B : Nat) (T : TypeId) (v : Value) (zs : List (Int × Int)) : Prop := ∃ xs, W.ownsRow B T 4 v zs.length xs ∧ RtsE W xs v zs
theorem Wx.grown {W W' : World} {row : Option Nat} {b : Bool} {a : Option Addr} {n c : Nat} {z : Int} (h : Wx W b a n c z) (hg : W.grownBy W' row) (hf : 0 < n → ∀ A, a = some A → row ≠ some A.block) : Wx W' b a n c z :=
  ⟨h.neg, ⟨h.row.len, h.row.cap, h.row.max, h.row.nil, fun h0 => by
    obtain ⟨k, off, h1, h2, h3⟩ := h.row.row h0
    exact ⟨k, off, h1, Nat.lt_of_lt_of_le h2 hg.size, fun j hj => (World.cell?_of_block (a := ⟨k, off + j, none⟩) (hg.block k h2 (fun e => hf (by have := h.row.len; omega) _ h1 e.symm))).trans (h3 j hj)⟩⟩⟩
theorem Wx.lt {W : World} {b : Bool} {a : Option Addr} {n c : Nat} {z : Int} (h : Wx W b a n c z) (h0 : 0 < n) : ∀ A, a = some A → A.block < W.heap.size := fun A e => by
  obtain ⟨k, off, h1, h2, h3⟩ := h.row.row (by have := h.row.len; omega)
  rw [h1] at e
  obtain rfl := Option.some.inj e
  exact h2
theorem ownsRow_below' {W W2 : World} {B n : Nat} {T : TypeId} {s : Nat} {v : Value} {xs : List Value} (h : W.ownsRow B T s v n xs) (hb : Below W.heap.size W W2) : W2.ownsRow B T s v n xs :=
  ⟨h.1, h.2.imp id fun ⟨g, cap, cur, hv, hB, hg, rest⟩ => ⟨g, cap, cur, hv, hB, (hb.block g (blk_lt' hg)).trans hg, rest⟩⟩
theorem RtE.below {W W2 : World} {xs : List Value} {v : Value} {i : Nat} {p : Int × Int} (h : RtE W xs v i p) (hb : Below W.heap.size W W2) : RtE W2 xs v i p := by
  obtain ⟨b, a, n, c, b2, a2, n2, c2, h1, h2, h3, h4, h5, h6, h7, h8⟩ := h
  exact ⟨b, a, n, c, b2, a2, n2, c2, h1, h2, h3, h4, h5.below hb, h6.below hb, h7, h8⟩
theorem RtsE.below {W W2 : World} {xs : List Value} {v : Value} {zs : List (Int × Int)} (h : RtsE W xs v zs) (hb : Below W.heap.size W W2) : RtsE W2 xs v zs := fun i hi => (h i hi).below hb
theorem RowRt.below {W W2 : World} {B : Nat} {T : TypeId} {v : Value} {zs : List (Int × Int)} (h : RowRt W B T v zs) (hb : Below W.heap.size W W2) : RowRt W2 B T v zs := by
  obtain ⟨xs, ho, he⟩ := h
  exact ⟨xs, ownsRow_below' ho hb, he.below hb⟩
theorem RowRt.nil (W : World) (B : Nat) (T : TypeId) : RowRt W B T (.slice none 0 0) [] := ⟨[], World.ownsRow_nil _ _ _ _, fun i hi => absurd hi (by simp)⟩
theorem getD_snoc {zs : List (Int × Int)} {p : Int × Int} {i : Nat} : (zs ++ [p]).getD i (0, 0) = if i < zs.length then zs.getD i (0, 0) else if i = zs.length then p else (0, 0) := by
  simp only [List.getD_eq_getElem?_getD]
  by_cases h : i < zs.length
  · rw [if_pos h, List.getElem?_append_left h]
  · rw [if_neg h, List.getElem?_append_right (by omega)]
    by_cases h2 : i = zs.length
    · subst h2; simp
    · rw [if_neg h2]
      obtain ⟨k, hk⟩ : ∃ k, i - zs.length = k + 1 := ⟨i - zs.length - 1, by omega⟩
      rw [hk]; simp
/-- one more ratio -/
theorem RtsE.push {W W' : World} {X : Obj} {xs : List Value} {v v' : Value} {zs : List (Int × Int)} {b b2 : Bool} {a a2 : Option Addr} {n c n2 c2 : Nat} {x z : Int} (h : RtsE W xs v zs) (hl : xs.length = zs.length * 4)
    (hx : Wx W b a n c x) (hz : Wx W b2 a2 n2 c2 z) (fx : farR a n v) (fz : farR a2 n2 v) (hg : (W.alloc X).grownBy W' v.ownBlock) (hat : v'.ownBlock = v.ownBlock ∨ v'.ownBlock = some (W.alloc X).heap.size) :
    RtsE W' (xs ++ [.bool b, .slice a n c, .bool b2, .slice a2 n2 c2]) v' (zs ++ [(x, z)]) := by
  have nw : ∀ {b0 : Bool} {a0 : Option Addr} {n0 c0 : Nat} {y : Int}, Wx W b0 a0 n0 c0 y → farR a0 n0 v → Wx W' b0 a0 n0 c0 y ∧ farR a0 n0 v' := fun {b0 a0 n0 c0 y} h1 h2 => by
    refine ⟨(h1.alloc X).grown hg h2, fun h0 A e => ?_⟩
    rcases hat with h3 | h3
    · rw [h3]; exact h2 h0 A e
    · rw [h3]
      have := h1.lt h0 A e
      intro e2
      have := Option.some.inj e2
      simp only [World.size_alloc] at this
      omega
  intro i hi
  simp only [List.length_append, List.length_singleton] at hi
  rw [getD_snoc]
  by_cases h1 : i < zs.length
  · rw [if_pos h1]
    obtain ⟨b0, a0, n0, c0, b3, a3, n3, c3, g1, g2, g3, g4, g5, g6, g7, g8⟩ := h i h1
    have e : ∀ k u, xs[k]? = some u → (xs ++ [.bool b, .slice a n c, .bool b2, .slice a2 n2 c2])[k]? = some u := fun k u hk => by
      have hk' : k < xs.length := by
        rcases Nat.lt_or_ge k xs.length with h' | h'
        · exact h'
        · rw [List.getElem?_eq_none h'] at hk; cases hk
      rw [List.getElem?_append_left hk']; exact hk
    exact ⟨b0, a0, n0, c0, b3, a3, n3, c3, e _ _ g1, e _ _ g2, e _ _ g3, e _ _ g4, (nw g5 g7).1, (nw g6 g8).1, (nw g5 g7).2, (nw g6 g8).2⟩
  · obtain rfl : i = zs.length := by omega
    rw [if_neg h1, if_pos rfl]
    refine ⟨b, a, n, c, b2, a2, n2, c2, ?_, ?_, ?_, ?_, (nw hx fx).1, (nw hz fz).1, (nw hx fx).2, (nw hz fz).2⟩
    · rw [List.getElem?_append_right (by omega), show zs.length * 4 - xs.length = 0 by omega]; rfl
    · rw [List.getElem?_append_right (by omega), show zs.length * 4 + 1 - xs.length = 1 by omega]; rfl
    · rw [List.getElem?_append_right (by omega), show zs.length * 4 + 2 - xs.length = 2 by omega]; rfl
    · rw [List.getElem?_append_right (by omega), show zs.length * 4 + 3 - xs.length = 3 by omega]; rfl
/-- a ratio of the row, read -/
theorem RowRt.at {W : World} {B : Nat} {T : TypeId} {v : Value} {zs : List (Int × Int)} (h : RowRt W B T v zs) {i : Nat} (hi : i < zs.length) :
    ∃ g cap b a n c b2 a2 n2 c2, v = .slice (some ⟨g, 0, none⟩) zs.length cap ∧ zs.length ≤ cap ∧ cap ≤ maxLen ∧ B ≤ g ∧ g < W.heap.size ∧ W.cell? ⟨g, i * 4, none⟩ = some (.bool b) ∧ W.cell? ⟨g, i * 4 + 1, none⟩ = some (.slice a n c) ∧ W.cell? ⟨g, i * 4 + 2, none⟩ = some (.bool b2) ∧ W.cell? ⟨g, i * 4 + 3, none⟩ = some (.slice a2 n2 c2) ∧
      Wx W b a n c (zs.getD i (0, 0)).1 ∧ Wx W b2 a2 n2 c2 (zs.getD i (0, 0)).2 := by
  obtain ⟨xs, ⟨hl, ho⟩, he⟩ := h
  rcases ho with ⟨_, h0⟩ | ⟨g, cap, cur, hv, hB, hg, hnc, hcm, hcs, ht⟩
  · omega
  · obtain ⟨b, a, n, c, b2, a2, n2, c2, g1, g2, g3, g4, g5, g6, _, _⟩ := he i hi
    have e : ∀ k u, xs[k]? = some u → W.cell? ⟨g, k, none⟩ = some u := fun k u hk => by
      rw [← ht, List.getElem?_take] at hk
      split at hk
      · rw [cell_of_row W g k cur T (0, 0) hg]; simpa using hk
      · cases hk
    exact ⟨g, cap, b, a, n, c, b2, a2, n2, c2, hv, hnc, hcm, hB, blk_lt' hg, e _ _ g1, e _ _ g2, e _ _ g3, e _ _ g4, g5, g6⟩
theorem RowRt.shape {W : World} {B : Nat} {T : TypeId} {v : Value} {zs : List (Int × Int)} (h : RowRt W B T v zs) : ∃ a c, v = .slice a zs.length c ∧ zs.length ≤ c ∧ c ≤ maxLen := by
  obtain ⟨xs, ⟨hl, ho⟩, he⟩ := h
  rcases ho with ⟨h1, h0⟩ | ⟨g, cap, cur, hv, hB, hg, hnc, hcm, hcs, ht⟩
  · exact ⟨none, 0, by rw [h1, h0], by omega, by unfold maxLen; omega⟩
  · exact ⟨_, _, hv, hnc, hcm⟩
/-! ### a point that is doubled -/
def ptSt (A B x e : Int) (k : Nat) : RSt := if e = 0 then .inf else run (4 * absI (coV A B)) A B x (e * e) k
def infB : RSt → Bool
  | .inf => true
  | _ => false
def atB : RSt → Bool
  | .at _ _ => true
  | _ => false
def Along (st : Nat → RSt) (zs : List (Int × Int)) : Prop := ∀ i, i < zs.length → st i = .at (zs.getD i (0, 0)).1 (zs.getD i (0, 0)).2
theorem Along.push {st : Nat → RSt} {zs : List (Int × Int)} {x z : Int} (h : Along st zs) (hn : st zs.length = .at x z) : Along st (zs ++ [(x, z)]) := fun i hi => by
  simp only [List.length_append, List.length_singleton] at hi
  rw [getD_snoc]
  by_cases h1 : i < zs.length
  · rw [if_pos h1]; exact h i h1
  · obtain rfl : i = zs.length := by omega
    rw [if_neg h1, if_pos rfl]; exact hn
theorem dbl_run {n A B x z : Int} {st : Nat → RSt} {k : Nat} (hs : st (k + 1) = stp n A B (st k)) (hk : st k = .at x z) :
    (botZ A B x z = 0 ∧ st (k + 1) = .inf ∧ dbl n A B x z = (0, 0, false)) ∨ (botZ A B x z ≠ 0 ∧ (st (k + 1) = .bad ∧ dbl n A B x z = (0, 0, false) ∨ ∃ p q, st (k + 1) = .at p q ∧ raB p q = true ∧ dbl n A B x z = (p, q, true))) := by
  rw [hs, hk]
  simp only [stp, dbl]
  by_cases h0 : botZ A B x z = 0
  · left; simp [h0]
  · right
    refine ⟨h0, ?_⟩
    by_cases h1 : raB (dbN n (topZ A B x z) (botZ A B x z)) (dbD n (topZ A B x z) (botZ A B x z)) = true
    · right; exact ⟨_, _, by simp [h0, h1], h1, by simp [h0, h1]⟩
    · left; simp [h0, h1]
theorem ptSt_zero {A B x e : Int} (he : e ≠ 0) : ptSt A B x e 0 = .at x (e * e) := by simp [ptSt, he, run]
theorem ptSt_succ {A B x e : Int} (he : e ≠ 0) (k : Nat) : ptSt A B x e (k + 1) = stp (4 * absI (coV A B)) A B (ptSt A B x e k) := by simp [ptSt, he, run]
theorem ptSt_ok {A B x e : Int} (hx : -10000 ≤ x ∧ x ≤ 10000) (he : 0 ≤ e ∧ e ≤ 20) (k : Nat) : okS (ptSt A B x e k) = true := by
  by_cases h : e = 0
  · simp [ptSt, h, okS]
  · have h1 := mul_bd (a := e) (b := e) (A := 20) (B := 20) (by omega) (by omega)
    have h2 : 0 < e * e := Int.mul_pos (by omega) (by omega)
    have l1 := ln_small (a := x) (by omega) (by omega)
    have l2 := ln_small (a := e * e) (by omega) (by omega)
    have := run_ok (n := 4 * absI (coV A B)) (A := A) (B := B) (x := x) (z := e * e) (by simp only [raB, Bool.and_eq_true, decide_eq_true_eq]; omega) k
    simpa [ptSt, h] using this
theorem ptSt_inf {A B x e : Int} {j : Nat} (h : ptSt A B x e j = .inf) (k : Nat) (hk : j ≤ k) : ptSt A B x e k = .inf := by
  unfold ptSt at *
  split at h
  · next h0 => simp [h0]
  · next h0 => rw [if_neg h0]; exact run_inf h k hk
theorem ptSt_bad {A B x e : Int} {j : Nat} (h : ptSt A B x e j = .bad) (k : Nat) (hk : j ≤ k) : ptSt A B x e k = .bad := by
  unfold ptSt at *
  split at h
  · cases h
  · next h0 => rw [if_neg h0]; exact run_bad h k hk
theorem cells_new (W : World) (cs : List Value) (T : TypeId) : ∀ j u, cs[j]? = some u → (W.alloc (.cells cs.toArray T)).cell? ((⟨W.heap.size, 0, none⟩ : Addr).add j) = some u := fun j u hj => by
  have e : ((⟨W.heap.size, 0, none⟩ : Addr).add j) = ⟨W.heap.size, j, none⟩ := by
    by_cases h0 : j = 0
    · subst h0; rfl
    · simp [Addr.add, h0]
  rw [e, cell_of_row _ W.heap.size j cs.toArray T (0, 0) (heap_alloc_new W _)]
  simpa using hj
/-- a row of one ratio, laid new -/
theorem RowRt.one {W : World} {B : Nat} {T : TypeId} {b b2 : Bool} {a a2 : Option Addr} {n c n2 c2 : Nat} {x z : Int} (hx : Wx W b a n c x) (hz : Wx W b2 a2 n2 c2 z) (hB : B ≤ W.heap.size) :
    RowRt (W.alloc (.cells #[.bool b, .slice a n c, .bool b2, .slice a2 n2 c2] T)) B T (.slice (some ⟨W.heap.size, 0, none⟩) 1 1) [(x, z)] := by
  refine ⟨[.bool b, .slice a n c, .bool b2, .slice a2 n2 c2], ⟨rfl, .inr ⟨W.heap.size, 1, _, rfl, hB, heap_alloc_new W _, Nat.le_refl _, by unfold maxLen; omega, rfl, rfl⟩⟩, fun i hi => ?_⟩
  obtain rfl : i = 0 := by simpa using hi
  exact ⟨b, a, n, c, b2, a2, n2, c2, rfl, rfl, rfl, rfl, hx.alloc _, hz.alloc _, fun h0 A e => by have := hx.lt h0 A e; simp [Value.ownBlock]; omega, fun h0 A e => by have := hz.lt h0 A e; simp [Value.ownBlock]; omega⟩
end Go.Proofs.Ytijpfnkhaldfeaa
