/- Rows of whole numbers in memory. No program in sight. -/
import Derived.Test.YtijpfnkhaldfeaaBx
namespace Go.Proofs.Ytijpfnkhaldfeaa
open Go.RowKit
set_option linter.unusedVariables false
set_option linter.unusedSimpArgs false
/-- block g holds the whole numbers zs, two cells each -/
def LxAt (W : World) (g : Nat) (zs : List Int) : Prop := g < W.heap.size ∧ ∀ i, i < zs.length → ∃ b a n c, W.cell? ⟨g, i * 2, none⟩ = some (.bool b) ∧ W.cell? ⟨g, i * 2 + 1, none⟩ = some (.slice a n c) ∧ Wx W b a n c (zs.getD i 0)
theorem LxAt.below {W W2 : World} {g : Nat} {zs : List Int} (h : LxAt W g zs) (hb : Below W.heap.size W W2) : LxAt W2 g zs :=
  ⟨Nat.lt_of_lt_of_le h.1 hb.size, fun i hi => by
    obtain ⟨b, a, n, c, h1, h2, h3⟩ := h.2 i hi
    exact ⟨b, a, n, c, (hb.cell (p := ⟨g, i * 2, none⟩) h.1).trans h1, (hb.cell (p := ⟨g, i * 2 + 1, none⟩) h.1).trans h2, h3.below hb⟩⟩
theorem LxAt.new3 {W : World} {b1 b2 b3 : Bool} {a1 a2 a3 : Option Addr} {n1 n2 n3 c1 c2 c3 : Nat} {z1 z2 z3 : Int} {T : TypeId} (h1 : Wx W b1 a1 n1 c1 z1) (h2 : Wx W b2 a2 n2 c2 z2) (h3 : Wx W b3 a3 n3 c3 z3) :
    LxAt (W.alloc (.cells #[.bool b1, .slice a1 n1 c1, .bool b2, .slice a2 n2 c2, .bool b3, .slice a3 n3 c3] T)) W.heap.size [z1, z2, z3] :=
  ⟨by simp, fun i hi => by
    match i, hi with
    | 0, _ => exact ⟨b1, a1, n1, c1, by simp [go_sem], by simp [go_sem], h1.alloc _⟩
    | 1, _ => exact ⟨b2, a2, n2, c2, by simp [go_sem], by simp [go_sem], h2.alloc _⟩
    | 2, _ => exact ⟨b3, a3, n3, c3, by simp [go_sem], by simp [go_sem], h3.alloc _⟩⟩
theorem LxAt.new4 {W : World} {b1 b2 b3 b4 : Bool} {a1 a2 a3 a4 : Option Addr} {n1 n2 n3 n4 c1 c2 c3 c4 : Nat} {z1 z2 z3 z4 : Int} {T : TypeId} (h1 : Wx W b1 a1 n1 c1 z1) (h2 : Wx W b2 a2 n2 c2 z2) (h3 : Wx W b3 a3 n3 c3 z3) (h4 : Wx W b4 a4 n4 c4 z4) :
    LxAt (W.alloc (.cells #[.bool b1, .slice a1 n1 c1, .bool b2, .slice a2 n2 c2, .bool b3, .slice a3 n3 c3, .bool b4, .slice a4 n4 c4] T)) W.heap.size [z1, z2, z3, z4] :=
  ⟨by simp, fun i hi => by
    match i, hi with
    | 0, _ => exact ⟨b1, a1, n1, c1, by simp [go_sem], by simp [go_sem], h1.alloc _⟩
    | 1, _ => exact ⟨b2, a2, n2, c2, by simp [go_sem], by simp [go_sem], h2.alloc _⟩
    | 2, _ => exact ⟨b3, a3, n3, c3, by simp [go_sem], by simp [go_sem], h3.alloc _⟩
    | 3, _ => exact ⟨b4, a4, n4, c4, by simp [go_sem], by simp [go_sem], h4.alloc _⟩⟩
theorem LxAt.new5 {W : World} {b1 b2 b3 b4 b5 : Bool} {a1 a2 a3 a4 a5 : Option Addr} {n1 n2 n3 n4 n5 c1 c2 c3 c4 c5 : Nat} {z1 z2 z3 z4 z5 : Int} {T : TypeId} (h1 : Wx W b1 a1 n1 c1 z1) (h2 : Wx W b2 a2 n2 c2 z2) (h3 : Wx W b3 a3 n3 c3 z3) (h4 : Wx W b4 a4 n4 c4 z4) (h5 : Wx W b5 a5 n5 c5 z5) :
    LxAt (W.alloc (.cells #[.bool b1, .slice a1 n1 c1, .bool b2, .slice a2 n2 c2, .bool b3, .slice a3 n3 c3, .bool b4, .slice a4 n4 c4, .bool b5, .slice a5 n5 c5] T)) W.heap.size [z1, z2, z3, z4, z5] :=
  ⟨by simp, fun i hi => by
    match i, hi with
    | 0, _ => exact ⟨b1, a1, n1, c1, by simp [go_sem], by simp [go_sem], h1.alloc _⟩
    | 1, _ => exact ⟨b2, a2, n2, c2, by simp [go_sem], by simp [go_sem], h2.alloc _⟩
    | 2, _ => exact ⟨b3, a3, n3, c3, by simp [go_sem], by simp [go_sem], h3.alloc _⟩
    | 3, _ => exact ⟨b4, a4, n4, c4, by simp [go_sem], by simp [go_sem], h4.alloc _⟩
    | 4, _ => exact ⟨b5, a5, n5, c5, by simp [go_sem], by simp [go_sem], h5.alloc _⟩⟩
/-- a new row of whole numbers -/
def openL (n : Nat) (zs : List Int) : St where
  ok v W := ∃ g, v = .slice (some ⟨g, 0, none⟩) n n ∧ LxAt W g zs
  keep v W W2 h hb := by
    obtain ⟨g, h1, h2⟩ := h
    exact ⟨g, h1, h2.below hb⟩
def sumZ (zs : List Int) (k : Nat) : Int := (zs.take k).foldl (· + ·) 0
def prodZ (zs : List Int) (k : Nat) : Int := (zs.take k).foldl (· * ·) 1
theorem sumZ_succ {zs : List Int} {k : Nat} (h : k < zs.length) : sumZ zs (k + 1) = sumZ zs k + zs.getD k 0 := by
  unfold sumZ
  rw [List.take_succ_eq_append_getElem h, List.foldl_append, gD_lt h]; rfl
theorem prodZ_succ {zs : List Int} {k : Nat} (h : k < zs.length) : prodZ zs (k + 1) = prodZ zs k * zs.getD k 0 := by
  unfold prodZ
  rw [List.take_succ_eq_append_getElem h, List.foldl_append, gD_lt h]; rfl
theorem prodZ_ln {zs : List Int} {B : Nat} (h : ∀ z ∈ zs, ln z ≤ B) : ∀ k, ln (prodZ zs k) ≤ 5 + B * zs.length := by
  have hk : ∀ k, k ≤ zs.length → ln (prodZ zs k) ≤ 5 + B * k := fun k => by
    induction k with
    | zero => intro _; have := ln_small (a := 1) (by omega) (by omega); exact Nat.le_trans this (by omega)
    | succ k ih =>
      intro hk
      rw [prodZ_succ (by omega), Nat.mul_succ]
      have h2 : ln (zs.getD k 0) ≤ B := by rw [gD_lt (by omega)]; exact h _ (List.getElem_mem _)
      have := ln_mul_le (ih (by omega)) h2
      omega
  intro k
  rcases Nat.lt_or_ge zs.length k with h' | h'
  · have e : prodZ zs k = prodZ zs zs.length := by unfold prodZ; rw [List.take_of_length_le (by omega), List.take_of_length_le (Nat.le_refl _)]
    rw [e]; exact hk _ (Nat.le_refl _)
  · have := hk k h'
    have h3 : B * k ≤ B * zs.length := Nat.mul_le_mul_left _ h'
    omega
theorem sumZ_ln {zs : List Int} {B : Nat} (h : ∀ z ∈ zs, ln z ≤ B) : ∀ k, ln (sumZ zs k) ≤ B + zs.length := by
  have hk : ∀ k, k ≤ zs.length → ln (sumZ zs k) ≤ B + k := fun k => by
    induction k with
    | zero => intro _; have : ln 0 = 0 := ln_zero.2 rfl; show ln (sumZ zs 0) ≤ _; rw [show sumZ zs 0 = 0 from rfl, this]; omega
    | succ k ih =>
      intro hk
      rw [sumZ_succ (by omega)]
      have h2 : ln (zs.getD k 0) ≤ B := by rw [gD_lt (by omega)]; exact h _ (List.getElem_mem _)
      have := ln_add_le (ih (by omega)) (show ln (zs.getD k 0) ≤ B + k by omega)
      omega
  intro k
  rcases Nat.lt_or_ge zs.length k with h' | h'
  · have e : sumZ zs k = sumZ zs zs.length := by unfold sumZ; rw [List.take_of_length_le (by omega), List.take_of_length_le (Nat.le_refl _)]
    rw [e]; exact hk _ (Nat.le_refl _)
  · have := hk k h'
    omega
theorem getD_ln {zs : List Int} {B : Nat} (h : ∀ z ∈ zs, ln z ≤ B) : ∀ i, ln (zs.getD i 0) ≤ B := fun i => by
  rcases Nat.lt_or_ge i zs.length with h' | h'
  · rw [gD_lt h']; exact h _ (List.getElem_mem _)
  · rw [gD_ge h', ln_zero.2 rfl]; omega
theorem all5 {z1 z2 z3 z4 z5 : Int} {B : Nat} (h1 : ln z1 ≤ B) (h2 : ln z2 ≤ B) (h3 : ln z3 ≤ B) (h4 : ln z4 ≤ B) (h5 : ln z5 ≤ B) : ∀ z ∈ [z1, z2, z3, z4, z5], ln z ≤ B := fun z hz => by
  simp at hz; rcases hz with rfl | rfl | rfl | rfl | rfl <;> assumption
theorem all4 {z1 z2 z3 z4 : Int} {B : Nat} (h1 : ln z1 ≤ B) (h2 : ln z2 ≤ B) (h3 : ln z3 ≤ B) (h4 : ln z4 ≤ B) : ∀ z ∈ [z1, z2, z3, z4], ln z ≤ B := fun z hz => by
  simp at hz; rcases hz with rfl | rfl | rfl | rfl <;> assumption
theorem all3 {z1 z2 z3 : Int} {B : Nat} (h1 : ln z1 ≤ B) (h2 : ln z2 ≤ B) (h3 : ln z3 ≤ B) : ∀ z ∈ [z1, z2, z3], ln z ≤ B := fun z hz => by
  simp at hz; rcases hz with rfl | rfl | rfl <;> assumption
end Go.Proofs.Ytijpfnkhaldfeaa
