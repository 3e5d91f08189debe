/- FnPlaces: what both sides return, as numbers and lists of which the law's own tests hold. -/
import Derived.Test.YtegiddpakocodaaGreatPqA
import Derived.Test.YtegiddpakocodaaGreatSqr
import Derived.Test.YtegiddpakocodaaGreatPln
import Derived.Test.YtegiddpakocodaaGreatLp4
namespace Go.Proofs.YtegiddpakocodaaGreat
open Go.RowKit
set_option linter.unusedVariables false
set_option maxHeartbeats 4000000
set_option maxRecDepth 20000
set_option linter.unusedSimpArgs false
def RetC (f : FuncId) (args : Array Value) (r : Value) : Prop := ∀ W : World, Calls Tryz.prog f args W fun e w' => e = .returned r ∧ Below W.heap.size W w'
theorem XIsQuartic_any (D A C : Int) (w : World) : Calls Tryz.prog 17 #[.agg #[.int .i64 D, .int .i64 A, .int .i64 C]] w fun e w' => e = .returned (.bool (qaB D A C)) ∧ Below w.heap.size w w' := by
  have tok1 : True := trivial
  go_enter Tryz.func17, Tryz.ntmps17
  go_wp2_with (first | (have _t := tok1; go_at_call 22; refine (isQuartic_any _ _ _ _).mono ?_; rintro e w1 ⟨rfl, hb1⟩; clear tok1 _t; have hz1 := hb1.size; (try simp only [World.size_alloc, World.size_setCell, World.size_drew, World.size_drewN'] at hz1); (try (have kq := cellAt hb1 (w.heap.size) (by go_size); have k1_w_0_0 := kq 0; have k1_w_0_1 := kq 1; have k1_w_0_2 := kq 2; clear kq; have f1_w_0 := frozAt hb1 (w.heap.size) (by go_size); simp [go_sem, *] at k1_w_0_0 k1_w_0_1 k1_w_0_2 f1_w_0)); (try have l1_w_0 : w.heap.size < w1.heap.size := by omega)))
  go_ret
  refine ⟨rfl, ?_⟩
  repeat' first | (with_reducible first | apply zRf | assumption | apply zDn | apply zDr | apply zAl | apply zSt | refine zVi (by assumption) ?_ ?_) | go_size
theorem mem_at {l : List Int} {x : Int} (h : x ∈ l) : ∃ j, j < l.length ∧ l[j]?.getD 0 = x := by
  obtain ⟨j, hj, e⟩ := List.mem_iff_getElem.1 h
  exact ⟨j, hj, by rw [List.getElem?_eq_getElem hj]; exact e⟩
theorem at_mem {l : List Int} {j : Nat} (h : j < l.length) : l[j]?.getD 0 ∈ l := by
  rw [List.getElem?_eq_getElem h]; exact List.getElem_mem h
theorem qHas_any {a : Option Addr} {n c : Nat} {zs : List Int} {x : Int} {w : World} (h : Sx w a n c zs) : Calls Tryz.prog 19 #[.slice a n c, .int .i64 x] w fun e w' => e = .returned (.bool (decide (x ∈ zs))) ∧ Below w.heap.size w w' := by
  have hnm := h.cap
  have hnl := h.len
  have hnm2 := h.max
  unfold maxLen at hnm2
  obtain ⟨o, ho⟩ : ∃ o, decide (x ∈ zs) = o := ⟨_, rfl⟩
  rw [ho]
  have ho1 : ∀ k, k < n → zs[k]?.getD 0 = x → o = true := fun k hk e => by
    rw [← ho, decide_eq_true_eq, ← e]; exact at_mem (by omega)
  have ho2 : (∀ k, k < n → zs[k]?.getD 0 ≠ x) → o = false := fun q => by
    rw [← ho, decide_eq_false_iff_not]; intro hm
    obtain ⟨j, hj, e⟩ := mem_at hm
    exact q j (by omega) e
  replace ho1 := Lib.hid ho1
  replace ho2 := Lib.hid ho2
  clear ho
  go_enter Tryz.func19, Tryz.ntmps19
  go_wp2_with fail
  go_loopw [9] (fun iv wr => ∃ k : Nat, iv = .int .i64 k ∧ k ≤ n ∧ Hid (∀ j, j < k → zs[j]?.getD 0 ≠ x) ∧ ∃ m, wr = w.drewN m) (fun iv _ => (n - intOf iv).toNat)
  case atStart => exact ⟨0, rfl, by omega, Lib.hid (fun j hj => by omega), 0, rfl⟩
  case round =>
    obtain ⟨k, rfl, hk, hall, m, rfl⟩ := hrel
    by_cases h0 : k < n
    · obtain ⟨b, off, rfl, hb, hcs⟩ := h.at (by omega)
      have c0 := hcs k h0
      have hk2 : (k : Int) < (n : Int) := by omega
      obtain ⟨y, hy⟩ : ∃ y, zs[k]?.getD 0 = y := ⟨_, rfl⟩
      rw [hy] at c0
      clear hcs
      by_cases hyx : y = x
      · obtain rfl := ho1.out k h0 (hy.trans hyx)
        subst hyx
        have hyy : (y == y) = true := by simp
        go_wp2_with fail
        go_ret
        exact ⟨rfl, below_drewN (Below.refl _ _) _⟩
      · have hyy : (y == x) = false := by simpa using hyx
        have hall2 := Lib.hid (show ∀ j, j < k + 1 → zs[j]?.getD 0 ≠ x from fun j hj => by
          by_cases e : j = k
          · subst e; rw [hy]; exact hyx
          · exact hall.out j (by omega))
        clear hy hyx
        go_wp2_with fail
        go_roundw
        case rel => exact ⟨k + 1, by go_num, by omega, hall2, _, rfl⟩
        case measure => simp [intOf]; omega
    · obtain rfl : k = n := by omega
      obtain rfl := ho2.out hall.out
      go_wp2_with fail
      go_ret
      exact ⟨rfl, below_drewN (Below.refl _ _) _⟩
theorem qHas_yes {a : Option Addr} {n c : Nat} {zs : List Int} {x : Int} {w : World} (h : Sx w a n c zs) (hm : x ∈ zs) : Calls Tryz.prog 19 #[.slice a n c, .int .i64 x] w fun e w' => e = .returned (.bool true) ∧ Below w.heap.size w w' := by
  have := qHas_any (x := x) h
  rw [decide_eq_true hm] at this
  exact this
theorem qHas_no {a : Option Addr} {n c : Nat} {zs : List Int} {x : Int} {w : World} (h : Sx w a n c zs) (hm : x ∉ zs) : Calls Tryz.prog 19 #[.slice a n c, .int .i64 x] w fun e w' => e = .returned (.bool false) ∧ Below w.heap.size w w' := by
  have := qHas_any (x := x) h
  rw [decide_eq_false hm] at this
  exact this
theorem qInts_same {a a2 : Option Addr} {n c n2 c2 : Nat} {zs : List Int} {w : World} (h : Sx w a n c zs) (h2 : Sx w a2 n2 c2 zs) : Calls Tryz.prog 16 #[.slice a n c, .slice a2 n2 c2] w fun e w' => e = .returned (.bool true) ∧ Below w.heap.size w w' := by
  obtain rfl : n2 = n := by have := h2.len; have := h.len; omega
  have hnm := h.cap
  have hnm2 := h.max
  unfold maxLen at hnm2
  have e1 : ((n2 : Int) != (n2 : Int)) = false := by simp
  go_enter Tryz.func16, Tryz.ntmps16
  go_wp2_with fail
  go_loopw [13] (fun iv wr => ∃ k : Nat, iv = .int .i64 k ∧ k ≤ n2 ∧ ∃ m, wr = w.drewN m) (fun iv _ => (n2 - intOf iv).toNat)
  case atStart => exact ⟨0, rfl, by omega, 0, rfl⟩
  case round =>
    obtain ⟨k, rfl, hk, m, rfl⟩ := hrel
    by_cases h0 : k < n2
    · obtain ⟨b, off, rfl, hb, hcs⟩ := h.at (by omega)
      obtain ⟨b2, off2, rfl, hb2, hcs2⟩ := h2.at (by omega)
      have c0 := hcs k h0
      have d0 := hcs2 k h0
      have hk2 : (k : Int) < (n2 : Int) := by omega
      have hx : ∀ x : Int, (x != x) = false := fun x => by simp
      clear hcs hcs2
      go_wp2_with fail
      go_quiet (fail)
      go_wp2_with fail
      go_roundw
      case rel => exact ⟨k + 1, by go_num, by omega, _, rfl⟩
      case measure => simp [intOf]; omega
    · obtain rfl : k = n2 := by omega
      go_wp2_with fail
      go_ret
      exact ⟨rfl, below_drewN (Below.refl _ _) _⟩
/-! ### plain -/
theorem flF_all {D A C : Int} : ∀ {l out : List Int}, (flF D A C l out).2 = true → ∀ x ∈ (flF D A C l out).1, x ∈ out ∨ (x ∈ l ∧ x ≤ 997 ∧ slV D A C x = (false, true))
  | [], out, _, x, hx => .inl hx
  | p :: l, out, h, x, hx => by
    unfold flF at h hx
    split at h
    · cases h
    · rename_i h1
      rw [if_neg h1] at hx
      split at h
      · cases h
      · rename_i h2
        rw [if_neg h2] at hx
        rcases flF_all h x hx with e | ⟨e1, e2, e3⟩
        · split at e
          · exact .inl e
          · rename_i h3
            rcases List.mem_append.1 e with e | e
            · exact .inl e
            · right
              obtain rfl := List.mem_singleton.1 e
              refine ⟨by simp, by omega, ?_⟩
              have e1 : (slV D A C x).1 = false := Bool.eq_false_iff.2 h3
              have e2 : (slV D A C x).2 = true := by
                rcases h4 : (slV D A C x).2 with _ | _
                · exact absurd h4 h2
                · rfl
              exact Prod.ext e1 e2
        · exact .inr ⟨by simp [e1], e2, e3⟩
theorem fp_all {D A C : Int} (h : (fpV D A C).2 = true) : qaB D A C = true ∧ dsc D A C ≠ 0 ∧ fpV D A C = flV D A C ∧ ∀ x ∈ (fpV D A C).1, x ∈ bdL D A C ∧ mdPB x = true ∧ slV D A C x = (false, true) := by
  unfold fpV at h ⊢
  by_cases hq : qaB D A C = true
  · rw [if_pos hq] at h ⊢
    unfold flV at h ⊢
    by_cases hd : dsc D A C = 0
    · rw [if_pos hd] at h; cases h
    · rw [if_neg hd] at h ⊢
      refine ⟨hq, hd, rfl, fun x hx => ?_⟩
      rcases flF_all h x hx with e | ⟨e1, e2, e3⟩
      · cases e
      · have hb := qaB_bd hq
        have h2 := bdL_two D A C x e1
        refine ⟨e1, ?_, e3⟩
        unfold mdPB
        rw [bdL_prime hb.2.2.2.1 hb.2.2.2.2 hd e1, inB_true h2 e2]
        rfl
  · rw [if_neg hq] at h; cases h
theorem bf_all {D A C : Int} (h : (bfV D A C).2 = true) : qaB D A C = true ∧ dsc D A C ≠ 0 ∧ (bfV D A C).1 = bdL D A C := by
  unfold bfV at h ⊢
  by_cases hq : qaB D A C = true
  · rw [if_pos hq] at h ⊢
    have hd : dsc D A C ≠ 0 := of_decide_eq_true h
    exact ⟨hq, hd, if_neg hd⟩
  · rw [if_neg hq] at h; cases h
abbrev QA (D A C : Int) : Value := .agg #[.int .i64 D, .int .i64 A, .int .i64 C]
theorem pl_set1 (D A C : Int) : ∃ (L Bd : List Int) (ok one ev real five : Bool),
    (∀ W, Calls Tryz.prog 5 #[.agg #[.int .i64 D, .int .i64 A, .int .i64 C]] W (NewJ W L ok)) ∧
    (∀ W, Calls Tryz.prog 6 #[.agg #[.int .i64 D, .int .i64 A, .int .i64 C]] W (NewJ W L ok)) ∧
    (∀ W, Calls Tryz.prog 7 #[.agg #[.int .i64 D, .int .i64 A, .int .i64 C]] W (NewX W Bd one)) ∧
    (∀ W, Calls Tryz.prog 8 #[.agg #[.int .i64 D, .int .i64 A, .int .i64 C]] W (NewX W Bd one)) ∧
    RetC 9 #[.agg #[.int .i64 D, .int .i64 A, .int .i64 C]] (.tuple #[.bool ev, .bool ok]) ∧
    RetC 10 #[.agg #[.int .i64 D, .int .i64 A, .int .i64 C]] (.tuple #[.bool ev, .bool ok]) ∧
    RetC 11 #[.agg #[.int .i64 D, .int .i64 A, .int .i64 C]] (.tuple #[.bool real, .bool five]) ∧
    RetC 12 #[.agg #[.int .i64 D, .int .i64 A, .int .i64 C]] (.tuple #[.bool real, .bool five]) ∧
    RetC 17 #[.agg #[.int .i64 D, .int .i64 A, .int .i64 C]] (.bool five) ∧
    (ok = true → one = true) ∧
    (one = true → ∀ p : Int, p = 3 ∨ p = 7 ∨ p = 13 → p ∉ Bd → RetC 20 #[.agg #[.int .i64 D, .int .i64 A, .int .i64 C], .int .i64 p] (.tuple #[.bool true, .bool true])) ∧
    (ok = true → (∀ p ∈ L, p ∈ Bd ∧ RetC 20 #[.agg #[.int .i64 D, .int .i64 A, .int .i64 C], .int .i64 p] (.tuple #[.bool false, .bool true])) ∧ ev = (real && decide (L.length = 0))) ∧ L.length ≤ 996 ∧ Bd.length ≤ 300000000001 := by
  refine ⟨(fpV D A C).1, (bfV D A C).1, (fpV D A C).2, (bfV D A C).2, (evV D A C).1, qaB D A C && rlB D A C, qaB D A C, FailingPrimes_any D A C, sFailingPrimes_any D A C, BadForQuartic_any D A C, sBadForQuartic_any D A C, fun W => ?_, fun W => ?_, HasRealPoint_any D A C, sHasRealPoint_any D A C, XIsQuartic_any D A C, fun h => ?_, fun h p hp hn => ?_, fun h => ?_, fpV_len D A C, ?_⟩
  · have := IsEverywhereSoluble_any D A C W
    rw [show (evV D A C).2 = (fpV D A C).2 by unfold evV fpV; split <;> rfl] at this
    exact this
  · have := sIsEverywhereSoluble_any D A C W
    rw [show (evV D A C).2 = (fpV D A C).2 by unfold evV fpV; split <;> rfl] at this
    exact this
  · obtain ⟨h1, h2, -⟩ := fp_all h
    unfold bfV
    rw [if_pos h1]
    exact decide_eq_true h2
  · obtain ⟨h1, h2, h3⟩ := bf_all h
    rw [h3] at hn
    have hb := qaB_bd h1
    have hm : mdPB p = true := by rcases hp with rfl | rfl | rfl <;> decide
    have hs : slV D A C p = (true, true) := by
      have key : ∀ P : Nat, 3 ≤ P → nAll P = true → p = P → 0 < (lpV D A C p).2.1 := fun P hP hA e => by
        have hm2 := mdPB_bd hm
        obtain ⟨g1, g2, g3⟩ := bdL_full hb.2.2.2.1 hb.2.2.2.2 h2 hm2.1 hm2.2.2.2 hn
        subst e
        exact good_told hP hA g1 g2 g3
      have : 0 < (lpV D A C p).2.1 := by
        rcases hp with e | e | e
        · exact key 3 (by omega) nAll3 e
        · exact key 7 (by omega) nAll7 e
        · exact key 13 (by omega) nAll13 e
      unfold slV
      rw [decide_eq_true this]; rfl
    intro W
    have := IsLocallySoluble_any D A C p W
    rw [show ilV D A C p = (true, true) by unfold ilV; rw [h1, hm, hs]; rfl] at this
    exact this
  · obtain ⟨h1, h2, h3, h4⟩ := fp_all h
    refine ⟨fun p hp => ?_, ?_⟩
    · obtain ⟨g1, g2, g3⟩ := h4 p hp
      refine ⟨?_, fun W => ?_⟩
      · unfold bfV
        rw [if_pos h1, if_neg h2]
        exact g1
      · have := IsLocallySoluble_any D A C p W
        rw [show ilV D A C p = (false, true) by unfold ilV; rw [h1, g2, g3]; rfl] at this
        exact this
    · rw [h3] at h ⊢
      unfold evV
      rw [if_pos h1, h1, h]
      cases hL : (flV D A C).1 <;> simp
  · unfold bfV
    split
    · rename_i hq
      have hb := qaB_bd hq
      split
      · simp
      · exact bdL_len hb
    · simp
theorem pl_set2 (n p k : Int) (hk : -1 ≤ k ∧ k ≤ 32) : ∃ (sq o7 : Bool),
    RetC 14 #[.int .i64 n, .int .i64 p, .int .i64 k] (.tuple #[.bool sq, .bool o7]) ∧
    RetC 15 #[.int .i64 n, .int .i64 p, .int .i64 k] (.tuple #[.bool sq, .bool o7]) ∧
    (o7 = true → ∀ s : Int, s * s = n → sq = true) ∧
    (o7 = true → sq = true → 1 < k → RetC 14 #[.int .i64 n, .int .i64 p, .int .i64 (k - 1)] (.tuple #[.bool true, .bool true])) := by
  refine ⟨smV n p k, smB n p k, IsSquareModulo_any n p k, sIsSquareModulo_any n p k, fun h s hs => ?_, fun h h2 h3 W => ?_⟩
  · unfold smV
    rw [h, Bool.true_and]
    unfold smB at h
    obtain ⟨g1, g2⟩ := Bool.and_eq_true_iff.1 h
    obtain ⟨h4, -, j, rfl, -⟩ := deB_bd g1
    have hm := mdPB_bd h4
    rw [Int.toNat_natCast]
    exact square_mod hm.1 hm.2.1 hm.2.2.2 hs j
  · have e1 : smB n p (k - 1) = true := by
      unfold smB at h ⊢
      obtain ⟨g1, g2⟩ := Bool.and_eq_true_iff.1 h
      rw [g2, Bool.and_true]
      obtain ⟨h4, h5, j, rfl, -⟩ := deB_bd g1
      have := inB_iff.1 h5
      unfold deB
      rw [h4, Bool.true_and]
      exact inB_true (by omega) (by omega)
    have e2 : smV n p (k - 1) = true := by
      unfold smV at h2 ⊢
      rw [h, Bool.true_and] at h2
      rw [e1, Bool.true_and]
      unfold smB at h
      obtain ⟨g1, g2⟩ := Bool.and_eq_true_iff.1 h
      obtain ⟨h4, h5, j, rfl, j1, -⟩ := deB_bd g1
      have hm := mdPB_bd h4
      obtain ⟨i, rfl⟩ : ∃ i, j = i + 1 := ⟨j - 1, by omega⟩
      rw [Int.toNat_natCast] at h2
      rw [show (((i + 1 : Nat) : Int) - 1).toNat = i by omega]
      exact sq_mono hm.1 h2
    have := IsSquareModulo_any n p (k - 1) W
    rw [e1, e2] at this
    exact this
end Go.Proofs.YtegiddpakocodaaGreat
