/- A number put into an increasing list: the reference. -/
import Derived.Test.YtnemnkbcbokafaaPr5
import Derived.Test.YtnemnkbcbokafaaPln
namespace Go.Proofs.Ytnemnkbcbokafaa
open Go.RowKit
set_option linter.unusedVariables false
set_option maxHeartbeats 4000000
set_option maxRecDepth 20000
set_option linter.unusedSimpArgs false
theorem putS_at {l : List Int} {k : Nat} {x : Int} (h : ∀ j, j < k → (l[j]?.getD 0) < x) (hk : k < l.length) (hx : ¬ (l[k]?.getD 0) < x) : putS l x = if (l[k]?.getD 0) = x then l else l.take k ++ x :: l.drop k := by
  rw [putS_split l k (fun j hj => by rw [List.getD_eq_getElem?_getD]; exact h j hj) (by omega)]
  have e : l.drop k = (l[k]?.getD 0) :: l.drop (k + 1) := by rw [List.drop_eq_getElem_cons hk, List.getElem?_eq_getElem hk]; rfl
  have e2 : l.take k ++ l.drop k = l := List.take_append_drop k l
  rw [e] at e2 ⊢
  unfold putS
  rw [if_neg hx]
  split
  · exact e2
  · rfl
theorem putS_end {l : List Int} {x : Int} (h : ∀ j, j < l.length → (l[j]?.getD 0) < x) : putS l x = l ++ [x] := by
  rw [putS_split l l.length (fun j hj => by rw [List.getD_eq_getElem?_getD]; exact h j hj) (by omega), List.take_length, List.drop_length]; rfl
theorem Below.ownGrown {B B' n : Nat} {w V V' : World} {T : TypeId} {size : Nat} {v : Value} {xs : List Value} (h : Below B w V) (hr : V.ownsRow B' T size v n xs) (hB : B ≤ B') (hV : B ≤ V.heap.size) (hg : V.grownBy V' v.ownBlock) : Below B w V' :=
  h.grown hg hV (fun j e => Nat.le_trans hB (hr.lt _ e).1)
theorem drop_src {W : World} {b off : Nat} {zs : List Int} {k : Nat} (hc : ∀ j, j < zs.length → W.cell? ⟨b, off + j, none⟩ = some (.int .i64 (zs[j]?.getD 0))) : ∀ j u, (ints (zs.drop k))[j]? = some u → W.cell? ((⟨b, off + k, none⟩ : Addr).add j) = some u := by
  intro j u hj
  have hl : k + j < zs.length := by
    rcases Nat.lt_or_ge (k + j) zs.length with h | h
    · exact h
    · rw [List.getElem?_eq_none (by simp [ints]; omega)] at hj; cases hj
  have h1 := hc (k + j) hl
  simp only [ints, List.getElem?_map, List.getElem?_drop, List.getElem?_eq_getElem hl, Option.map_some, Option.some.injEq] at hj
  rw [List.getElem?_eq_getElem hl] at h1
  simp only [Option.getD_some, hj] at h1
  unfold Addr.add
  split
  · rename_i e
    subst e
    simpa using h1
  · simp only [Nat.add_assoc]; exact h1
theorem sx_some' {W : World} {a : Option Addr} {n c : Nat} {zs : List Int} (h : Sx W a n c zs) (h0 : zs ≠ []) : ∃ A, a = some A := by
  cases a with
  | none =>
    have h1 := h.nil rfl
    have := h.cap
    have := h.len
    exact (h0 (List.length_eq_zero_iff.1 (by omega))).elim
  | some A => exact ⟨A, rfl⟩
def PuRel (w : World) (zs : List Int) (x : Int) (kv : Value) (wr : World) : Prop := ∃ k : Nat, kv = .int .i64 k ∧ k ≤ zs.length ∧ (∀ j, j < k → (zs[j]?.getD 0) < x) ∧ wr = w
theorem l1Put_any (A : Addr) (c : Nat) (zs : List Int) (x : Int) (w : World) (hs : Sx w (some A) zs.length c zs) (hl : zs.length ≤ 1000000000000) (h0 : 0 < zs.length) : Calls Try.prog 64 #[.slice (some A) zs.length c, .int .i64 x] w fun e w' =>
    ∃ A' c', e = .returned (.slice (some A') (putS zs x).length c') ∧ Sx w' (some A') (putS zs x).length c' (putS zs x) ∧ Below w.heap.size w w' := by
  obtain ⟨i0, hi, iz0, iz1, iz2⟩ := info_parts infoI
  obtain ⟨b, off, hA, hbb, hcs⟩ := hs.at h0
  obtain rfl : A = ⟨b, off, none⟩ := by simpa using hA
  have HCS := Lib.hid hcs
  have HS := Lib.hid hs
  clear hA hcs hs
  go_enter Try.func64, Try.ntmps64
  go_wp2_with fail
  go_loopw [5] (fun kv wr => PuRel w zs x kv wr) (fun kv _ => (zs.length - intOf kv).toNat)
  case atStart => exact ⟨0, rfl, by omega, by omega, rfl⟩
  case round =>
    obtain ⟨k, rfl, hk, hlow, rfl⟩ := hrel
    by_cases hlt : k < zs.length
    · have hltc : (k : Int) < (zs.length : Int) := by omega
      have c0 := HCS.out k hlt
      obtain ⟨y, hy⟩ : ∃ y, zs[k]?.getD 0 = y := ⟨_, rfl⟩
      rw [hy] at c0
      by_cases hyx : y < x
      · have HLOW := Lib.hid hlow
        have HY := Lib.hid hy
        clear hlow hy
        go_wp2_with fail
        go_roundw
        case rel => exact ⟨k + 1, by go_num, by omega, fun j hj => by
          by_cases e : j = k
          · subst e; rw [HY.out]; exact hyx
          · exact HLOW.out j (by omega), rfl⟩
        case measure => simp [intOf]; omega
      · by_cases heq : y = x
        · subst heq
          have he : putS zs y = zs := by
            have := putS_at hlow hlt (by rw [hy]; exact hyx)
            rw [hy, if_pos rfl] at this; exact this
          have HE := Lib.hid he
          clear he hlow hy
          go_wp2_with fail
          go_ret
          rw [HE.out]
          exact ⟨_, _, rfl, HS.out, Below.refl _ _⟩
        · have heq2 : (y == x) = false := by simpa using heq
          have he : putS zs x = zs.take k ++ x :: zs.drop k := by
            have := putS_at hlow hlt (by rw [hy]; exact hyx)
            rw [hy, if_neg heq] at this; exact this
          have HE := Lib.hid he
          have HO := Lib.hid (World.ownsRow_made wr #[] 0 (e := 3) (base := wr.heap.size) (size := 1) (Nat.le_refl _) (Nat.zero_le _) (by simp))
          have hst := (HS.out.below ((Below.refl _ _).alloc (Nat.le_refl _) (.cells #[] 3))).take (k := k) (by omega)
          have HT := Lib.hid hst.row.src
          have hkc := HS.out.cap
          clear hy he hst hlow
          go_wp2_with (first | (at_builtin; refine wpList_append_own_at _ rfl _ _ 26 rfl wr.heap.size 3 i0 (.int .i64 0) 1 8 Try.underlying26 hi iz0 iz1 iz2 rfl (by decide) (.slice (some ⟨wr.heap.size, 0, none⟩) 0 0) 0 [] rfl HO.out ⟨b, off, none⟩ k _ (ints (zs.take k)) rfl (by simp [ints]; omega) HT.out ints_cell (by unfold maxLen; omega) (by omega) (by simp) ?_; intro v1 w1 hv1 hg1 _ hat1; have hz1 := hg1.size; simp only [World.size_alloc] at hz1; have hz0 : wr.heap.size ≤ w1.heap.size := by omega) | (at_builtin; refine wpList_append_own_at _ rfl _ _ 26 rfl wr.heap.size 3 i0 (.int .i64 0) 1 8 Try.underlying26 hi iz0 iz1 iz2 rfl (by decide) v1 (0 + k) _ rfl (hv1.alloc _) ⟨w1.heap.size, 0, none⟩ 1 1 [_] rfl rfl (cell_one_new _ _ _) (by simp [Value.oneCell']) (by unfold maxLen; omega) (by omega) (by simp; omega) ?_; intro v2 w2 hv2 hg2 _ hat2; have hz2 := hg2.size; simp only [World.size_alloc] at hz2; have hB1 := Below.ownGrown ((Below.refl wr.heap.size wr).alloc (Nat.le_refl _) (.cells #[] 3)) HO.out (Nat.le_refl _) (by simp) hg1; have hB2 := Below.ownGrown (hB1.alloc hz0 (.cells #[.int .i64 x] 3)) (hv1.alloc _) (Nat.le_refl _) (by simp; omega) hg2; have HSR := Lib.hid (drop_src (k := k) (fun j hj => (hB2.cell (p := ⟨b, off + j, none⟩) hbb).trans (HCS.out j hj)))) | (at_builtin; refine wpList_append_own_at _ rfl _ _ 26 rfl wr.heap.size 3 i0 (.int .i64 0) 1 8 Try.underlying26 hi iz0 iz1 iz2 rfl (by decide) v2 (0 + k + 1) _ rfl hv2 ⟨b, off + k, none⟩ (zs.length - k) _ (ints (zs.drop k)) rfl (by simp [ints]) HSR.out ints_cell (by unfold maxLen; omega) (by omega) (by omega) ?_; intro v3 w3 hv3 hg3 _ hat3))
          go_ret
          have hB3 := Below.ownGrown hB2 hv2 (Nat.le_refl _) (by omega) hg3
          have hv4 : w3.ownsRow wr.heap.size 3 1 v3 (putS zs x).length (ints (putS zs x)) := by
            rw [HE.out]
            have e1 : 0 + k + 1 + (zs.length - k) = (zs.take k ++ x :: zs.drop k).length := by simp; omega
            have e2 : [] ++ ints (zs.take k) ++ [Value.int .i64 x] ++ ints (zs.drop k) = ints (zs.take k ++ x :: zs.drop k) := by simp [ints]
            rw [← e1, ← e2]; exact hv3
          obtain ⟨a4, c4, rfl, hx4, -⟩ := Sx.of_owns hv4
          obtain ⟨A4, rfl⟩ := sx_some' hx4 (by rw [HE.out]; simp)
          exact ⟨_, _, rfl, hx4, hB3⟩
    · have hke : k = zs.length := by omega
      have hltc : ¬ ((k : Int) < (zs.length : Int)) := by omega
      have he : putS zs x = zs.take k ++ x :: zs.drop k := by
        rw [hke, List.take_length, List.drop_length]
        exact putS_end (by rw [← hke]; exact hlow)
      have HE := Lib.hid he
      have HO := Lib.hid (World.ownsRow_made wr #[] 0 (e := 3) (base := wr.heap.size) (size := 1) (Nat.le_refl _) (Nat.zero_le _) (by simp))
      have hst := (HS.out.below ((Below.refl _ _).alloc (Nat.le_refl _) (.cells #[] 3))).take (k := k) (by omega)
      have HT := Lib.hid hst.row.src
      have hkc := HS.out.cap
      have HK := Lib.hid hke
      clear he hst hlow hke
      by_cases hck : k = c
      · subst hck
        go_wp2_with (first | (at_builtin; refine wpList_append_own_at _ rfl _ _ 26 rfl wr.heap.size 3 i0 (.int .i64 0) 1 8 Try.underlying26 hi iz0 iz1 iz2 rfl (by decide) (.slice (some ⟨wr.heap.size, 0, none⟩) 0 0) 0 [] rfl HO.out ⟨b, off, none⟩ k _ (ints (zs.take k)) rfl (by simp [ints]; omega) HT.out ints_cell (by unfold maxLen; omega) (by omega) (by simp) ?_; intro v1 w1 hv1 hg1 _ hat1; have hz1 := hg1.size; simp only [World.size_alloc] at hz1; have hz0 : wr.heap.size ≤ w1.heap.size := by omega) | (at_builtin; refine wpList_append_own_at _ rfl _ _ 26 rfl wr.heap.size 3 i0 (.int .i64 0) 1 8 Try.underlying26 hi iz0 iz1 iz2 rfl (by decide) v1 (0 + k) _ rfl (hv1.alloc _) ⟨w1.heap.size, 0, none⟩ 1 1 [_] rfl rfl (cell_one_new _ _ _) (by simp [Value.oneCell']) (by unfold maxLen; omega) (by omega) (by simp; omega) ?_; intro v2 w2 hv2 hg2 _ hat2; have hz2 := hg2.size; simp only [World.size_alloc] at hz2; have hB1 := Below.ownGrown ((Below.refl wr.heap.size wr).alloc (Nat.le_refl _) (.cells #[] 3)) HO.out (Nat.le_refl _) (by simp) hg1; have hB2 := Below.ownGrown (hB1.alloc hz0 (.cells #[.int .i64 x] 3)) (hv1.alloc _) (Nat.le_refl _) (by simp; omega) hg2; have HSR := Lib.hid (drop_src (k := k) (fun j hj => (hB2.cell (p := ⟨b, off + j, none⟩) hbb).trans (HCS.out j hj)))) | (at_builtin; refine wpList_append_own_at _ rfl _ _ 26 rfl wr.heap.size 3 i0 (.int .i64 0) 1 8 Try.underlying26 hi iz0 iz1 iz2 rfl (by decide) v2 (0 + k + 1) _ rfl hv2 ⟨b, off, none⟩ 0 _ [] rfl rfl (fun j u hj => by simp at hj) (by simp) (by unfold maxLen; omega) (by omega) (by omega) ?_; intro v3 w3 hv3 hg3 _ hat3) | (at_builtin; refine wpList_append_own_at _ rfl _ _ 26 rfl wr.heap.size 3 i0 (.int .i64 0) 1 8 Try.underlying26 hi iz0 iz1 iz2 rfl (by decide) v2 (0 + k + 1) _ rfl hv2 ⟨b, off + k, none⟩ 0 _ [] rfl rfl (fun j u hj => by simp at hj) (by simp) (by unfold maxLen; omega) (by omega) (by omega) ?_; intro v3 w3 hv3 hg3 _ hat3))
        go_ret
        have hB3 := Below.ownGrown hB2 hv2 (Nat.le_refl _) (by omega) hg3
        have hv4 : w3.ownsRow wr.heap.size 3 1 v3 (putS zs x).length (ints (putS zs x)) := by
          rw [HE.out]
          have e1 : 0 + k + 1 + 0 = (zs.take k ++ x :: zs.drop k).length := by have := HK.out; simp; omega
          have e2 : [] ++ ints (zs.take k) ++ [Value.int .i64 x] ++ [] = ints (zs.take k ++ x :: zs.drop k) := by rw [HK.out, List.drop_length]; simp [ints]
          rw [← e1, ← e2]; exact hv3
        obtain ⟨a4, c4, rfl, hx4, -⟩ := Sx.of_owns hv4
        obtain ⟨A4, rfl⟩ := sx_some' hx4 (by rw [HE.out]; simp)
        exact ⟨_, _, rfl, hx4, hB3⟩
      · have hck2 : ¬ c = k := fun e => hck e.symm
        have hck4 := HK.out
        have hck3 : k < c := by omega
        clear hck4
        go_wp2_with (first | (at_builtin; refine wpList_append_own_at _ rfl _ _ 26 rfl wr.heap.size 3 i0 (.int .i64 0) 1 8 Try.underlying26 hi iz0 iz1 iz2 rfl (by decide) (.slice (some ⟨wr.heap.size, 0, none⟩) 0 0) 0 [] rfl HO.out ⟨b, off, none⟩ k _ (ints (zs.take k)) rfl (by simp [ints]; omega) HT.out ints_cell (by unfold maxLen; omega) (by omega) (by simp) ?_; intro v1 w1 hv1 hg1 _ hat1; have hz1 := hg1.size; simp only [World.size_alloc] at hz1; have hz0 : wr.heap.size ≤ w1.heap.size := by omega) | (at_builtin; refine wpList_append_own_at _ rfl _ _ 26 rfl wr.heap.size 3 i0 (.int .i64 0) 1 8 Try.underlying26 hi iz0 iz1 iz2 rfl (by decide) v1 (0 + k) _ rfl (hv1.alloc _) ⟨w1.heap.size, 0, none⟩ 1 1 [_] rfl rfl (cell_one_new _ _ _) (by simp [Value.oneCell']) (by unfold maxLen; omega) (by omega) (by simp; omega) ?_; intro v2 w2 hv2 hg2 _ hat2; have hz2 := hg2.size; simp only [World.size_alloc] at hz2; have hB1 := Below.ownGrown ((Below.refl wr.heap.size wr).alloc (Nat.le_refl _) (.cells #[] 3)) HO.out (Nat.le_refl _) (by simp) hg1; have hB2 := Below.ownGrown (hB1.alloc hz0 (.cells #[.int .i64 x] 3)) (hv1.alloc _) (Nat.le_refl _) (by simp; omega) hg2; have HSR := Lib.hid (drop_src (k := k) (fun j hj => (hB2.cell (p := ⟨b, off + j, none⟩) hbb).trans (HCS.out j hj)))) | (at_builtin; refine wpList_append_own_at _ rfl _ _ 26 rfl wr.heap.size 3 i0 (.int .i64 0) 1 8 Try.underlying26 hi iz0 iz1 iz2 rfl (by decide) v2 (0 + k + 1) _ rfl hv2 ⟨b, off + k, none⟩ (zs.length - k) _ (ints (zs.drop k)) rfl (by simp [ints]) HSR.out ints_cell (by unfold maxLen; omega) (by omega) (by omega) ?_; intro v3 w3 hv3 hg3 _ hat3))
        go_ret
        have hB3 := Below.ownGrown hB2 hv2 (Nat.le_refl _) (by omega) hg3
        have hv4 : w3.ownsRow wr.heap.size 3 1 v3 (putS zs x).length (ints (putS zs x)) := by
          rw [HE.out]
          have e1 : 0 + k + 1 + (zs.length - k) = (zs.take k ++ x :: zs.drop k).length := by have := HK.out; simp; omega
          have e2 : [] ++ ints (zs.take k) ++ [Value.int .i64 x] ++ ints (zs.drop k) = ints (zs.take k ++ x :: zs.drop k) := by simp [ints]
          rw [← e1, ← e2]; exact hv3
        obtain ⟨a4, c4, rfl, hx4, -⟩ := Sx.of_owns hv4
        obtain ⟨A4, rfl⟩ := sx_some' hx4 (by rw [HE.out]; simp)
        exact ⟨_, _, rfl, hx4, hB3⟩
end Go.Proofs.Ytnemnkbcbokafaa
