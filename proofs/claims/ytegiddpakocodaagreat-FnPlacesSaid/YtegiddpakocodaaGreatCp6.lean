/- The possible pairs modulo the next power: the program. -/
import Derived.Test.YtegiddpakocodaaGreatCp5
namespace Go.Proofs.YtegiddpakocodaaGreat
open Go.RowKit Go.Shelf
set_option linter.unusedVariables false
set_option maxHeartbeats 4000000
set_option maxRecDepth 20000
set_option linter.unusedSimpArgs false
attribute [local go_sem] Oper.semAt_some
theorem kpX_below {n₁ X : Nat} {W V : World} (hn : n₁ ≤ W.heap.size) (h : Below W.heap.size W V) : KpX n₁ X W V :=
  ⟨fun b hb _ => h.block b (by omega), fun b c e => (h.block b (Array.getElem?_eq_some_iff.1 e).1).trans e⟩
theorem keeps_below {W V : World} (h : Below W.heap.size W V) : KeepsOthers W V := ⟨h.size, fun k o hk _ => (h.block k (Array.getElem?_eq_some_iff.1 hk).1).trans hk⟩
theorem ownsRow_less {W : World} {b b' : Nat} (hb : b' ≤ b) {e : TypeId} {size k : Nat} {v : Value} {xs : List Value} (h : W.ownsRow b e size v k xs) : W.ownsRow b' e size v k xs :=
  ⟨h.1, h.2.imp id fun ⟨g, cap, cur, hv, hB, rest⟩ => ⟨g, cap, cur, hv, Nat.le_trans hb hB, rest⟩⟩
theorem row_far {W : World} {b e size k : Nat} {v : Value} {xs : List Value} (h : W.ownsRow b e size v k xs) {i : Nat} (hi : i < b) : some i ≠ v.ownBlock := by
  rcases h.2 with ⟨rfl, _⟩ | ⟨g, cap, cur, rfl, hB, hgb, _⟩
  · simp [Value.ownBlock]
  · intro e'
    obtain rfl : i = g := by simpa [Value.ownBlock] using e'
    omega
theorem row_type {W : World} {b e size k : Nat} {v : Value} {xs : List Value} (h : W.ownsRow b e size v k xs) {i t : Nat} {c : Array Value} (hi : W.heap[i]? = some (Obj.cells c t (0, 0))) (hte : t ≠ e) : some i ≠ v.ownBlock := by
  rcases h.2 with ⟨rfl, _⟩ | ⟨g, cap, cur, rfl, hB, hgb, _⟩
  · simp [Value.ownBlock]
  · intro e'
    obtain rfl : i = g := by simpa [Value.ownBlock] using e'
    rw [hi] at hgb; simp at hgb
    exact hte hgb.2
/-- behind 'out = append(out, x)' in a loop's body -/
theorem appendedX {W w1 : World} {n₀ n₁ B : Nat} {v v' : Value} {k m : Nat} {xs ys : List Value} {tmp : Obj}
    (hv : Boxed W B 72 v) (hrow : W.ownsRow n₁ 75 2 v k xs) (hn₁ : n₁ ≤ W.heap.size) (h0 : n₀ ≤ n₁) (hB : n₀ ≤ B)
    (hown' : w1.ownsRow n₁ 75 2 v' m ys) (hgrow : (W.alloc tmp).grownBy w1 v.ownBlock) :
    Boxed w1 B 72 v ∧ Boxed (w1.setCell ⟨B, 0, none⟩ v') B 72 v' ∧ (w1.setCell ⟨B, 0, none⟩ v').ownsRow n₁ 75 2 v' m ys ∧ KeepsOthers W (w1.setCell ⟨B, 0, none⟩ v') ∧ Below n₀ W (w1.setCell ⟨B, 0, none⟩ v') ∧ KpX n₁ B W (w1.setCell ⟨B, 0, none⟩ v') := by
  obtain ⟨a1, a2, -, a4, a5⟩ := hv.appended (by decide) (ownsRow_less h0 hrow) (by omega) hB (ownsRow_less h0 hown') hgrow
  refine ⟨a1, a2, hown'.kept (grownBy_setCell' w1 B v') (.inr (a1.not_row (by decide) hown').symm), a4, a5, fun b hb hx => ?_, fun b c e => ?_⟩
  · refine (Below.heap_setCell w1 ⟨B, 0, none⟩ v' b hx).trans ((hgrow.block b (by simp; omega) (row_far hrow hb)).trans ?_)
    exact heap_alloc_old W tmp b (by omega)
  · have hbl := (Array.getElem?_eq_some_iff.1 e).1
    have hx : b ≠ B := fun q => by subst q; rw [show W.heap[b]? = _ from hv] at e; simp at e
    refine (Below.heap_setCell w1 ⟨B, 0, none⟩ v' b hx).trans ((hgrow.block b (by simp; omega) (row_type hrow e (by decide))).trans ?_)
    exact (heap_alloc_old W tmp b hbl).trans e
theorem blkOwn {β : Type} (b : Nat) (c : Array Value) (t : TypeId) : Own (fun (_ : β) W => W.heap[b]? = some (Obj.cells c t (0, 0))) := by
  intro s X Y row h hg hr
  refine (hg.block b (Array.getElem?_eq_some_iff.1 h).1 fun e => ?_).trans h
  obtain ⟨o, ho, hc⟩ := hr b e.symm
  rw [show X.heap[b]? = _ from h] at ho; cases ho; cases hc
theorem chkIn {F : Fence} {n : Nat} {P : Program} {code : Code} {Q : Exit → Act → World → Prop} {a : Act} {E : World} (Fc : World → Prop) (h : Fc E) (k : ∀ W, Fc W → code.wpIn F n P Q a W) : code.wpIn F n P Q a E := k E h
/-- what the loop of nextPairs carries -/
def NxI (w : World) (n₁ : Nat) (D A C p K : Int) (f : List (Int × Int) → List (Int × Int)) (pre : List (Int × Int)) (W : World) : Prop :=
  (W.heap[w.heap.size]? = some (Obj.cells #[.int .i64 D, .int .i64 A, .int .i64 C] 24 (0, 0)) ∧ W.heap[w.heap.size + 1]? = some (Obj.cells #[.int .i64 p] 3 (0, 0))) ∧ W.heap[w.heap.size + 1 + 1]? = some (Obj.cells #[.int .i64 K] 3 (0, 0)) ∧
  (∃ v, Boxed W (w.heap.size + 1 + 1 + 1) 72 v ∧ W.ownsRow n₁ 75 2 v (f pre).length (ints (flat (f pre))) ∧ True) ∧ Below w.heap.size w W ∧ n₁ ≤ W.heap.size
theorem NxI.own (w : World) (n₁ : Nat) (D A C p K : Int) (f : List (Int × Int) → List (Int × Int)) {B : Nat} (hB : w.heap.size ≤ B) : OwnFrom B (NxI w n₁ D A C p K f) :=
  OwnFrom.and (OwnFrom.and (Own.from (blkOwn _ _ _) _) (Own.from (blkOwn _ _ _) _)) (OwnFrom.and (Own.from (blkOwn _ _ _) _) (OwnFrom.and (Own.from (holdsRow_own n₁ _ 72 75 2 (fun pre => (f pre).length) (fun pre => ints (flat (f pre))) (fun _ _ => True)) _) (OwnFrom.and (ownFrom_below (Nat.le_refl _) hB) (fun s W W' row h hg _ => Nat.le_trans h hg.size))))
theorem NxI.far {w : World} {n₁ : Nat} {D A C p K : Int} {f : List (Int × Int) → List (Int × Int)} {pre : List (Int × Int)} {W V : World} (h : NxI w n₁ D A C p K f pre W) (hw : w.heap.size ≤ W.heap.size) (hb : Below W.heap.size W V) : NxI w n₁ D A C p K f pre V := by
  have hk : ∀ {b : Nat} {X : Obj}, W.heap[b]? = some X → V.heap[b]? = some X := fun e => (hb.block _ (Array.getElem?_eq_some_iff.1 e).1).trans e
  obtain ⟨⟨h1, h2⟩, h3, ⟨v, h4, h5, -⟩, h6, h7⟩ := h
  exact ⟨⟨hk h1, hk h2⟩, hk h3, ⟨v, hk h4, ⟨h5.1, h5.2.imp id fun ⟨g, cap, cur, e1, e2, e3, rest⟩ => ⟨g, cap, cur, e1, e2, hk e3, rest⟩⟩, trivial⟩, h6.trans (hb.mono hw), Nat.le_trans h7 hb.size⟩
theorem nextPairs_any (D A C : Int) (p k : Nat) (v : Value) (B : Nat) (w : World) (hp : 2 ≤ p) (hp2 : p ≤ 1000) (hk : 1 ≤ k) (hk2 : k + 1 ≤ 1000) (hM : (p : Int) ^ (k + 1) ≤ 1000000000) (ho : OwnQ w B v (pl D A C p k)) :
    Calls Tryz.prog 81 #[.agg #[.int .i64 D, .int .i64 A, .int .i64 C], v, .int .i64 p, .int .i64 (k + 1 : Nat)] w fun r w' =>
    ∃ v' B', r = .returned v' ∧ OwnQ w' B' v' (pl D A C p (k + 1)) ∧ w.heap.size ≤ B' ∧ Below w.heap.size w w' := by
  obtain ⟨i0, hi, iz0, iz1, iz2⟩ := info_parts infoPair
  have hM0 := pow_mono' (p := (p : Int)) (by omega) (show k ≤ k + 1 by omega)
  have hM1 := pow_mono' (p := (p : Int)) (by omega) hk
  rw [show (p : Int) ^ 1 = p by rw [Int.pow_succ, Int.pow_zero, Int.one_mul]] at hM1
  have hmem := fun x h => pl_mem (D := D) (A := A) (C := C) (p := p) (k := k) (x := x) (by omega) h
  have hlen : (pl D A C p k).length ≤ 2 * 1000000000 := by have := pl_len (D := D) (A := A) (C := C) (p := p) (k := k); omega
  have hcl := cd_len (pl D A C p k) p ((p : Int) ^ k)
  have hN : (cd (pl D A C p k) p ((p : Int) ^ k)).length ≤ 4000000000000 := by
    have := Nat.mul_le_mul hp2 hlen; omega
  have hnx := pl_next (D := D) (A := A) (C := C) (p := (p : Int)) (k := k) (by omega) hk
  have TP : ∀ (m e : Int) (W : World), Calls Tryz.prog 94 #[.agg #[.int .i64 D, .int .i64 A, .int .i64 C], .int .i64 m, .int .i64 e, .int .i64 p, .int .i64 (k + 1 : Nat)] W fun r w' => r = .returned (.bool (poB D A C m e p (k + 1))) ∧ Below W.heap.size W w' :=
    fun m e W => possible_any D A C m e p (k + 1) W (by omega) (by omega) (by omega) hk2 hM
  obtain ⟨gl, cl, al, cur, rfl, hcur, hgl, hrow⟩ := ho.row
  have HC := fun W : World => candidates_any D A C p k al (pl D A C p k).length cl W (by omega) (by omega) (by omega) (by omega)
  have hbd : ∀ i, i < (pl D A C p k).length → (0 ≤ ((pl D A C p k).getD i (0, 0)).1 ∧ ((pl D A C p k).getD i (0, 0)).1 ≤ 1000000000) ∧ (0 ≤ ((pl D A C p k).getD i (0, 0)).2 ∧ ((pl D A C p k).getD i (0, 0)).2 ≤ 1000000000) := fun i hi => by
    have := hmem ((pl D A C p k).getD i (0, 0)) (by rw [List.getD_eq_getElem?_getD, List.getElem?_eq_getElem hi]; exact List.getElem_mem hi)
    omega
  have hMM : 0 ≤ (p : Int) ^ k ∧ (p : Int) ^ k ≤ 1000000000 := by omega
  clear hM0 hM1 hmem hcl ho
  obtain ⟨L, hL⟩ : ∃ L, pl D A C p k = L := ⟨_, rfl⟩
  obtain ⟨M, hMe⟩ : ∃ M, (p : Int) ^ k = M := ⟨_, rfl⟩
  rw [hL] at hlen hN hnx hcur hgl hrow HC hbd ⊢
  obtain ⟨K, hK⟩ : ∃ K : Int, ((k + 1 : Nat) : Int) = K := ⟨_, rfl⟩
  rw [hK] at TP HC ⊢
  clear hK
  rw [hMe] at hN hnx HC hMM
  clear hMe hL
  refine (callsIn_wide (n := 6)).1 ?_
  refine callsIn_of_wp_marks Tryz.func81 rfl trivial ?_ rfl
  simp only [Tryz.ntmps81, List.size_toArray, List.length_cons, List.length_nil, Nat.reduceAdd, Nat.reduceSub, Array.replicate_succ, Array.replicate_zero, List.push_toArray, List.append_toArray, List.nil_append, List.cons_append]
  gi_wp2_with (refine ⟨trivial, ?_⟩; gi_at_call 98; refine (callsIn_wide.2 (HC _)).mono ?_; rintro e w' ⟨rfl, rfl⟩)
  refine chkIn (fun W => W.heap.size = w.heap.size + 8 ∧ Below w.heap.size w W ∧ W.heap[w.heap.size]? = some (Obj.cells #[.int .i64 D, .int .i64 A, .int .i64 C] 24 (0, 0)) ∧ W.heap[w.heap.size + 1]? = some (Obj.cells #[.int .i64 p] 3 (0, 0)) ∧ W.heap[w.heap.size + 1 + 1]? = some (Obj.cells #[.int .i64 K] 3 (0, 0)) ∧
    W.heap[w.heap.size + 1 + 1 + 1]? = some (Obj.cells #[.slice none 0 0] 72 (0, 0)) ∧ W.heap[w.heap.size + 1 + 1 + 1 + 1 + 1]? = some (Obj.cells #[.slice al L.length cl] 72 (0, 0)) ∧ W.heap[w.heap.size + 1 + 1 + 1 + 1 + 1 + 1]? = some (Obj.cells #[.int .i64 p] 3 (0, 0)) ∧ W.heap[w.heap.size + 1 + 1 + 1 + 1 + 1 + 1 + 1]? = some (Obj.cells #[.int .i64 M] 3 (0, 0))) ?_ ?_
  · refine ⟨by simp, ?_, ?_, ?_, ?_, ?_, ?_, ?_, ?_⟩ <;> (repeat' first | (with_reducible first | assumption | (apply Ne.symm; assumption) | apply Nat.le_refl | apply Nat.le_add_right | apply zL | apply zRf | apply Wx.box | apply Wx.box4 | apply zWa | apply Wx.drew | apply zWn | apply bx_drew | apply bx_drewN | apply bx_set3 | apply bx_set2 | apply bx_set4 | apply bx_set1) | ((with_reducible apply bx_new); (focus (go_size; done))) | (with_reducible first | apply zOl | apply zFa | apply zDn | apply zDr | apply zAl | apply zSt | refine zVi (by assumption) ?_ ?_) | go_size | omega)
  rintro W0 ⟨hsz, hB0, q0, q1, q2, q3, q5, q6, q7⟩
  refine wpIn_rangeFunc_ownH rfl (by omega) (gf := 106) (lb := #[.pointer (some ⟨w.heap.size + 1 + 1 + 1 + 1 + 1 + 1, 0, none⟩), .pointer (some ⟨w.heap.size + 1 + 1 + 1 + 1 + 1, 0, none⟩), .pointer (some ⟨w.heap.size + 1 + 1 + 1 + 1 + 1 + 1 + 1, 0, none⟩)]) rfl trivial (enters_of Tryz.func106 (by kernel_rfl) rfl)
    (candStops Fence.wide 5 trivial rfl (by omega) W0.heap.size (w.heap.size + 1 + 1 + 1) _ _ _ gl p M al cl cur L W0 (by omega) hMM (by omega) hbd hcur (by omega) (by omega) (by omega) (fun e => by have := hgl e; omega) (Nat.le_refl _) q6 q5 q7 (hrow.imp id fun q => ⟨q.1, (hB0.block _ (blk_lt' q.2)).trans q.2⟩))
    kpX_t (kpX_b (Nat.le_refl _)) (Below.refl _ _) (fun _ => rfl)
    (NxI w W0.heap.size D A C p K (List.filter fun x => poB D A C x.1 x.2 p (k + 1))) (fun _ _ _ => False) (NxI.own _ _ _ _ _ _ _ _ (by omega)) (fun _ _ _ _ _ hs _ _ => hs)
    ⟨⟨q0, q1⟩, q2, ⟨_, q3, World.ownsRow_nil _ _ _ _, trivial⟩, hB0, Nat.le_refl _⟩
    (fun x a' W => ∃ Bx, W0.heap.size ≤ Bx ∧ W.heap[Bx]? = some (Obj.cells #[.int .i64 x.1, .int .i64 x.2] 75 (0, 0)) ∧ a' = { tmps := #[.agg #[.int .i64 D, .int .i64 A, .int .i64 C], .slice al L.length cl, .int .i64 p, .int .i64 K, .pointer (some ⟨w.heap.size, 0, none⟩), undef, .pointer (some ⟨w.heap.size + 1, 0, none⟩), .pointer (some ⟨w.heap.size + 1 + 1, 0, none⟩), .slice none 0 0, .pointer (some ⟨w.heap.size + 1 + 1 + 1, 0, none⟩), .pointer (some ⟨Bx, 0, none⟩), .agg #[.int .i64 D, .int .i64 A, .int .i64 C], .slice al L.length cl, .int .i64 p, .int .i64 K, .func (.func 106) #[] #[.pointer (some ⟨w.heap.size + 1 + 1 + 1 + 1 + 1 + 1, 0, none⟩), .pointer (some ⟨w.heap.size + 1 + 1 + 1 + 1 + 1, 0, none⟩), .pointer (some ⟨w.heap.size + 1 + 1 + 1 + 1 + 1 + 1 + 1, 0, none⟩)], .agg #[.int .i64 x.1, .int .i64 x.2], undef, undef, undef, undef, undef, undef, undef, undef, undef, undef, undef, undef, undef], defers := [] })
    (fun x a' _ X Y row hs hg hr => by obtain ⟨Bx, h1, h2, h3⟩ := hs; exact ⟨Bx, h1, blkOwn (β := Unit) Bx _ _ () X Y row h2 hg (fun r e => (hr r e).2), h3⟩)
    ?assign ?body ?done ?stop
  case assign =>
    rintro l pre x W G hI hK
    have hs0 := hI.2.2.2.1.size
    have hs1 := hI.2.2.2.2
    gi_wp2
    have hb : Below W.heap.size W (W.alloc (Obj.cells #[.int .i64 x.1, .int .i64 x.2] 75 (0, 0))) := (Below.refl _ W).alloc (Nat.le_refl _) _
    exact hK _ _ ((KeepsOthers.alloc _ _).from _) (kpX_below hs1 hb) (hI.far hs0 hb) ⟨W.heap.size, hs1, bx_new rfl, rfl⟩
  case body =>
    rintro l pre ⟨x1, x2⟩ a' W hl ⟨r, hr⟩ hI ⟨Bx, hBx, bX, rfl⟩ hlt
    have hs0 := hI.2.2.2.1.size
    have hs1 := hI.2.2.2.2
    have cq := blk_cell hI.1.1
    have cq0 := cq 0
    have cq1 := cq 1
    have cq2 := cq 2
    have cp0 := blk_cell hI.1.2 0
    have ck0 := blk_cell hI.2.1 0
    have cx0 := blk_cell bX 0
    have cx1 := blk_cell bX 1
    dsimp only at cx0 cx1
    have h1' : 1 ≤ 6 - 1 - 1 := by omega
    have TX := TP x1 x2
    obtain ⟨b, hb⟩ : ∃ b, poB D A C x1 x2 p (k + 1) = b := ⟨_, rfl⟩
    rw [hb] at TX
    cases b
    · gi_wp2_with (refine ⟨trivial, ?_⟩; gi_at_call 94; refine (CallsIn.inRound l (callsIn_wide.2 (TX _))).mono ?_; rintro e w3 ⟨rfl, hb3⟩)
      refine ⟨(keeps_below hb3).from _, kpX_below hs1 hb3, ?_⟩
      have := hI.far hs0 hb3
      simpa [NxI, List.filter_append, hb] using this
    · have hlf : (List.filter (fun x => poB D A C x.1 x.2 p (k + 1)) pre).length ≤ pre.length := List.length_filter_le _ _
      have hss : W0.heap.size ≤ W.heap.size := hs1
      gi_wp2_with (first
        | (refine ⟨trivial, ?_⟩; gi_at_call 94; refine (CallsIn.inRound l (callsIn_wide.2 (TX _))).mono ?_; rintro e w3 ⟨rfl, hb3⟩; have hI3 := hI.far hs0 hb3; obtain ⟨v, hv, hrow', -⟩ := hI3.2.2.1; have hc3 := hv.cell; have hf3 := hv.frozen; have bX3 := (hb3.block _ (blk_lt' bX)).trans bX; have cx03 := blk_cell bX3 0; have cx13 := blk_cell bX3 1; dsimp only at cx03 cx13; have hs3 := hb3.size)
        | (gi_at_builtin; refine wpListIn_append_own _ rfl _ _ 72 rfl W0.heap.size 75 i0 (.agg #[.int .i64 0, .int .i64 0]) 2 16 Tryz.underlying72 hi iz0 iz1 iz2 rfl (by decide) v _ _ rfl (hrow'.alloc _) ⟨w3.heap.size, 0, none⟩ 1 1 [_, _] rfl rfl (cells2_new _ _ _ _) (by simp [Value.oneCell']) (by unfold maxLen; omega) (by omega) (by simp; omega) ?_; intro v' w5 hown' hgrow _; obtain ⟨g', cap', rfl⟩ := ownsRow_succ hown'; obtain ⟨a1, a2, a3, a4, a5, a6⟩ := appendedX (n₀ := w.heap.size) hv hrow' (by omega) (by omega) (by omega) hown' hgrow; have hc1 := a1.cell; have hf1 := a1.frozen))
      refine ⟨((keeps_below hb3).trans a4).from _, kpX_t (kpX_below hs1 hb3) a6, ⟨(a6.1 _ (by omega) (by omega)).trans hI3.1.1, (a6.1 _ (by omega) (by omega)).trans hI3.1.2⟩, (a6.1 _ (by omega) (by omega)).trans hI3.2.1, ⟨_, a2, ?_, trivial⟩, hI3.2.2.2.1.trans a5, Nat.le_trans hI3.2.2.2.2 a4.size⟩
      rw [List.filter_append, show List.filter (fun x => poB D A C x.1 x.2 p (k + 1)) [(x1, x2)] = [(x1, x2)] by simp [hb], flat_append, ints_append, List.length_append]
      simpa [ints, flat] using a3
  case done =>
    rintro Dd ys W hD rfl hI hK
    obtain ⟨v, hv, hrow', -⟩ := hI.2.2.1
    have hc := hv.cell
    have hB := hI.2.2.2.1
    rw [hnx] at hrow'
    gi_wp2
    refine ⟨by simp, .inl ⟨_, _, rfl, run_takeDeferred hK, ?_⟩⟩
    exact ⟨_, results_tmp rfl _ _ _, v, W0.heap.size, rfl, ownsRow_putObj hrow' _ hK rfl, by omega, hB.trans (belowK_b (w := w) (Nat.le_refl _) W Dd _ _ (by omega) hK rfl rfl)⟩
  case stop =>
    rintro Dd c pre W _ _ h _
    exact h.elim
end Go.Proofs.YtegiddpakocodaaGreat
