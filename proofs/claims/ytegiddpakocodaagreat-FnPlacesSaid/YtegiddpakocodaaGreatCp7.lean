/- The first of the next pairs that lifts: the program. -/
import Derived.Test.YtegiddpakocodaaGreatCp6
import Derived.Test.YtegiddpakocodaaGreatLo9
import Derived.Test.YtegiddpakocodaaGreatPln
namespace Go.Proofs.YtegiddpakocodaaGreat
open Go.RowKit Go.Shelf
set_option linter.unusedVariables false
set_option maxHeartbeats 4000000
set_option maxRecDepth 20000
set_option linter.unusedSimpArgs false
attribute [local go_sem] Oper.semAt_some
/-- a pair, or the zero pair, and whether there is one -/
def opV (o : Option (Int × Int)) : Value := match o with
  | some x => .tuple #[.agg #[.int .i64 x.1, .int .i64 x.2], .bool true]
  | none => .tuple #[.agg #[.int .i64 0, .int .i64 0], .bool false]
/-- what the loop of firstLift carries -/
def FlI (w : World) (n₁ : Nat) (D A C p K x1 x2 : Int) (b : Bool) (W : World) : Prop :=
  (W.heap[w.heap.size]? = some (Obj.cells #[.int .i64 D, .int .i64 A, .int .i64 C] 24 (0, 0)) ∧ W.heap[w.heap.size + 1]? = some (Obj.cells #[.int .i64 p] 3 (0, 0))) ∧ W.heap[w.heap.size + 1 + 1]? = some (Obj.cells #[.int .i64 K] 3 (0, 0)) ∧
  (W.heap[w.heap.size + 1 + 1 + 1]? = some (Obj.cells #[.int .i64 x1, .int .i64 x2] 75 (0, 0)) ∧ W.heap[w.heap.size + 1 + 1 + 1 + 1]? = some (Obj.cells #[.bool b] 4 (0, 0))) ∧ Below w.heap.size w W ∧ n₁ ≤ W.heap.size
theorem FlI.own {β : Type} (w : World) (n₁ : Nat) (D A C p K x1 x2 : Int) (b : Bool) {B : Nat} (hB : w.heap.size ≤ B) : OwnFrom B (fun (_ : β) W => FlI w n₁ D A C p K x1 x2 b W) :=
  OwnFrom.and (OwnFrom.and (Own.from (blkOwn _ _ _) _) (Own.from (blkOwn _ _ _) _)) (OwnFrom.and (Own.from (blkOwn _ _ _) _) (OwnFrom.and (OwnFrom.and (Own.from (blkOwn _ _ _) _) (Own.from (blkOwn _ _ _) _)) (OwnFrom.and (ownFrom_below (Nat.le_refl _) hB) (fun s W W' row h hg _ => Nat.le_trans h hg.size))))
theorem FlI.far {w : World} {n₁ : Nat} {D A C p K x1 x2 : Int} {b : Bool} {W V : World} (h : FlI w n₁ D A C p K x1 x2 b W) (hw : w.heap.size ≤ W.heap.size) (hb : Below W.heap.size W V) : FlI w n₁ D A C p K x1 x2 b V := by
  have hk : ∀ {b : Nat} {X : Obj}, W.heap[b]? = some X → V.heap[b]? = some X := fun e => (hb.block _ (Array.getElem?_eq_some_iff.1 e).1).trans e
  obtain ⟨⟨h1, h2⟩, h3, ⟨h4, h5⟩, h6, h7⟩ := h
  exact ⟨⟨hk h1, hk h2⟩, hk h3, ⟨hk h4, hk h5⟩, h6.trans (hb.mono hw), Nat.le_trans h7 hb.size⟩
theorem firstLift_any (D A C : Int) (p k : Nat) (v : Value) (B : Nat) (w : World) (hp : 2 ≤ p) (hp2 : p ≤ 1000) (hk : 1 ≤ k) (hk2 : k + 1 ≤ 1000) (hM : (p : Int) ^ (k + 1) ≤ 1000000000) (ho : OwnQ w B v (pl D A C p k)) :
    Calls Tryz.prog 80 #[.agg #[.int .i64 D, .int .i64 A, .int .i64 C], v, .int .i64 p, .int .i64 (k + 1 : Nat)] w fun r w' =>
    r = .returned (opV (fdL D A C p (k + 1))) ∧ Below w.heap.size w w' := by
  have hfd : fdL D A C p (k + 1) = (pl D A C p (k + 1)).find? fun x => liB D A C x.1 x.2 p (k + 1) := rfl
  have hM0 := pow_mono' (p := (p : Int)) (by omega) (show k ≤ k + 1 by omega)
  have hM1 := pow_mono' (p := (p : Int)) (by omega) hk
  rw [show (p : Int) ^ 1 = p by rw [Int.pow_succ, Int.pow_zero, Int.one_mul]] at hM1
  have hmem := fun x h => pl_mem (D := D) (A := A) (C := C) (p := p) (k := k) (x := x) (by omega) h
  have hlen : (pl D A C p k).length ≤ 2 * 1000000000 := by have := pl_len (D := D) (A := A) (C := C) (p := p) (k := k); omega
  have hfn := find_next (D := D) (A := A) (C := C) (p := (p : Int)) (k := k) (by omega) hk
  have TP : ∀ (m e : Int) (W : World), Calls Tryz.prog 79 #[.agg #[.int .i64 D, .int .i64 A, .int .i64 C], .int .i64 m, .int .i64 e, .int .i64 p, .int .i64 (k + 1 : Nat)] W fun r w' => r = .returned (.bool (liB D A C m e p (k + 1))) ∧ Below W.heap.size W w' :=
    fun m e W => lifts_any D A C m e p (k + 1) W (by omega) (by omega) (by omega) hk2 hM
  obtain ⟨gl, cl, al, cur, rfl, hcur, hgl, hrow⟩ := ho.row
  have HC := fun W : World => candidates_any D A C p k al (pl D A C p k).length cl W (by omega) (by omega) (by omega) (by omega)
  have hbd : ∀ i, i < (pl D A C p k).length → (0 ≤ ((pl D A C p k).getD i (0, 0)).1 ∧ ((pl D A C p k).getD i (0, 0)).1 ≤ 1000000000) ∧ (0 ≤ ((pl D A C p k).getD i (0, 0)).2 ∧ ((pl D A C p k).getD i (0, 0)).2 ≤ 1000000000) := fun i hi => by
    have := hmem ((pl D A C p k).getD i (0, 0)) (by rw [List.getD_eq_getElem?_getD, List.getElem?_eq_getElem hi]; exact List.getElem_mem hi)
    omega
  have hMM : 0 ≤ (p : Int) ^ k ∧ (p : Int) ^ k ≤ 1000000000 := by omega
  clear hM0 hM1 hmem ho
  obtain ⟨L, hL⟩ : ∃ L, pl D A C p k = L := ⟨_, rfl⟩
  obtain ⟨M, hMe⟩ : ∃ M, (p : Int) ^ k = M := ⟨_, rfl⟩
  rw [hL] at hlen hfn hcur hgl hrow HC hbd ⊢
  obtain ⟨K, hK⟩ : ∃ K : Int, ((k + 1 : Nat) : Int) = K := ⟨_, rfl⟩
  rw [hK] at TP HC ⊢
  clear hK
  rw [hMe] at hfn HC hMM
  clear hMe hL
  rw [← hfd] at hfn
  clear hfd
  generalize fdL D A C p (k + 1) = R at *
  refine (callsIn_wide (n := 6)).1 ?_
  refine callsIn_of_wp_marks Tryz.func80 rfl trivial ?_ rfl
  simp only [Tryz.ntmps80, List.size_toArray, List.length_cons, List.length_nil, Nat.reduceAdd, Nat.reduceSub, Array.replicate_succ, Array.replicate_zero, List.push_toArray, List.append_toArray, List.nil_append, List.cons_append]
  gi_wp2_with (refine ⟨trivial, ?_⟩; gi_at_call 98; refine (callsIn_wide.2 (HC _)).mono ?_; rintro e w' ⟨rfl, rfl⟩)
  refine chkIn (fun W => W.heap.size = w.heap.size + 9 ∧ Below w.heap.size w W ∧ W.heap[w.heap.size]? = some (Obj.cells #[.int .i64 D, .int .i64 A, .int .i64 C] 24 (0, 0)) ∧ W.heap[w.heap.size + 1]? = some (Obj.cells #[.int .i64 p] 3 (0, 0)) ∧ W.heap[w.heap.size + 1 + 1]? = some (Obj.cells #[.int .i64 K] 3 (0, 0)) ∧
    W.heap[w.heap.size + 1 + 1 + 1]? = some (Obj.cells #[.int .i64 0, .int .i64 0] 75 (0, 0)) ∧ W.heap[w.heap.size + 1 + 1 + 1 + 1]? = some (Obj.cells #[.bool false] 4 (0, 0)) ∧ W.heap[w.heap.size + 1 + 1 + 1 + 1 + 1 + 1]? = some (Obj.cells #[.slice al L.length cl] 72 (0, 0)) ∧ W.heap[w.heap.size + 1 + 1 + 1 + 1 + 1 + 1 + 1]? = some (Obj.cells #[.int .i64 p] 3 (0, 0)) ∧ W.heap[w.heap.size + 1 + 1 + 1 + 1 + 1 + 1 + 1 + 1]? = some (Obj.cells #[.int .i64 M] 3 (0, 0))) ?_ ?_
  · refine ⟨by simp, ?_, ?_, ?_, ?_, ?_, ?_, ?_, ?_, ?_⟩ <;> (repeat' first | (with_reducible first | assumption | (apply Ne.symm; assumption) | apply Nat.le_refl | apply Nat.le_add_right | apply zL | apply zRf | apply Wx.box | apply Wx.box4 | apply zWa | apply Wx.drew | apply zWn | apply bx_drew | apply bx_drewN | apply bx_set3 | apply bx_set2 | apply bx_set4 | apply bx_set1) | ((with_reducible apply bx_new); (focus (go_size; done))) | (with_reducible first | apply zOl | apply zFa | apply zDn | apply zDr | apply zAl | apply zSt | refine zVi (by assumption) ?_ ?_) | go_size | omega)
  rintro W0 ⟨hsz, hB0, q0, q1, q2, q3, q4, q5, q6, q7⟩
  refine wpIn_rangeFunc_ownH rfl (by omega) (gf := 106) (lb := #[.pointer (some ⟨w.heap.size + 1 + 1 + 1 + 1 + 1 + 1 + 1, 0, none⟩), .pointer (some ⟨w.heap.size + 1 + 1 + 1 + 1 + 1 + 1, 0, none⟩), .pointer (some ⟨w.heap.size + 1 + 1 + 1 + 1 + 1 + 1 + 1 + 1, 0, none⟩)]) rfl trivial (enters_of Tryz.func106 (by kernel_rfl) rfl)
    (candStops Fence.wide 5 trivial rfl (by omega) W0.heap.size (w.heap.size + 1 + 1 + 1) _ _ _ gl p M al cl cur L W0 (by omega) hMM (by omega) hbd hcur (by omega) (by omega) (by omega) (fun e => by have := hgl e; omega) (Nat.le_refl _) q6 q5 q7 (hrow.imp id fun q => ⟨q.1, (hB0.block _ (blk_lt' q.2)).trans q.2⟩))
    kpX_t (kpX_b (Nat.le_refl _)) (Below.refl _ _) (fun _ => rfl)
    (fun pre W => FlI w W0.heap.size D A C p K 0 0 false W ∧ pre.find? (fun x => liB D A C x.1 x.2 p (k + 1)) = none) (fun c pre W => ∃ x, FlI w W0.heap.size D A C p K x.1 x.2 true W ∧ c = .ret ∧ pre.find? (fun x => liB D A C x.1 x.2 p (k + 1)) = some x)
    (OwnFrom.and (FlI.own _ _ _ _ _ _ _ _ _ _ (by omega)) (fun _ _ _ _ h _ _ => h)) (fun c s W W' row ⟨x, h1, h2, h3⟩ hg hr => ⟨x, FlI.own (β := Unit) w W0.heap.size D A C p K x.1 x.2 true (by omega) () W W' row h1 hg hr, h2, h3⟩)
    ⟨⟨⟨q0, q1⟩, q2, ⟨q3, q4⟩, hB0, Nat.le_refl _⟩, rfl⟩
    (fun x a' W => ∃ Bx, W0.heap.size ≤ Bx ∧ W.heap[Bx]? = some (Obj.cells #[.int .i64 x.1, .int .i64 x.2] 75 (0, 0)) ∧ a' = { tmps := #[.agg #[.int .i64 D, .int .i64 A, .int .i64 C], .slice al L.length cl, .int .i64 p, .int .i64 K, .pointer (some ⟨w.heap.size, 0, none⟩), undef, .pointer (some ⟨w.heap.size + 1, 0, none⟩), .pointer (some ⟨w.heap.size + 1 + 1, 0, none⟩), .pointer (some ⟨w.heap.size + 1 + 1 + 1, 0, none⟩), .pointer (some ⟨w.heap.size + 1 + 1 + 1 + 1, 0, none⟩), .pointer (some ⟨Bx, 0, none⟩), .agg #[.int .i64 D, .int .i64 A, .int .i64 C], .slice al L.length cl, .int .i64 p, .int .i64 K, .func (.func 106) #[] #[.pointer (some ⟨w.heap.size + 1 + 1 + 1 + 1 + 1 + 1 + 1, 0, none⟩), .pointer (some ⟨w.heap.size + 1 + 1 + 1 + 1 + 1 + 1, 0, none⟩), .pointer (some ⟨w.heap.size + 1 + 1 + 1 + 1 + 1 + 1 + 1 + 1, 0, none⟩)], .agg #[.int .i64 x.1, .int .i64 x.2], undef, undef, undef, undef, undef, undef, undef, undef, undef, undef], defers := [] })
    (fun x a' _ X Y row hs hg hr => by obtain ⟨Bx, h1, h2, h3⟩ := hs; exact ⟨Bx, h1, blkOwn (β := Unit) Bx _ _ () X Y row h2 hg (fun r e => (hr r e).2), h3⟩)
    ?assign ?body ?done ?stop
  case assign =>
    rintro l pre x W G hI hK
    have hs0 := hI.1.2.2.2.1.size
    have hs1 := hI.1.2.2.2.2
    gi_wp2
    have hb : Below W.heap.size W (W.alloc (Obj.cells #[.int .i64 x.1, .int .i64 x.2] 75 (0, 0))) := (Below.refl _ W).alloc (Nat.le_refl _) _
    exact hK _ _ ((KeepsOthers.alloc _ _).from _) (kpX_below hs1 hb) ⟨hI.1.far hs0 hb, hI.2⟩ ⟨W.heap.size, hs1, bx_new rfl, rfl⟩
  case body =>
    rintro l pre ⟨x1, x2⟩ a' W hl ⟨r, hr⟩ ⟨hI, hf0⟩ ⟨Bx, hBx, bX, rfl⟩ hlt
    have hs0 := hI.2.2.2.1.size
    have hs1 := hI.2.2.2.2
    have cq := blk_cell hI.1.1
    have cq0 := cq 0
    have cq1 := cq 1
    have cq2 := cq 2
    have cp0 := blk_cell hI.1.2 0
    have ck0 := blk_cell hI.2.1 0
    have cx0 := blk_cell bX 0
    have cx1 := blk_cell bX 1
    dsimp only at cx0 cx1
    have h1' : 1 ≤ 6 - 1 - 1 := by omega
    have TX := TP x1 x2
    obtain ⟨b, hb⟩ : ∃ b, liB D A C x1 x2 p (k + 1) = b := ⟨_, rfl⟩
    rw [hb] at TX
    cases b
    · gi_wp2_with (refine ⟨trivial, ?_⟩; gi_at_call 79; refine (CallsIn.inRound l (callsIn_wide.2 (TX _))).mono ?_; rintro e w3 ⟨rfl, hb3⟩)
      refine ⟨(keeps_below hb3).from _, kpX_below hs1 hb3, hI.far hs0 hb3, ?_⟩
      rw [List.find?_append, hf0]
      simp [hb]
    · have hss : W0.heap.size ≤ W.heap.size := hs1
      gi_wp2_with (refine ⟨trivial, ?_⟩; gi_at_call 79; refine (CallsIn.inRound l (callsIn_wide.2 (TX _))).mono ?_; rintro e w3 ⟨rfl, hb3⟩; have hI3 := hI.far hs0 hb3; have bX3 := (hb3.block _ (blk_lt' bX)).trans bX; have cx03 := blk_cell bX3 0; have cx13 := blk_cell bX3 1; dsimp only at cx03 cx13; have hs3 := hb3.size; have r3 := blk_cell hI3.2.2.1.1; have r30 := r3 0; have r31 := r3 1; have f3 := blk_frozen hI3.2.2.1.1; have r40 := blk_cell hI3.2.2.1.2 0; have f4 := blk_frozen hI3.2.2.1.2)
      obtain ⟨⟨z0, z1⟩, z2, ⟨z3, z4⟩, z5, z6⟩ := hI3
      refine ⟨((keeps_below hb3).trans (((KeepsOthers.setCell _ _ _).trans (KeepsOthers.setCell _ _ _)).trans (KeepsOthers.setCell _ _ _))).from _, (x1, x2), ⟨⟨?_, ?_⟩, ?_, ⟨?_, ?_⟩, ?_, ?_⟩, rfl, ?_⟩
      rotate_right
      · rw [List.find?_append, hf0]
        simp [hb]
      all_goals (repeat' first | (with_reducible first | assumption | (apply Ne.symm; assumption) | apply Nat.le_refl | apply Nat.le_add_right | apply zL | apply zRf | apply Wx.box | apply Wx.box4 | apply zWa | apply Wx.drew | apply zWn | apply bx_drew | apply bx_drewN | apply bx_set3 | apply bx_set2 | apply bx_set4 | apply bx_set1) | ((with_reducible apply bx_new); (focus (go_size; done))) | (with_reducible first | apply zOl | apply zFa | apply zDn | apply zDr | apply zAl | apply zSt | refine zVi (by assumption) ?_ ?_) | go_size | omega)
  case done =>
    rintro Dd ys W hD rfl ⟨hI, hf⟩ hK
    rw [hfn] at hf
    subst hf
    have hB := hI.2.2.2.1
    have r3 := blk_cell hI.2.2.1.1
    have r30 := r3 0
    have r31 := r3 1
    have f3 := blk_frozen hI.2.2.1.1
    have r40 := blk_cell hI.2.2.1.2 0
    have f4 := blk_frozen hI.2.2.1.2
    gi_wp2
    have hK' := ((((KeepsOthers.setCell W ⟨w.heap.size + 1 + 1 + 1, 0, none⟩ (.int .i64 0)).trans (KeepsOthers.setCell _ ⟨w.heap.size + 1 + 1 + 1, 1, none⟩ (.int .i64 0))).trans (KeepsOthers.setCell _ ⟨w.heap.size + 1 + 1 + 1 + 1, 0, none⟩ (.bool false)))).same Dd _ hK rfl
    obtain ⟨⟨z0, z1⟩, z2, ⟨z3, z4⟩, z5, z6⟩ := hI
    have y3 : (((W.setCell ⟨w.heap.size + 1 + 1 + 1, 0, none⟩ (.int .i64 0)).setCell ⟨w.heap.size + 1 + 1 + 1, 1, none⟩ (.int .i64 0)).setCell ⟨w.heap.size + 1 + 1 + 1 + 1, 0, none⟩ (.bool false)).heap[w.heap.size + 1 + 1 + 1]? = some (Obj.cells #[.int .i64 0, .int .i64 0] 75 (0, 0)) := by (repeat' first | (with_reducible first | assumption | (apply Ne.symm; assumption) | apply Nat.le_refl | apply Nat.le_add_right | apply zL | apply zRf | apply Wx.box | apply Wx.box4 | apply zWa | apply Wx.drew | apply zWn | apply bx_drew | apply bx_drewN | apply bx_set3 | apply bx_set2 | apply bx_set4 | apply bx_set1) | ((with_reducible apply bx_new); (focus (go_size; done))) | (with_reducible first | apply zOl | apply zFa | apply zDn | apply zDr | apply zAl | apply zSt | refine zVi (by assumption) ?_ ?_) | go_size | omega)
    have y4 : (((W.setCell ⟨w.heap.size + 1 + 1 + 1, 0, none⟩ (.int .i64 0)).setCell ⟨w.heap.size + 1 + 1 + 1, 1, none⟩ (.int .i64 0)).setCell ⟨w.heap.size + 1 + 1 + 1 + 1, 0, none⟩ (.bool false)).heap[w.heap.size + 1 + 1 + 1 + 1]? = some (Obj.cells #[.bool false] 4 (0, 0)) := by (repeat' first | (with_reducible first | assumption | (apply Ne.symm; assumption) | apply Nat.le_refl | apply Nat.le_add_right | apply zL | apply zRf | apply Wx.box | apply Wx.box4 | apply zWa | apply Wx.drew | apply zWn | apply bx_drew | apply bx_drewN | apply bx_set3 | apply bx_set2 | apply bx_set4 | apply bx_set1) | ((with_reducible apply bx_new); (focus (go_size; done))) | (with_reducible first | apply zOl | apply zFa | apply zDn | apply zDr | apply zAl | apply zSt | refine zVi (by assumption) ?_ ?_) | go_size | omega)
    have y5 : Below w.heap.size w (((W.setCell ⟨w.heap.size + 1 + 1 + 1, 0, none⟩ (.int .i64 0)).setCell ⟨w.heap.size + 1 + 1 + 1, 1, none⟩ (.int .i64 0)).setCell ⟨w.heap.size + 1 + 1 + 1 + 1, 0, none⟩ (.bool false)) := by (repeat' first | (with_reducible first | assumption | (apply Ne.symm; assumption) | apply Nat.le_refl | apply Nat.le_add_right | apply zL | apply zRf | apply Wx.box | apply Wx.box4 | apply zWa | apply Wx.drew | apply zWn | apply bx_drew | apply bx_drewN | apply bx_set3 | apply bx_set2 | apply bx_set4 | apply bx_set1) | ((with_reducible apply bx_new); (focus (go_size; done))) | (with_reducible first | apply zOl | apply zFa | apply zDn | apply zDr | apply zAl | apply zSt | refine zVi (by assumption) ?_ ?_) | go_size | omega)
    generalize (((W.setCell ⟨w.heap.size + 1 + 1 + 1, 0, none⟩ (.int .i64 0)).setCell ⟨w.heap.size + 1 + 1 + 1, 1, none⟩ (.int .i64 0)).setCell ⟨w.heap.size + 1 + 1 + 1 + 1, 0, none⟩ (.bool false)) = V at *
    have x3 := blk_cell ((blkOwn (β := Unit) _ _ _) () _ _ _ y3 (grownBy_putObj' V Dd (.deferred none)) (fun r e => by cases e; exact ⟨_, hK', rfl⟩))
    have x30 := x3 0
    have x31 := x3 1
    have x4 := blk_cell ((blkOwn (β := Unit) _ _ _) () _ _ _ y4 (grownBy_putObj' V Dd (.deferred none)) (fun r e => by cases e; exact ⟨_, hK', rfl⟩)) 0
    refine ⟨by simp, .inl ⟨_, _, rfl, run_takeDeferred hK', ?_⟩⟩
    refine ⟨opV none, ?_, rfl, y5.trans (belowK_b (w := w) (Nat.le_refl _) V Dd _ _ (by omega) hK' rfl rfl)⟩
    simp [results, opV, Tryz.f80, go_sem, x30, x31, x4]
  case stop =>
    rintro Dd c pre W hD hpre ⟨x, hI, rfl, hf⟩ hK
    have hR : R = some x := by
      obtain ⟨t, ht⟩ := hpre
      rw [← hfn, ← ht, List.find?_append, hf]; rfl
    subst hR
    have hB := hI.2.2.2.1
    have r3 := blk_cell hI.2.2.1.1
    have r30 := r3 0
    have r31 := r3 1
    have r40 := blk_cell hI.2.2.1.2 0
    gi_wp2
    have x3 := blk_cell ((blkOwn (β := Unit) _ _ _) () _ _ _ hI.2.2.1.1 (grownBy_putObj' W Dd (.deferred none)) (fun r e => by cases e; exact ⟨_, hK, rfl⟩))
    have x30 := x3 0
    have x31 := x3 1
    have x4 := blk_cell ((blkOwn (β := Unit) _ _ _) () _ _ _ hI.2.2.1.2 (grownBy_putObj' W Dd (.deferred none)) (fun r e => by cases e; exact ⟨_, hK, rfl⟩)) 0
    refine ⟨by simp, .inl ⟨_, _, rfl, run_takeDeferred hK, ?_⟩⟩
    refine ⟨opV (some x), ?_, rfl, hB.trans (belowK_b (w := w) (Nat.le_refl _) W Dd _ _ (by omega) hK rfl rfl)⟩
    simp [results, opV, Tryz.f80, go_sem, x30, x31, x4]
end Go.Proofs.YtegiddpakocodaaGreat
