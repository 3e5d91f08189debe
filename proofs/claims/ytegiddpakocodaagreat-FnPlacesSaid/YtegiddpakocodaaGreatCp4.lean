/- The pairs that the program looks at next: the iterator. -/
import Derived.RangeFuncNested
import Derived.RangeFuncBound
import Derived.RangeFuncCalls
import Derived.RangeFuncLeaves
import Derived.RangeFuncBox
import Derived.Shelf.Abstract
import Derived.Shelf.RegionOpen
import Derived.OwnWalkIn
import Derived.TacticsInMore
import Derived.LoopNIn
import Derived.LoopIn
import Derived.Test.YtegiddpakocodaaGreatCpA
namespace Go.Proofs.YtegiddpakocodaaGreat
open Go.RowKit Go.Shelf
set_option linter.unusedVariables false
set_option maxHeartbeats 4000000
set_option maxRecDepth 20000
set_option linter.unusedSimpArgs false
attribute [local go_sem] Oper.semAt_some
/-! ### what comes, in order -/
def cdX (b : Bool) (n : Int) (j : Nat) (x : Int × Int) : Int × Int := if b = true then (x.1 + j * n, x.2) else (x.1, x.2 + j * n)
def cdF (b : Bool) (x : Int × Int) : Bool := decide (x.2 = 1) == b
def cdI (b : Bool) (l : List (Int × Int)) (n : Int) (j i : Nat) : List (Int × Int) := ((l.take i).filter (cdF b)).map (cdX b n j)
def cdJ (b : Bool) (l : List (Int × Int)) (n : Int) (j : Nat) : List (Int × Int) := (List.range j).flatMap fun j => cdI b l n j l.length
theorem cdI_zero (b : Bool) (l : List (Int × Int)) (n : Int) (j : Nat) : cdI b l n j 0 = [] := by simp [cdI]
theorem cdI_step {b : Bool} {l : List (Int × Int)} {n : Int} {j i : Nat} (h : i < l.length) : cdI b l n j (i + 1) = cdI b l n j i ++ if cdF b (l.getD i (0, 0)) = true then [cdX b n j (l.getD i (0, 0))] else [] := by
  unfold cdI
  rw [List.take_add_one, List.getElem?_eq_getElem h, List.getD_eq_getElem?_getD, List.getElem?_eq_getElem h, List.filter_append, List.map_append]
  simp only [Option.toList_some, Option.getD_some]
  cases h2 : cdF b l[i] <;> simp [h2]
theorem cdJ_zero (b : Bool) (l : List (Int × Int)) (n : Int) : cdJ b l n 0 = [] := rfl
theorem cdJ_step (b : Bool) (l : List (Int × Int)) (n : Int) (j : Nat) : cdJ b l n (j + 1) = cdJ b l n j ++ cdI b l n j l.length := by
  unfold cdJ; rw [List.range_succ, List.flatMap_append]; simp
theorem cd_eq (l : List (Int × Int)) (P : Nat) (n : Int) : cd l P n = cdJ true l n P ++ cdJ false l n P := by
  unfold cd cd1 cd2 cdJ rg
  rw [Int.toNat_natCast, List.flatMap_map, List.flatMap_map]
  congr 1
  · congr 1; funext j
    unfold cdI
    rw [List.take_length]
    congr 1
    congr 1; funext x; simp [cdF]
  · congr 1; funext j
    unfold cdI
    rw [List.take_length]
    congr 1
    congr 1; funext x; simp [cdF]
theorem cdI_pre {b : Bool} {l : List (Int × Int)} {n : Int} {j i : Nat} : cdI b l n j i <+: cdI b l n j l.length := by
  unfold cdI
  rw [List.take_length]
  exact ((List.take_prefix i l).filter _).map _
theorem cdJ_pre {b : Bool} {l : List (Int × Int)} {n : Int} {j : Nat} : ∀ d, cdJ b l n j <+: cdJ b l n (j + d)
  | 0 => List.prefix_refl _
  | d + 1 => by rw [← Nat.add_assoc, cdJ_step]; exact (cdJ_pre d).trans (List.prefix_append _ _)
theorem cdB_pre {b : Bool} {l : List (Int × Int)} {n : Int} {j i P : Nat} (h : j < P) : cdJ b l n j ++ cdI b l n j i <+: cdJ b l n P := by
  have h1 : cdJ b l n j ++ cdI b l n j i <+: cdJ b l n (j + 1) := by
    rw [cdJ_step]; exact (List.prefix_append_right_inj _).2 cdI_pre
  obtain ⟨d, rfl⟩ : ∃ d, P = j + 1 + d := ⟨P - (j + 1), by omega⟩
  exact h1.trans (cdJ_pre d)
/-- what has come ahead of the plain pairs, and ahead of the turned ones -/
def cdB (b : Bool) (l : List (Int × Int)) (n : Int) (P : Nat) : List (Int × Int) := if b = true then [] else cdJ true l n P
theorem cd_pre {b : Bool} {l : List (Int × Int)} {n : Int} {j i P : Nat} (h : j < P) : cdB b l n P ++ (cdJ b l n j ++ cdI b l n j i) <+: cd l P n := by
  rw [cd_eq]
  cases b
  · exact (List.prefix_append_right_inj _).2 (cdB_pre h)
  · exact (cdB_pre h).trans (List.prefix_append _ _)
theorem pre_lt {α : Type} {l m : List α} {x : α} (h : l ++ [x] <+: m) : l.length < m.length := by
  have := h.length_le; simp at this; omega
def pre3 (l : List (Int × Int)) (n : Int) (P : Nat) (a : Nat) : List (Int × Int) := if a = 0 then [] else if a = 1 then cdJ true l n P else cd l P n
/-! ### what a round keeps -/
def KpX (n₁ X : Nat) (W W' : World) : Prop := (∀ b, b < n₁ → b ≠ X → W'.heap[b]? = W.heap[b]?) ∧ (∀ (b : Nat) (c : Array Value), W.heap[b]? = some (Obj.cells c 4 (0, 0)) → W'.heap[b]? = some (Obj.cells c 4 (0, 0)))
theorem kpX_t {n₁ X : Nat} {A B C : World} (h : KpX n₁ X A B) (k : KpX n₁ X B C) : KpX n₁ X A C := ⟨fun b hb hx => (k.1 b hb hx).trans (h.1 b hb hx), fun b c e => k.2 b c (h.2 b c e)⟩
theorem kpX_b {n₁ X : Nat} {w : World} (hn : n₁ ≤ w.heap.size) (W : World) (l : Nat) (o o' : Obj) (hl : w.heap.size ≤ l) (h : W.heap[l]? = some o) (hc : o.isCells = false) (_ : o.isWalk = false) : KpX n₁ X W (W.putObj l o') := by
  refine ⟨fun b hb _ => World.putObj_heap_other (by omega), fun b c e => ?_⟩
  have : b ≠ l := fun q => by subst q; rw [h] at e; cases e; cases hc
  exact (World.putObj_heap_other this).trans e
theorem gSet {W V : World} (h : W.grownBy V none) {s o : Nat} (hs : W.heap.size ≤ s) (v : Value) : W.grownBy (V.setCell ⟨s, o, none⟩ v) none :=
  ⟨h.os, h.tape, h.output, by rw [World.size_setCell]; exact h.size, fun i hi hne => (Below.heap_setCell V ⟨s, o, none⟩ v i (by simp; omega)).trans (h.block i hi hne)⟩
theorem gNew (W : World) (o : Obj) : W.grownBy (W.alloc o) none := World.grownBy_alloc W o none
/-- what the iterator reads -/
structure CdW (bp bl bs g tb P : Nat) (M : Int) (a : Option Addr) (c : Nat) (cur : Array Value) (l : List (Int × Int)) (W : World) : Prop where
  fp : W.heap[bp]? = some (.cells #[.int .i64 P] 3 (0, 0))
  fl : W.heap[bl]? = some (.cells #[.slice a l.length c] 72 (0, 0))
  fs : W.heap[bs]? = some (.cells #[.int .i64 M] 3 (0, 0))
  frow : l = [] ∨ (a = some ⟨g, 0, none⟩ ∧ W.heap[g]? = some (.cells cur 75 (0, 0)))
  ft : W.heap[tb]? = some (.cells #[.bool true, .bool false] 4 (0, 0))
theorem CdW.grown {bp bl bs g tb P : Nat} {M : Int} {a : Option Addr} {c : Nat} {cur : Array Value} {l : List (Int × Int)} {W V : World} (h : CdW bp bl bs g tb P M a c cur l W) (hg : W.grownBy V none) : CdW bp bl bs g tb P M a c cur l V := by
  have hk : ∀ {b : Nat} {X : Obj}, W.heap[b]? = some X → V.heap[b]? = some X := fun e => (hg.block _ (Array.getElem?_eq_some_iff.1 e).1 (by simp)).trans e
  exact ⟨hk h.fp, hk h.fl, hk h.fs, h.frow.imp id fun q => ⟨q.1, hk q.2⟩, hk h.ft⟩
theorem CdW.keep {n₁ X bp bl bs g tb P : Nat} {M : Int} {a : Option Addr} {c : Nat} {cur : Array Value} {l : List (Int × Int)} {W V : World} (h : CdW bp bl bs g tb P M a c cur l W) (hk : KpX n₁ X W V)
    (h1 : bp < n₁ ∧ bp ≠ X) (h2 : bl < n₁ ∧ bl ≠ X) (h3 : bs < n₁ ∧ bs ≠ X) (h4 : l ≠ [] → g < n₁ ∧ g ≠ X) : CdW bp bl bs g tb P M a c cur l V := by
  refine ⟨(hk.1 _ h1.1 h1.2).trans h.fp, (hk.1 _ h2.1 h2.2).trans h.fl, (hk.1 _ h3.1 h3.2).trans h.fs, ?_, hk.2 _ _ h.ft⟩
  by_cases e : l = []
  · exact .inl e
  · exact .inr (h.frow.elim (fun q => (e q).elim) fun q => ⟨q.1, (hk.1 _ (h4 e).1 (h4 e).2).trans q.2⟩)
theorem candIter_in (F : Fence) (n : Nat) (hF : F.fn 106) (hro : F.round = none) (hn : 1 ≤ n) (ll n₁ X bp bl bs g P : Nat) (M : Int) (a : Option Addr) (c : Nat) (cur : Array Value) (l : List (Int × Int)) (J Jx : List (Int × Int) → World → Prop) (W : World)
    (hP : P ≤ 1000) (hM : 0 ≤ M ∧ M ≤ 1000000000) (hl : l.length ≤ 4000000000) (hb : ∀ i, i < l.length → (0 ≤ (l.getD i (0, 0)).1 ∧ (l.getD i (0, 0)).1 ≤ 1000000000) ∧ (0 ≤ (l.getD i (0, 0)).2 ∧ (l.getD i (0, 0)).2 ≤ 1000000000))
    (hcur : ∀ i, i < l.length → cur[i * 2]? = some (.int .i64 (l.getD i (0, 0)).1) ∧ cur[i * 2 + 1]? = some (.int .i64 (l.getD i (0, 0)).2))
    (h1 : bp < n₁ ∧ bp ≠ X) (h2 : bl < n₁ ∧ bl ≠ X) (h3 : bs < n₁ ∧ bs ≠ X) (h4 : l ≠ [] → g < n₁ ∧ g ≠ X)
    (kp : W.heap[bp]? = some (.cells #[.int .i64 P] 3 (0, 0))) (kl : W.heap[bl]? = some (.cells #[.slice a l.length c] 72 (0, 0))) (ks : W.heap[bs]? = some (.cells #[.int .i64 M] 3 (0, 0))) (kr : l = [] ∨ (a = some ⟨g, 0, none⟩ ∧ W.heap[g]? = some (.cells cur 75 (0, 0))))
    (hJ : AbidesFrom W.heap.size J)
    (hY : ∀ pre x W, J pre W → pre.length < (cd l P M).length → YieldAt F (n - 1) Tryz.prog ll #[.agg #[.int .i64 x.1, .int .i64 x.2]] W fun e W' =>
      (e = .returned (.bool true) ∧ J (pre ++ [x]) W' ∧ KpX n₁ X W W') ∨ (e = .returned (.bool false) ∧ Jx (pre ++ [x]) W'))
    (h0 : J [] W) :
    CallsIn F n Tryz.prog 106 #[.func (.yield ll) #[] #[], .pointer (some ⟨bp, 0, none⟩), .pointer (some ⟨bl, 0, none⟩), .pointer (some ⟨bs, 0, none⟩)] W fun e W' => (∃ v, e = .returned v) ∧
      ((∃ ys, ys = cd l P M ∧ J ys W') ∨ (∃ pre, pre <+: cd l P M ∧ Jx pre W')) := by
  refine callsIn_of_wp Tryz.func106 rfl hF ?_ hro
  simp only [Tryz.ntmps106, List.size_toArray, List.length_cons, List.length_nil, Nat.reduceAdd, Nat.reduceSub, Array.replicate_succ, Array.replicate_zero, List.push_toArray, List.append_toArray, List.nil_append, List.cons_append]
  gi_wp2
  gi_loopw [12] (fun ov wr => ∃ o : Nat, ov = .int .i64 o ∧ o ≤ 2 ∧ J (pre3 l M P o) wr ∧ CdW bp bl bs g W.heap.size P M a c cur l wr) (fun ov _ => (2 - intOf ov).toNat)
  case atStart =>
    refine ⟨0, rfl, by omega, hJ _ _ _ _ h0 (gNew _ _) (fun r e => by cases e), ?_⟩
    have hk : ∀ {b : Nat} {X Y : Obj}, W.heap[b]? = some X → (W.alloc Y).heap[b]? = some X := fun e => bx_old e _
    exact ⟨hk kp, hk kl, hk ks, kr.imp id fun q => ⟨q.1, hk q.2⟩, bx_new rfl⟩
  case round =>
    obtain ⟨o, rfl, ho, hJo, hC⟩ := hrel
    by_cases ho2 : o = 2
    · subst ho2
      gi_wp2
      go_end0
      exact ⟨⟨_, rfl⟩, .inl ⟨_, rfl, hJo⟩⟩
    · have ho3 : (o : Int) < 2 := by omega
      have kt0 := blk_cell hC.ft 0
      have kt1 := blk_cell hC.ft 1
      have kp0 := blk_cell hC.fp 0
      rcases (show o = 0 ∨ o = 1 by omega) with rfl | rfl
      · gi_wp2
        gi_loopw [17] (fun jv wr => ∃ j : Nat, jv = .int .i64 j ∧ j ≤ P ∧ J (cdB true l M P ++ cdJ true l M j) wr ∧ CdW bp bl bs g W.heap.size P M a c cur l wr) (fun jv _ => (P - intOf jv).toNat)
        case atStart => exact ⟨0, rfl, by omega, by simpa [cdB, pre3, cdJ_zero] using hJo, hC⟩
        case round =>
          clear kt0 kt1 kp0 hC hJo
          obtain ⟨j, rfl, hj, hJj, hC⟩ := hrel
          by_cases hjP : j < P
          · have hjc : (j : Int) < (P : Int) := by omega
            have kl0 := blk_cell hC.fl 0
            gi_wp2
            gi_loopw [22] (fun iv wr => ∃ i : Nat, iv = .int .i64 i ∧ i ≤ l.length ∧ J (cdB true l M P ++ (cdJ true l M j ++ cdI true l M j i)) wr ∧ CdW bp bl bs g W.heap.size P M a c cur l wr) (fun iv _ => (l.length - intOf iv).toNat)
            case atStart => exact ⟨0, rfl, by omega, by simpa [cdI_zero] using hJj, hC⟩
            case round =>
              clear kl0 hC hJj
              obtain ⟨i, rfl, hi, hJi, hC⟩ := hrel
              by_cases hil : i < l.length
              · have hic : (i : Int) < (l.length : Int) := by omega
                have hne : l ≠ [] := by intro e; subst e; simp at hil
                obtain ⟨rfl, hgb⟩ := hC.frow.resolve_left hne
                have ks0 := blk_cell hC.fs 0
                have lks := blk_lt' hC.fs
                have c0 := (cell_of_row wr g (i * 2) cur 75 (0, 0) hgb).trans (hcur i hil).1
                have c1 := (cell_of_row wr g (i * 2 + 1) cur 75 (0, 0) hgb).trans (hcur i hil).2
                have hst := cdI_step (b := true) (n := M) (j := j) hil
                have hbi := hb i hil
                have hpre := cd_pre (b := true) (l := l) (n := M) (i := i + 1) hjP
                obtain ⟨⟨x1, x2⟩, hx⟩ : ∃ x, l.getD i (0, 0) = x := ⟨_, rfl⟩
                rw [hx] at c0 c1 hst hbi
                rw [hst] at hpre
                dsimp only at c0 c1 hbi
                have hm := mul_bd (a := (j : Int)) (b := M) (A := 1000) (B := 1000000000) (by omega) (by omega)
                have hm0 : 0 ≤ (j : Int) * M := Int.mul_nonneg (by omega) hM.1
                by_cases hp1 : x2 = 1
                · subst hp1
                  have hp1 := trivial
                  have hpre : (cdB true l M P ++ (cdJ true l M j ++ cdI true l M j i)) ++ [(x1 + j * M, 1)] <+: cd l P M := by simpa [cdF, cdX, hp1, List.append_assoc] using hpre
                  obtain ⟨fn, tm, asg, bdy, hy, hR⟩ := hY _ (x1 + j * M, 1) (wr.alloc (.cells #[.int .i64 (x1 + j * M), .int .i64 1] 75)) (hJ _ _ _ _ hJi (gNew _ _) (fun r e => by cases e)) (pre_lt hpre)
                  dsimp only at hy
                  gi_wp2
                  refine hR.mono ?_
                  rintro e W3 (⟨rfl, hJ3, hk3⟩ | ⟨rfl, hJx3⟩)
                  · have hC3 := (hC.grown (gNew wr _)).keep hk3 h1 h2 h3 h4
                    clear hC hy hR
                    gi_wp2
                    go_roundw
                    case rel => (repeat apply Exists.intro); exact ⟨⟨i + 1, by go_num, by omega, by rw [hst]; simpa [cdF, cdX, hp1, List.append_assoc] using hJ3, hC3⟩, rfl⟩
                    case measure => simp [intOf]; omega
                  · gi_wp2
                    refine bodyPost_ret (results_none rfl _ _ _) rfl ?_
                    exact ⟨⟨_, rfl⟩, .inr ⟨_, hpre, hJx3⟩⟩
                · have hxb : (x2 == 1) = false := by simp [hp1]
                  gi_wp2
                  go_roundw
                  case rel => exact ⟨i + 1, by go_num, by omega, by rw [hst]; simpa [cdF, cdX, hp1] using hJ _ _ _ _ hJi (gNew _ _) (fun r e => by cases e), hC.grown (gNew wr _)⟩
                  case measure => simp [intOf]; omega
              · obtain rfl : i = l.length := by omega
                gi_wp2
                go_roundw
                case rel => exact ⟨j + 1, by go_num, by omega, by rw [cdJ_step]; exact hJi, hC⟩
                case measure => simp [intOf]; omega
          · obtain rfl : j = P := by omega
            gi_wp2
            go_roundw
            case rel => first
              | exact ⟨1, by go_num, by omega, by simpa [cdB, pre3, cd_eq] using hJj, hC⟩
              | exact ⟨2, by go_num, by omega, by simpa [cdB, pre3, cd_eq] using hJj, hC⟩
            case measure => simp [intOf]
      · gi_wp2
        gi_loopw [17] (fun jv wr => ∃ j : Nat, jv = .int .i64 j ∧ j ≤ P ∧ J (cdB false l M P ++ cdJ false l M j) wr ∧ CdW bp bl bs g W.heap.size P M a c cur l wr) (fun jv _ => (P - intOf jv).toNat)
        case atStart => exact ⟨0, rfl, by omega, by simpa [cdB, pre3, cdJ_zero] using hJo, hC⟩
        case round =>
          clear kt0 kt1 kp0 hC hJo
          obtain ⟨j, rfl, hj, hJj, hC⟩ := hrel
          by_cases hjP : j < P
          · have hjc : (j : Int) < (P : Int) := by omega
            have kl0 := blk_cell hC.fl 0
            gi_wp2
            gi_loopw [22] (fun iv wr => ∃ i : Nat, iv = .int .i64 i ∧ i ≤ l.length ∧ J (cdB false l M P ++ (cdJ false l M j ++ cdI false l M j i)) wr ∧ CdW bp bl bs g W.heap.size P M a c cur l wr) (fun iv _ => (l.length - intOf iv).toNat)
            case atStart => exact ⟨0, rfl, by omega, by simpa [cdI_zero] using hJj, hC⟩
            case round =>
              clear kl0 hC hJj
              obtain ⟨i, rfl, hi, hJi, hC⟩ := hrel
              by_cases hil : i < l.length
              · have hic : (i : Int) < (l.length : Int) := by omega
                have hne : l ≠ [] := by intro e; subst e; simp at hil
                obtain ⟨rfl, hgb⟩ := hC.frow.resolve_left hne
                have ks0 := blk_cell hC.fs 0
                have lks := blk_lt' hC.fs
                have c0 := (cell_of_row wr g (i * 2) cur 75 (0, 0) hgb).trans (hcur i hil).1
                have c1 := (cell_of_row wr g (i * 2 + 1) cur 75 (0, 0) hgb).trans (hcur i hil).2
                have hst := cdI_step (b := false) (n := M) (j := j) hil
                have hbi := hb i hil
                have hpre := cd_pre (b := false) (l := l) (n := M) (i := i + 1) hjP
                obtain ⟨⟨x1, x2⟩, hx⟩ : ∃ x, l.getD i (0, 0) = x := ⟨_, rfl⟩
                rw [hx] at c0 c1 hst hbi
                rw [hst] at hpre
                dsimp only at c0 c1 hbi
                have hm := mul_bd (a := (j : Int)) (b := M) (A := 1000) (B := 1000000000) (by omega) (by omega)
                have hm0 : 0 ≤ (j : Int) * M := Int.mul_nonneg (by omega) hM.1
                by_cases hp1 : x2 = 1
                · subst hp1
                  have hp1 := trivial
                  gi_wp2
                  go_roundw
                  case rel => exact ⟨i + 1, by go_num, by omega, by rw [hst]; simpa [cdF, cdX, hp1] using hJ _ _ _ _ hJi (gNew _ _) (fun r e => by cases e), hC.grown (gNew wr _)⟩
                  case measure => simp [intOf]; omega
                · have hxb : (x2 == 1) = false := by simp [hp1]
                  have hpre : (cdB false l M P ++ (cdJ false l M j ++ cdI false l M j i)) ++ [(x1, x2 + j * M)] <+: cd l P M := by simpa [cdF, cdX, hp1, List.append_assoc] using hpre
                  obtain ⟨fn, tm, asg, bdy, hy, hR⟩ := hY _ (x1, x2 + j * M) (wr.alloc (.cells #[.int .i64 x1, .int .i64 (x2 + j * M)] 75)) (hJ _ _ _ _ hJi (gNew _ _) (fun r e => by cases e)) (pre_lt hpre)
                  dsimp only at hy
                  gi_wp2
                  refine hR.mono ?_
                  rintro e W3 (⟨rfl, hJ3, hk3⟩ | ⟨rfl, hJx3⟩)
                  · have hC3 := (hC.grown (gNew wr _)).keep hk3 h1 h2 h3 h4
                    clear hC hy hR
                    gi_wp2
                    go_roundw
                    case rel => (repeat apply Exists.intro); exact ⟨⟨i + 1, by go_num, by omega, by rw [hst]; simpa [cdF, cdX, hp1, List.append_assoc] using hJ3, hC3⟩, rfl⟩
                    case measure => simp [intOf]; omega
                  · gi_wp2
                    refine bodyPost_ret (results_none rfl _ _ _) rfl ?_
                    exact ⟨⟨_, rfl⟩, .inr ⟨_, hpre, hJx3⟩⟩
              · obtain rfl : i = l.length := by omega
                gi_wp2
                go_roundw
                case rel => exact ⟨j + 1, by go_num, by omega, by rw [cdJ_step]; exact hJi, hC⟩
                case measure => simp [intOf]; omega
          · obtain rfl : j = P := by omega
            gi_wp2
            go_roundw
            case rel => first
              | exact ⟨1, by go_num, by omega, by simpa [cdB, pre3, cd_eq] using hJj, hC⟩
              | exact ⟨2, by go_num, by omega, by simpa [cdB, pre3, cd_eq] using hJj, hC⟩
            case measure => simp [intOf]
end Go.Proofs.YtegiddpakocodaaGreat
