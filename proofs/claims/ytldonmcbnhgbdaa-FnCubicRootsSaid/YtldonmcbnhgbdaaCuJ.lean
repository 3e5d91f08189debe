/- A fraction put into an increasing row of fractions: the reference. -/
import Derived.Test.YtldonmcbnhgbdaaCuC
import Derived.Laws.AppendOwnNone
import Derived.Deep.RegionHeld3
namespace Go.Proofs.Ytldonmcbnhgbdaa
open Go.RowKit
set_option linter.unusedVariables false
set_option maxHeartbeats 4000000
set_option maxRecDepth 20000
set_option linter.unusedSimpArgs false
theorem putF_split (l : List Fr2) (k : Nat) {x : Fr2} (h : ∀ j, j < k → ltF (l[j]?.getD (0, 1)) x) (hk : k ≤ l.length) : putF l x = l.take k ++ putF (l.drop k) x := by
  induction k generalizing l with
  | zero => simp
  | succ k ih =>
    match l, hk with
    | y :: l, hk =>
      have h0 : ltF y x := h 0 (by omega)
      simp only [List.take_succ_cons, List.drop_succ_cons, List.cons_append]
      rw [putF, if_pos h0, ih l (fun j hj => by simpa using h (j + 1) (by omega)) (by simpa using hk)]
theorem putF_at {l : List Fr2} {k : Nat} {x : Fr2} (h : ∀ j, j < k → ltF (l[j]?.getD (0, 1)) x) (hk : k < l.length) (hx : ¬ ltF (l[k]?.getD (0, 1)) x) : putF l x = if l[k]?.getD (0, 1) = x then l else l.take k ++ x :: l.drop k := by
  rw [putF_split l k h (by omega)]
  have e : l.drop k = (l[k]?.getD (0, 1)) :: l.drop (k + 1) := by rw [List.drop_eq_getElem_cons hk, List.getElem?_eq_getElem hk]; rfl
  have e2 : l.take k ++ l.drop k = l := List.take_append_drop k l
  rw [e] at e2 ⊢
  unfold putF
  rw [if_neg hx]
  split
  · exact e2
  · rfl
theorem putF_end {l : List Fr2} {x : Fr2} (h : ∀ j, j < l.length → ltF (l[j]?.getD (0, 1)) x) : putF l x = l.take l.length ++ x :: l.drop l.length := by
  rw [putF_split l l.length h (by omega), List.drop_length]; rfl
theorem flat_take : ∀ (l : List Fr2) (k : Nat), flat (l.take k) = (flat l).take (2 * k)
  | [], k => by simp [flat]
  | (a, b) :: l, 0 => by simp [flat]
  | (a, b) :: l, k + 1 => by simp only [List.take_succ_cons, flat, flat_take l k]; rw [show 2 * (k + 1) = 2 * k + 1 + 1 by omega, List.take_succ_cons, List.take_succ_cons]
theorem flat_drop : ∀ (l : List Fr2) (k : Nat), flat (l.drop k) = (flat l).drop (2 * k)
  | [], k => by simp [flat]
  | (a, b) :: l, 0 => by simp [flat]
  | (a, b) :: l, k + 1 => by simp only [List.drop_succ_cons, flat, flat_drop l k]; rw [show 2 * (k + 1) = 2 * k + 1 + 1 by omega, List.drop_succ_cons, List.drop_succ_cons]
/-- the cells of a value that is appended: it is a slice, or nil -/
def Srcs (W : World) (xv : Value) (m : Nat) (news : List Value) : Prop := (∃ ad c, xv = .slice (some ad) m c ∧ ∀ j u, news[j]? = some u → W.cell? (ad.add j) = some u) ∨ (xv = .slice none 0 0 ∧ m = 0 ∧ news = [])
theorem step_app {P : Program} {w : World} {ops : Array Oper} {o : Oper} {a : Act} {K : Act → World → Prop} {Q : Exit → Act → World → Prop} {E : Prop} (hgd : o.guard = none) (s x : Operand) (t : TypeId)
    (ho : o.op = .call { callee := .builtin .append, args := #[s, x], argTypes := #[t, t] })
    (base : Nat) (e : TypeId) (i : TypeInfo) (z : Value) (size bytes : Nat) (ht : P.underlying t = some (.slice e)) (hi : P.info? e = some i) (hz : i.zero = some z)
    (hsize : i.size = size) (hby : i.bytes = bytes) (hzs : z.cells.size = size) (hsz : 0 < size)
    (w0 : World) (hb0 : Below base w0 w) (n : Nat) (xs : List Value) (m : Nat) (news : List Value) (hown : w.ownsRow base e size (a.eval s) n xs) (hx : Srcs w (a.eval x) m news) (hl : news.length = m * size) (h1 : ∀ u ∈ news, u.oneCell' = true)
    (h63 : n + m ≤ maxLen) (hbytes : (n + m) * bytes ≤ 140737488355328) (hbase : base ≤ w.heap.size)
    (h : ∀ v' w', w'.ownsRow base e size v' (n + m) (xs ++ news) → w.grownBy w' (a.eval s).ownBlock → Below base w0 w' → (v'.ownBlock = (a.eval s).ownBlock ∨ v'.ownBlock = some w.heap.size) → K (a.put o.dst v') w') : if Region.wanted o (yielded ops a.tmps) = true then Oper.wp P o a w K Q else E := by
  have hw : Region.wanted o (yielded ops a.tmps) = true := by simp [Region.wanted, hgd]
  rw [if_pos hw]
  rcases hx with ⟨ad, c, hx, hnews⟩ | ⟨hx, rfl, rfl⟩
  · obtain ⟨v', w', hr, h2, h3, h4, h5⟩ := run_append_own_at (P := P) w base t o.type e i z size bytes ht hi hz hsize hby hzs hsz _ n xs hown ad m c news hl hnews h1 h63 hbytes hbase
    unfold Oper.wp execOp
    simp only [ho, resolve, invoke, builtin, Sem.run_bind, Sem.run_pure, Result.andThen_ok, List.map_toArray, List.map_cons, List.map_nil, hx, hr]
    exact h v' w' h2 h3 (hb0.grown h3 hbase (fun j e => (hown.lt _ e).1)) h5
  · have hrun := run_append_owned_none (P := P) (w := w) base t o.type e i size ht hi _ n xs hown
    unfold Oper.wp
    simp [execOp, ho, resolve, invoke, builtin, hx, hrun, Result.andThen]
    have := h (a.eval s) w (by simpa using hown) ⟨rfl, rfl, rfl, Nat.le_refl _, fun _ _ _ => rfl⟩ hb0 (.inl rfl)
    exact this
theorem own_empty {W : World} {B G : Nat} {T : TypeId} {size : Nat} (h : W.heap[G]? = some (.cells #[] T (0, 0))) (hB : B ≤ G) : W.ownsRow B T size (.slice (some ⟨G, 0, none⟩) 0 0) 0 [] :=
  ⟨by simp, .inr ⟨G, 0, #[], rfl, hB, h, Nat.le_refl _, by unfold maxLen; omega, by simp, by simp⟩⟩
theorem gx1 {W V : World} {T : TypeId} {X : Obj} (h : ((W.alloc (.cells #[] T)).alloc X).drew.grownBy V (Value.ownBlock (.slice (some ⟨W.heap.size, 0, none⟩) 0 0))) : V.heap[W.heap.size + 1]? = some X := by
  refine (h.block _ (by simp [World.drew]) (by simp [Value.ownBlock])).trans ?_
  have := heap_alloc_new (W.alloc (.cells #[] T)) X
  simpa [World.drew] using this
theorem gx2 {W V : World} {T : TypeId} {X : Obj} (h : ((W.alloc X).alloc (.cells #[] T)).drew.grownBy V (Value.ownBlock (.slice (some ⟨W.heap.size + 1, 0, none⟩) 0 0))) : V.heap[W.heap.size]? = some X := by
  refine (h.block _ (by simp [World.drew]; omega) (by simp [Value.ownBlock])).trans ?_
  have := bx_old (heap_alloc_new W X) (.cells #[] T)
  exact this
theorem src_two {W : World} {G : Nat} {T : TypeId} {x y : Value} (h : W.heap[G]? = some (.cells #[x, y] T (0, 0))) : Srcs W (.slice (some ⟨G, 0, none⟩) 1 1) 1 [x, y] := by
  refine .inl ⟨_, _, rfl, fun j u hj => ?_⟩
  match j, hj with
  | 0, hj => simp at hj; subst hj; simpa [Addr.add] using blk_cell h 0
  | 1, hj => simp at hj; subst hj; simpa [Addr.add] using blk_cell h 1
theorem RowQ.below {W V : World} {g : Nat} {l : List Fr2} (h : RowQ W g l) (hW : Below W.heap.size W V) : RowQ V g l := ⟨Nat.lt_of_lt_of_le h.1 hW.size, fun j hj => by
  obtain ⟨h1, h2, h3, h4⟩ := h.2 j hj
  have hbk := hW.block g h.1
  exact ⟨(World.cell?_of_block (a := ⟨g, j * 2, none⟩) hbk).trans h1, (World.cell?_of_block (a := ⟨g, j * 2 + 1, none⟩) hbk).trans h2, (World.frozen?_of_block (a := ⟨g, j * 2, none⟩) hbk).trans h3, (World.frozen?_of_block (a := ⟨g, j * 2 + 1, none⟩) hbk).trans h4⟩⟩
theorem SlR.via {W V : World} {B : Nat} {v : Value} {l : List Fr2} (h : SlR W B v l) (hW : Below W.heap.size W V) : SlR V B v l := h.imp id fun ⟨g, cap, h1, h2, h3, h4, h5⟩ => ⟨g, cap, h1, h2, h3, h4, h5.below hW⟩
theorem RowQ.via' {W V : World} {g : Nat} {l : List Fr2} (h : RowQ W g l) (hW : Below W.heap.size W V) : RowQ V g l := h.below hW
theorem row_cells {W : World} {g : Nat} {l : List Fr2} (h : RowQ W g l) (j : Nat) (hj : j < 2 * l.length) : W.cell? ⟨g, j, none⟩ = some (.int .i64 ((flat l)[j]?.getD 0)) := by
  obtain ⟨c1, c2, -, -⟩ := h.2 (j / 2) (by omega)
  obtain ⟨f1, f2⟩ := flat_at l (j / 2) (by omega)
  rcases Nat.mod_two_eq_zero_or_one j with q | q
  · have e : j / 2 * 2 = j := by omega
    rw [e] at c1 f1; rw [c1, f1]
  · have e : j / 2 * 2 + 1 = j := by omega
    rw [e] at c2 f2; rw [c2, f2]
theorem src_take {W : World} {g c k : Nat} {l : List Fr2} (h : RowQ W g l) (hk : k ≤ l.length) : Srcs W (.slice (some ⟨g, 0, none⟩) k c) k (ints (flat (l.take k))) := by
  refine .inl ⟨_, _, rfl, fun j u hj => ?_⟩
  have hl := flat_len l
  have hj2 : j < 2 * k := by
    rcases Nat.lt_or_ge j (2 * k) with q | q
    · exact q
    · rw [List.getElem?_eq_none (by rw [flat_take]; simp [ints]; omega)] at hj; cases hj
  have h1 := row_cells h j (by omega)
  rw [flat_take] at hj
  simp only [ints, List.getElem?_map, List.getElem?_take, hj2, if_true, List.getElem?_eq_getElem (show j < (flat l).length by omega), Option.map_some, Option.some.injEq] at hj
  rw [List.getElem?_eq_getElem (show j < (flat l).length by omega)] at h1
  simp only [Option.getD_some, hj] at h1
  unfold Addr.add
  split
  · rename_i e; subst e; simpa using h1
  · simpa using h1
theorem src_drop {W : World} {g c k m : Nat} {l : List Fr2} (h : RowQ W g l) (hm : m = l.length - k) : Srcs W (.slice (some ⟨g, k * 2, none⟩) m c) m (ints (flat (l.drop k))) := by
  subst hm
  refine .inl ⟨_, _, rfl, fun j u hj => ?_⟩
  have hl := flat_len l
  have hj2 : 2 * k + j < 2 * l.length := by
    rcases Nat.lt_or_ge (2 * k + j) (2 * l.length) with q | q
    · exact q
    · rw [List.getElem?_eq_none (by rw [flat_drop]; simp [ints]; omega)] at hj; cases hj
  have h1 := row_cells h (2 * k + j) (by omega)
  rw [flat_drop] at hj
  simp only [ints, List.getElem?_map, List.getElem?_drop, List.getElem?_eq_getElem (show 2 * k + j < (flat l).length by omega), Option.map_some, Option.some.injEq] at hj
  rw [List.getElem?_eq_getElem (show 2 * k + j < (flat l).length by omega)] at h1
  simp only [Option.getD_some, hj] at h1
  unfold Addr.add
  split
  · rename_i e; subst e; simpa [Nat.mul_comm] using h1
  · simpa [Nat.mul_comm] using h1
theorem src_drop_end {W : World} {ad : Addr} {c k : Nat} {l : List Fr2} (hk : k = l.length) : Srcs W (.slice (some ad) (l.length - k) c) (l.length - k) (ints (flat (l.drop k))) := by
  subst hk
  rw [List.drop_length, Nat.sub_self]
  exact .inl ⟨_, _, rfl, fun j u hj => by simp [flat, ints] at hj⟩
theorem src_drop_endZ {W : World} {ad : Addr} {c k : Nat} {l : List Fr2} (hk : k = l.length) : Srcs W (.slice (some ad) 0 c) (l.length - k) (ints (flat (l.drop k))) := by
  have := src_drop_end (W := W) (ad := ad) (c := c) hk
  rwa [show l.length - k = 0 by omega] at this ⊢
theorem src_none {W : World} {ad : Addr} {c : Nat} : Srcs W (.slice (some ad) 0 c) 0 [] := .inl ⟨_, _, rfl, fun j u hj => by simp at hj⟩
theorem src_nil {W : World} : Srcs W (.slice none 0 0) 0 [] := .inr ⟨rfl, rfl, rfl⟩
theorem ints_one' : ∀ {zs : List Int}, ∀ u ∈ ints zs, u.oneCell' = true := fun u hu => by
  simp only [ints, List.mem_map] at hu
  obtain ⟨z, -, rfl⟩ := hu; rfl
/-- a fraction whose parts are small -/
def FrS (x : Fr2) : Prop := -1000000 ≤ x.1 ∧ x.1 ≤ 1000000 ∧ -1000000 ≤ x.2 ∧ x.2 ≤ 1000000
theorem frLess_s (n1 d1 n2 d2 : Int) (w : World) (h1 : -1000000 ≤ n1 ∧ n1 ≤ 1000000 ∧ -1000000 ≤ d1 ∧ d1 ≤ 1000000) (h2 : -1000000 ≤ n2 ∧ n2 ≤ 1000000 ∧ -1000000 ≤ d2 ∧ d2 ≤ 1000000) :
    Calls Try.prog 65 #[.agg #[.int .i64 n1, .int .i64 d1], .agg #[.int .i64 n2, .int .i64 d2]] w fun e w' => e = .returned (.bool (decide (n1 * d2 < n2 * d1))) ∧ Below w.heap.size w w' := by
  have m1 := mul_bd (a := n1) (b := d2) (A := 1000000) (B := 1000000) (by omega) (by omega)
  have m2 := mul_bd (a := n2) (b := d1) (A := 1000000) (B := 1000000) (by omega) (by omega)
  go_enter Try.func65, Try.ntmps65
  go_wp2
  refine bodyPost_ret (v := _) (by simp [results, Try.results65, go_sem, *]) rfl ⟨rfl, ?_⟩
  repeat' first | (with_reducible first | apply zRf | assumption | apply zDn | apply zDr | apply zAl | apply zSt | refine zVi (by assumption) ?_ ?_) | go_size
def PuQ (w : World) (l : List Fr2) (x : Fr2) (kv : Value) (wr : World) : Prop := ∃ k : Nat, kv = .int .i64 k ∧ k ≤ l.length ∧ (∀ j, j < k → ltF (l[j]?.getD (0, 1)) x) ∧ wr.heap[w.heap.size]? = some (.cells #[.int .i64 x.1, .int .i64 x.2] 37 (0, 0)) ∧ Below w.heap.size w wr
theorem ltF_dec (n1 d1 : Int) (x : Fr2) : decide (n1 * x.2 < x.1 * d1) = decide (ltF (n1, d1) x) := rfl
theorem SlR.low {W : World} {B B' : Nat} {v : Value} {l : List Fr2} (h : SlR W B v l) (hB : B' ≤ B) : SlR W B' v l := h.imp id fun ⟨g, cap, h1, h2, h3, h4, h5⟩ => ⟨g, cap, h1, h2, h3, Nat.le_trans hB h4, h5⟩
theorem pu_end {W : World} {B k : Nat} {v : Value} {l : List Fr2} {n d : Int} (hk : k ≤ l.length) (h : W.ownsRow B 37 2 v (0 + k + 1 + (l.length - k)) ([] ++ ints (flat (l.take k)) ++ [.int .i64 n, .int .i64 d] ++ ints (flat (l.drop k)))) : SlR W B v (l.take k ++ (n, d) :: l.drop k) := by
  refine OwnR.sl ?_
  unfold OwnR
  have e1 : 0 + k + 1 + (l.length - k) = (l.take k ++ (n, d) :: l.drop k).length := by simp; omega
  have e2 : [] ++ ints (flat (l.take k)) ++ [Value.int .i64 n, .int .i64 d] ++ ints (flat (l.drop k)) = ints (flat (l.take k ++ (n, d) :: l.drop k)) := by rw [flat_append]; simp [ints, flat]
  rw [← e1, ← e2]; exact h
theorem cuPut_some (g c : Nat) (B : Nat) (l : List Fr2) (n d : Int) (w : World) (hr : RowQ w g l) (hlc : l.length ≤ c) (hcm : c ≤ maxLen) (hBg : B ≤ g) (hB : B ≤ w.heap.size) (hs : ∀ y ∈ l, FrS y) (hx : FrS (n, d)) (hl : l.length ≤ 4000000) :
    Calls Try.prog 54 #[.slice (some ⟨g, 0, none⟩) l.length c, .agg #[.int .i64 n, .int .i64 d]] w fun e w' => ∃ v', e = .returned v' ∧ SlR w' B v' (putF l (n, d)) ∧ Below w.heap.size w w' := by
  obtain ⟨i0, hi, iz0, iz1, iz2⟩ := info_parts infoFr
  have HCM := Lib.hid hcm
  unfold maxLen at hcm
  have HR := Lib.hid hr
  have HS := Lib.hid hs
  clear hr hs
  have tok1 : True := trivial
  have tok2 : True := trivial
  have tok3 : True := trivial
  have tok4 : True := trivial
  have tok5 : True := trivial
  have tok6 : True := trivial
  have tok7 : True := trivial
  have tok8 : True := trivial
  have tok9 : True := trivial
  go_enter Try.func54, Try.ntmps54
  go_upto_region 1 with fail
  refine chk (fun W => Below w.heap.size w W ∧ W.heap[w.heap.size]? = some (.cells #[.int .i64 n, .int .i64 d] 37 (0, 0))) (by refine ⟨?_, ?_⟩ <;> (repeat' first | (with_reducible first | assumption | (apply Ne.symm; assumption) | apply Nat.le_refl | apply Nat.le_add_right | apply zL | apply zRf | apply Wx.box | apply Wx.box4 | apply zWa | apply Wx.drew | apply zWn | apply bx_drew | apply bx_drewN | apply bx_set3 | apply bx_set2 | apply bx_set4 | apply bx_set1) | ((with_reducible apply bx_new); (focus (go_size; done))) | (with_reducible first | apply zOl | apply zFa | apply zDn | apply zDr | apply zAl | apply zSt | refine zVi (by assumption) ?_ ?_) | go_size | omega)) ?_
  rintro w1 ⟨hB1, H_X_1⟩
  obtain ⟨k_X_1_0, k_X_1_1, f_X_1, l_X_1⟩ := bk2 H_X_1
  replace H_X_1 := Lib.hid H_X_1
  go_wp2_with fail
  go_loopw [5] (fun kv wr => PuQ w l (n, d) kv wr) (fun kv _ => (l.length - intOf kv).toNat)
  case atStart => exact ⟨0, rfl, by omega, (by intro i hi; omega), H_X_1.out, hB1⟩
  case round =>
    obtain ⟨k, rfl, hk, hlow, hX, hb⟩ := hrel
    have hsz := hb.size
    have x0 : wr.cell? ⟨w.heap.size, 0, none⟩ = some (.int .i64 n) := blk_cell hX 0
    have x1 : wr.cell? ⟨w.heap.size, 1, none⟩ = some (.int .i64 d) := blk_cell hX 1
    have xl := blk_lt' hX
    have HX := Lib.hid hX
    have HRr := Lib.hid (HR.out.below hb)
    clear hX
    by_cases hlt : k < l.length
    · have hltc : (k : Int) < (l.length : Int) := by omega
      have hkI : (0 : Int) ≤ (k : Int) := by omega
      have hkI2 : (k : Int) ≤ (l.length : Int) := by omega
      have hkI4 : (k : Int) ≤ (c : Int) := by omega
      have hck2 : ¬ c = k := by omega
      have hgl := HRr.out.1
      obtain ⟨c0, c1, -, -⟩ := HRr.out.2 k hlt
      have hm := HS.out _ (hx_at hlt)
      have HPA := Lib.hid (fun q => putF_at (x := (n, d)) hlow hlt q)
      obtain ⟨⟨n2, e2⟩, hy⟩ : ∃ y, l[k]?.getD (0, 1) = y := ⟨_, rfl⟩
      rw [hy] at c0 c1 hm HPA
      simp only at c0 c1
      have TL := fun W : World => Lib.hid (frLess_s n2 e2 n d W hm hx)
      have hdl : decide (n2 * d < n * e2) = decide (ltF (n2, e2) (n, d)) := rfl
      rw [hdl] at TL
      have HC := Lib.hid (fun (W : World) (hW : Below wr.heap.size wr W) => (⟨(hW.cell (p := ⟨w.heap.size, 0, none⟩) xl).trans x0, (hW.cell (p := ⟨w.heap.size, 1, none⟩) xl).trans x1, (hW.cell (p := ⟨g, k * 2, none⟩) hgl).trans c0, (hW.cell (p := ⟨g, k * 2 + 1, none⟩) hgl).trans c1⟩ : W.cell? ⟨w.heap.size, 0, none⟩ = some (.int .i64 n) ∧ W.cell? ⟨w.heap.size, 1, none⟩ = some (.int .i64 d) ∧ W.cell? ⟨g, k * 2, none⟩ = some (.int .i64 n2) ∧ W.cell? ⟨g, k * 2 + 1, none⟩ = some (.int .i64 e2)))
      clear hdl
      by_cases hlf : ltF (n2, e2) (n, d)
      · rw [decide_eq_true hlf] at TL
        have HLOW := Lib.hid (show ∀ j, j < k + 1 → ltF (l[j]?.getD (0, 1)) (n, d) from fun j hj => by
          by_cases e : j = k
          · subst e; rw [hy]; exact hlf
          · exact hlow j (by omega))
        clear hlow hy hlf HPA
        go_wp2_with fail
        go_region_held3 (fun W => W.cell? ⟨w.heap.size, 0, none⟩ = some (.int .i64 n) ∧ W.cell? ⟨w.heap.size, 1, none⟩ = some (.int .i64 d) ∧ W.cell? ⟨g, k * 2, none⟩ = some (.int .i64 n2) ∧ W.cell? ⟨g, k * 2 + 1, none⟩ = some (.int .i64 e2)) (exact HC.out _ (by repeat' first | (with_reducible first | apply zRf | assumption | apply zDn | apply zDr | apply zAl | apply zSt | refine zVi (by assumption) ?_ ?_) | go_size)) (first | (have _t := tok4; go_at_call 65; (with_reducible refine ((TL _).out).mono ?_); rintro e w4 ⟨rfl, hb4⟩; clear tok4 _t; have hz4 := hb4.size; (try simp only [World.size_alloc, World.size_setCell, World.size_drew, World.size_drewN'] at hz4); (try (have kq := cellAt hb4 (w.heap.size) (by go_size); have k4_w_0_0 := kq 0; have k4_w_0_1 := kq 1; clear kq; have f4_w_0 := frozAt hb4 (w.heap.size) (by go_size); simp [go_sem, *] at k4_w_0_0 k4_w_0_1 f4_w_0)); (try have l4_w_0 : w.heap.size < w4.heap.size := by omega); (try clear k1_w_0_0 k1_w_0_1 f1_w_0); (try clear l1_w_0); (try clear k2_w_0_0 k2_w_0_1 f2_w_0); (try clear l2_w_0); (try clear k3_w_0_0 k3_w_0_1 f3_w_0); (try clear l3_w_0)))
        go_wp2_with fail
        go_roundw
        case rel => exact ⟨k + 1, by go_num, by omega, HLOW.out, keepR (by repeat' first | (with_reducible first | apply zRf | assumption | apply zDn | apply zDr | apply zAl | apply zSt | refine zVi (by assumption) ?_ ?_) | go_size) HX.out, (by repeat' first | (with_reducible first | apply zRf | assumption | apply zDn | apply zDr | apply zAl | apply zSt | refine zVi (by assumption) ?_ ?_) | go_size)⟩
        case measure => simp [intOf]; omega
      · rw [decide_eq_false hlf] at TL
        have HPA2 := HPA.out hlf
        have HPA3 := Lib.hid HPA2
        clear hlow hlf HPA HPA2
        go_wp2_with fail
        go_region_held3 (fun W => W.cell? ⟨w.heap.size, 0, none⟩ = some (.int .i64 n) ∧ W.cell? ⟨w.heap.size, 1, none⟩ = some (.int .i64 d) ∧ W.cell? ⟨g, k * 2, none⟩ = some (.int .i64 n2) ∧ W.cell? ⟨g, k * 2 + 1, none⟩ = some (.int .i64 e2)) (exact HC.out _ (by repeat' first | (with_reducible first | apply zRf | assumption | apply zDn | apply zDr | apply zAl | apply zSt | refine zVi (by assumption) ?_ ?_) | go_size)) (first | (have _t := tok4; go_at_call 65; (with_reducible refine ((TL _).out).mono ?_); rintro e w4 ⟨rfl, hb4⟩; clear tok4 _t; have hz4 := hb4.size; (try simp only [World.size_alloc, World.size_setCell, World.size_drew, World.size_drewN'] at hz4); (try (have kq := cellAt hb4 (w.heap.size) (by go_size); have k4_w_0_0 := kq 0; have k4_w_0_1 := kq 1; clear kq; have f4_w_0 := frozAt hb4 (w.heap.size) (by go_size); simp [go_sem, *] at k4_w_0_0 k4_w_0_1 f4_w_0)); (try have l4_w_0 : w.heap.size < w4.heap.size := by omega); (try clear k1_w_0_0 k1_w_0_1 f1_w_0); (try clear l1_w_0); (try clear k2_w_0_0 k2_w_0_1 f2_w_0); (try clear l2_w_0); (try clear k3_w_0_0 k3_w_0_1 f3_w_0); (try clear l3_w_0)))
        go_upto_region 4 with fail
        have hbr : Below wr.heap.size wr w4 := by repeat' first | (with_reducible first | apply zRf | assumption | apply zDn | apply zDr | apply zAl | apply zSt | refine zVi (by assumption) ?_ ?_) | go_size
        have hbr' : Below w.heap.size w w4 := below_via hbr hb hsz
        have HX4 := keepR hbr HX.out
        obtain ⟨x40, x41, c40, c41⟩ := HC.out w4 hbr
        have hgl4 : g < w4.heap.size := Nat.lt_of_lt_of_le hgl hbr.size
        clear x0 x1 c0 c1 HC TL hm
        by_cases hn : n2 = n
        · subst hn
          by_cases he : e2 = d
          · subst he
            have hr : putF l (n2, e2) = l := by have := HPA3.out; rwa [if_pos rfl] at this
            have HPU := Lib.hid hr
            clear hr HPA3
            go_quiet (fail)
            go_wp2_with fail
            go_ret
            refine ⟨_, rfl, ?_, ?_⟩
            · rw [HPU.out]
              refine .inr ⟨g, c, rfl, hlc, HCM.out, hBg, HR.out.below ?_⟩
              repeat' first | (with_reducible first | apply zRf | assumption | apply zDn | apply zDr | apply zAl | apply zSt | refine zVi (by assumption) ?_ ?_) | go_size
            · repeat' first | (with_reducible first | apply zRf | assumption | apply zDn | apply zDr | apply zAl | apply zSt | refine zVi (by assumption) ?_ ?_) | go_size
          · have hr : putF l (n2, d) = l.take k ++ (n2, d) :: l.drop k := by have := HPA3.out; rwa [if_neg (fun q => he (by injection q))] at this
            have HPU := Lib.hid hr
            have hee : (e2 == d) = false := by simpa using he
            have HE := Lib.hid he
            clear hr HPA3 he
            go_quiet (fail)
            go_upto_region 6 with fail
            replace H_X_1 := H_X_1.out
            refine chk (fun W => Below w.heap.size w W ∧ W.heap[w.heap.size]? = some (.cells #[.int .i64 n2, .int .i64 d] 37 (0, 0)) ∧ Below wr.heap.size wr W) (by refine ⟨?_, ?_, ?_⟩ <;> (repeat' first | (with_reducible first | assumption | (apply Ne.symm; assumption) | apply Nat.le_refl | apply Nat.le_add_right | apply zL | apply zRf | apply Wx.box | apply Wx.box4 | apply zWa | apply Wx.drew | apply zWn | apply bx_drew | apply bx_drewN | apply bx_set3 | apply bx_set2 | apply bx_set4 | apply bx_set1) | ((with_reducible apply bx_new); (focus (go_size; done))) | (with_reducible first | apply zOl | apply zFa | apply zDn | apply zDr | apply zAl | apply zSt | refine zVi (by assumption) ?_ ?_) | go_size | omega)) ?_
            clear k_X_1_0 k_X_1_1 f_X_1 H_X_1
            clear hB1
            rintro w5 ⟨hB5, H_X_5, hbr5⟩
            obtain ⟨k_X_5_0, k_X_5_1, f_X_5, l_X_5⟩ := bk2 H_X_5
            replace H_X_5 := Lib.hid H_X_5
            have hs5 := hbr5.size
            have xl5 : w.heap.size < w5.heap.size := by omega
            have HS6 := Lib.hid (fun (W : World) (hW : Below w5.heap.size w5 W) => (⟨hW, (hW.cell (p := ⟨w.heap.size, 0, none⟩) xl5).trans k_X_5_0, (hW.cell (p := ⟨w.heap.size, 1, none⟩) xl5).trans k_X_5_1⟩ : Below w5.heap.size w5 W ∧ W.cell? ⟨w.heap.size, 0, none⟩ = some (.int .i64 n2) ∧ W.cell? ⟨w.heap.size, 1, none⟩ = some (.int .i64 d)))
            have HSI := Lib.hid (fun (W : World) (hW : Below w5.heap.size w5 W ∧ W.cell? ⟨w.heap.size, 0, none⟩ = some (.int .i64 n2) ∧ W.cell? ⟨w.heap.size, 1, none⟩ = some (.int .i64 d)) => hW.1)
            have HT := Lib.hid (fun (W : World) (hW : Below w5.heap.size w5 W) => src_take (c := c) (HRr.out.via' (hbr5.trans (hW.mono hs5))) hk)
            have HD := Lib.hid (fun (W : World) (hW : Below w5.heap.size w5 W) => src_drop (c := c - k) (k := k) (m := l.length - k) (l := l) (HRr.out.via' (hbr5.trans (hW.mono hs5))) rfl)
            go_region_held3 (fun W => Below w5.heap.size w5 W ∧ W.cell? ⟨w.heap.size, 0, none⟩ = some (.int .i64 n2) ∧ W.cell? ⟨w.heap.size, 1, none⟩ = some (.int .i64 d)) (first | exact HS6.out _ (by assumption) | exact HS6.out _ ((HSI.out _ (by assumption)).alloc (by first | exact Nat.le_refl _ | (simp only [World.size_alloc]; omega) | exact (HSI.out _ (by assumption)).size) _) | exact HS6.out _ (by repeat' first | (with_reducible first | apply zRf | assumption | apply zDn | apply zDr | apply zAl | apply zSt | refine zVi (by assumption) ?_ ?_) | go_size)) (first | ((refine step_app rfl _ _ 26 rfl w5.heap.size 37 i0 (.agg #[.int .i64 0, .int .i64 0]) 2 16 Try.underlying26 hi iz0 iz1 iz2 rfl (by decide) w5 (HSI.out _ (by assumption)) 0 [] k (ints (flat (l.take k))) ?_ ?_ ?_ ints_one' ?_ ?_ ?_ ?_; (focus ((refine own_empty ?_ ?_; (focus (first | exact bx_drew (heap_alloc_new _ _) | exact bx_drew (bx_old (heap_alloc_new _ _) _) | (refine bx_drew (bx_new ?_); simp; done))); go_size))); (focus (exact HT.out _ (HSI.out _ (by assumption)))); (focus ((simp [ints, flat_len]; omega))); (focus ((unfold maxLen; omega))); (focus (omega)); (focus (exact (HSI.out _ (by assumption)).size)); intro v1 w1 hv1 hg1 hB1 hat1; have hz1 := hB1.size; (first | have hx1 := gx1 hg1 | have hx1 := gx2 hg1 | skip))) | ((refine step_app rfl _ _ 26 rfl w5.heap.size 37 i0 (.agg #[.int .i64 0, .int .i64 0]) 2 16 Try.underlying26 hi iz0 iz1 iz2 rfl (by decide) w5 (HSI.out _ (by assumption)) (0 + k) ([] ++ ints (flat (l.take k))) 1 [.int .i64 n2, .int .i64 d] ?_ ?_ rfl (by simp [Value.oneCell']) ?_ ?_ ?_ ?_; (focus (first | exact hv1 | exact hv1.alloc _)); (focus (first | exact src_two hx1 | exact src_two (bx_drew (heap_alloc_new _ _)) | exact src_two (heap_alloc_new _ _))); (focus ((unfold maxLen; omega))); (focus (omega)); (focus (exact (HSI.out _ (by assumption)).size)); intro v2 w2 hv2 hg2 hB2 hat2; have hz2 := hB2.size)) | ((refine step_app rfl _ _ 26 rfl w5.heap.size 37 i0 (.agg #[.int .i64 0, .int .i64 0]) 2 16 Try.underlying26 hi iz0 iz1 iz2 rfl (by decide) w5 (HSI.out _ (by assumption)) (0 + k + 1) _ (l.length - k) (ints (flat (l.drop k))) hv2 ?_ ?_ ints_one' ?_ ?_ ?_ ?_; (focus (exact HD.out _ (HSI.out _ (by assumption)))); (focus ((simp [ints, flat_len]; omega))); (focus ((unfold maxLen; omega))); (focus (omega)); (focus (exact (HSI.out _ (by assumption)).size)); intro v3 w3 hv3 hg3 hB3 hat3; have hz3 := hB3.size)))
            all_goals
              go_wp2_with fail
              go_ret
              exact ⟨_, rfl, by rw [HPU.out]; exact (pu_end hk hv3).low (by omega), below_via hB3 hB5 (by omega)⟩
        · have hr : putF l (n, d) = l.take k ++ (n, d) :: l.drop k := by have := HPA3.out; rwa [if_neg (fun q => hn (by injection q))] at this
          have HPU := Lib.hid hr
          have hnn : (n2 == n) = false := by simpa using hn
          have HN := Lib.hid hn
          clear hr HPA3 hn
          go_quiet (fail)
          go_upto_region 6 with fail
          replace H_X_1 := H_X_1.out
          refine chk (fun W => Below w.heap.size w W ∧ W.heap[w.heap.size]? = some (.cells #[.int .i64 n, .int .i64 d] 37 (0, 0)) ∧ Below wr.heap.size wr W) (by refine ⟨?_, ?_, ?_⟩ <;> (repeat' first | (with_reducible first | assumption | (apply Ne.symm; assumption) | apply Nat.le_refl | apply Nat.le_add_right | apply zL | apply zRf | apply Wx.box | apply Wx.box4 | apply zWa | apply Wx.drew | apply zWn | apply bx_drew | apply bx_drewN | apply bx_set3 | apply bx_set2 | apply bx_set4 | apply bx_set1) | ((with_reducible apply bx_new); (focus (go_size; done))) | (with_reducible first | apply zOl | apply zFa | apply zDn | apply zDr | apply zAl | apply zSt | refine zVi (by assumption) ?_ ?_) | go_size | omega)) ?_
          clear k_X_1_0 k_X_1_1 f_X_1 H_X_1
          clear hB1
          rintro w5 ⟨hB5, H_X_5, hbr5⟩
          obtain ⟨k_X_5_0, k_X_5_1, f_X_5, l_X_5⟩ := bk2 H_X_5
          replace H_X_5 := Lib.hid H_X_5
          have hs5 := hbr5.size
          have xl5 : w.heap.size < w5.heap.size := by omega
          have HS6 := Lib.hid (fun (W : World) (hW : Below w5.heap.size w5 W) => (⟨hW, (hW.cell (p := ⟨w.heap.size, 0, none⟩) xl5).trans k_X_5_0, (hW.cell (p := ⟨w.heap.size, 1, none⟩) xl5).trans k_X_5_1⟩ : Below w5.heap.size w5 W ∧ W.cell? ⟨w.heap.size, 0, none⟩ = some (.int .i64 n) ∧ W.cell? ⟨w.heap.size, 1, none⟩ = some (.int .i64 d)))
          have HSI := Lib.hid (fun (W : World) (hW : Below w5.heap.size w5 W ∧ W.cell? ⟨w.heap.size, 0, none⟩ = some (.int .i64 n) ∧ W.cell? ⟨w.heap.size, 1, none⟩ = some (.int .i64 d)) => hW.1)
          have HT := Lib.hid (fun (W : World) (hW : Below w5.heap.size w5 W) => src_take (c := c) (HRr.out.via' (hbr5.trans (hW.mono hs5))) hk)
          have HD := Lib.hid (fun (W : World) (hW : Below w5.heap.size w5 W) => src_drop (c := c - k) (k := k) (m := l.length - k) (l := l) (HRr.out.via' (hbr5.trans (hW.mono hs5))) rfl)
          go_region_held3 (fun W => Below w5.heap.size w5 W ∧ W.cell? ⟨w.heap.size, 0, none⟩ = some (.int .i64 n) ∧ W.cell? ⟨w.heap.size, 1, none⟩ = some (.int .i64 d)) (first | exact HS6.out _ (by assumption) | exact HS6.out _ ((HSI.out _ (by assumption)).alloc (by first | exact Nat.le_refl _ | (simp only [World.size_alloc]; omega) | exact (HSI.out _ (by assumption)).size) _) | exact HS6.out _ (by repeat' first | (with_reducible first | apply zRf | assumption | apply zDn | apply zDr | apply zAl | apply zSt | refine zVi (by assumption) ?_ ?_) | go_size)) (first | ((refine step_app rfl _ _ 26 rfl w5.heap.size 37 i0 (.agg #[.int .i64 0, .int .i64 0]) 2 16 Try.underlying26 hi iz0 iz1 iz2 rfl (by decide) w5 (HSI.out _ (by assumption)) 0 [] k (ints (flat (l.take k))) ?_ ?_ ?_ ints_one' ?_ ?_ ?_ ?_; (focus ((refine own_empty ?_ ?_; (focus (first | exact bx_drew (heap_alloc_new _ _) | exact bx_drew (bx_old (heap_alloc_new _ _) _) | (refine bx_drew (bx_new ?_); simp; done))); go_size))); (focus (exact HT.out _ (HSI.out _ (by assumption)))); (focus ((simp [ints, flat_len]; omega))); (focus ((unfold maxLen; omega))); (focus (omega)); (focus (exact (HSI.out _ (by assumption)).size)); intro v1 w1 hv1 hg1 hB1 hat1; have hz1 := hB1.size; (first | have hx1 := gx1 hg1 | have hx1 := gx2 hg1 | skip))) | ((refine step_app rfl _ _ 26 rfl w5.heap.size 37 i0 (.agg #[.int .i64 0, .int .i64 0]) 2 16 Try.underlying26 hi iz0 iz1 iz2 rfl (by decide) w5 (HSI.out _ (by assumption)) (0 + k) ([] ++ ints (flat (l.take k))) 1 [.int .i64 n, .int .i64 d] ?_ ?_ rfl (by simp [Value.oneCell']) ?_ ?_ ?_ ?_; (focus (first | exact hv1 | exact hv1.alloc _)); (focus (first | exact src_two hx1 | exact src_two (bx_drew (heap_alloc_new _ _)) | exact src_two (heap_alloc_new _ _))); (focus ((unfold maxLen; omega))); (focus (omega)); (focus (exact (HSI.out _ (by assumption)).size)); intro v2 w2 hv2 hg2 hB2 hat2; have hz2 := hB2.size)) | ((refine step_app rfl _ _ 26 rfl w5.heap.size 37 i0 (.agg #[.int .i64 0, .int .i64 0]) 2 16 Try.underlying26 hi iz0 iz1 iz2 rfl (by decide) w5 (HSI.out _ (by assumption)) (0 + k + 1) _ (l.length - k) (ints (flat (l.drop k))) hv2 ?_ ?_ ints_one' ?_ ?_ ?_ ?_; (focus (exact HD.out _ (HSI.out _ (by assumption)))); (focus ((simp [ints, flat_len]; omega))); (focus ((unfold maxLen; omega))); (focus (omega)); (focus (exact (HSI.out _ (by assumption)).size)); intro v3 w3 hv3 hg3 hB3 hat3; have hz3 := hB3.size)))
          all_goals
            go_wp2_with fail
            go_ret
            exact ⟨_, rfl, by rw [HPU.out]; exact (pu_end hk hv3).low (by omega), below_via hB3 hB5 (by omega)⟩
    · have hke : k = l.length := by omega
      have hltc : ¬ ((k : Int) < (l.length : Int)) := by omega
      have hr : putF l (n, d) = l.take k ++ (n, d) :: l.drop k := by rw [hke]; exact putF_end (by rw [← hke]; exact hlow)
      have HPU := Lib.hid hr
      have HKE := Lib.hid hke
      have hdf : decide ((k : Int) < (l.length : Int)) = false := by simp; omega
      have hX := HX.out
      clear hr hlow hke
      go_wp2_with fail
      go_quiet (fail)
      go_wp2_with fail
      go_quiet (fail)
      by_cases hck : k = c
      · subst hck
        have hkI : (0 : Int) ≤ (k : Int) := by omega
        have hkI2 : (k : Int) ≤ (l.length : Int) := by have := HKE.out; omega
        have hkI3 : (l.length : Int) ≤ (k : Int) := by omega
        go_upto_region 6 with fail
        replace H_X_1 := H_X_1.out
        refine chk (fun W => Below w.heap.size w W ∧ W.heap[w.heap.size]? = some (.cells #[.int .i64 n, .int .i64 d] 37 (0, 0)) ∧ Below wr.heap.size wr W) (by refine ⟨?_, ?_, ?_⟩ <;> (repeat' first | (with_reducible first | assumption | (apply Ne.symm; assumption) | apply Nat.le_refl | apply Nat.le_add_right | apply zL | apply zRf | apply Wx.box | apply Wx.box4 | apply zWa | apply Wx.drew | apply zWn | apply bx_drew | apply bx_drewN | apply bx_set3 | apply bx_set2 | apply bx_set4 | apply bx_set1) | ((with_reducible apply bx_new); (focus (go_size; done))) | (with_reducible first | apply zOl | apply zFa | apply zDn | apply zDr | apply zAl | apply zSt | refine zVi (by assumption) ?_ ?_) | go_size | omega)) ?_
        clear k_X_1_0 k_X_1_1 f_X_1 H_X_1
        clear hB1
        rintro w5 ⟨hB5, H_X_5, hbr5⟩
        obtain ⟨k_X_5_0, k_X_5_1, f_X_5, l_X_5⟩ := bk2 H_X_5
        replace H_X_5 := Lib.hid H_X_5
        have hs5 := hbr5.size
        have xl5 : w.heap.size < w5.heap.size := by omega
        have HS6 := Lib.hid (fun (W : World) (hW : Below w5.heap.size w5 W) => (⟨hW, (hW.cell (p := ⟨w.heap.size, 0, none⟩) xl5).trans k_X_5_0, (hW.cell (p := ⟨w.heap.size, 1, none⟩) xl5).trans k_X_5_1⟩ : Below w5.heap.size w5 W ∧ W.cell? ⟨w.heap.size, 0, none⟩ = some (.int .i64 n) ∧ W.cell? ⟨w.heap.size, 1, none⟩ = some (.int .i64 d)))
        have HSI := Lib.hid (fun (W : World) (hW : Below w5.heap.size w5 W ∧ W.cell? ⟨w.heap.size, 0, none⟩ = some (.int .i64 n) ∧ W.cell? ⟨w.heap.size, 1, none⟩ = some (.int .i64 d)) => hW.1)
        have HT := Lib.hid (fun (W : World) (hW : Below w5.heap.size w5 W) => src_take (c := k) (HRr.out.via' (hbr5.trans (hW.mono hs5))) hk)
        have HD := Lib.hid (fun (W : World) (ad : Addr) (c' : Nat) (hW : Below w5.heap.size w5 W) => (src_drop_end HKE.out : Srcs W (.slice (some ad) (l.length - k) c') (l.length - k) (ints (flat (l.drop k)))))
        have HDZ := Lib.hid (fun (W : World) (ad : Addr) (c' : Nat) (hW : Below w5.heap.size w5 W) => (src_drop_endZ HKE.out : Srcs W (.slice (some ad) 0 c') (l.length - k) (ints (flat (l.drop k)))))
        go_region_held3 (fun W => Below w5.heap.size w5 W ∧ W.cell? ⟨w.heap.size, 0, none⟩ = some (.int .i64 n) ∧ W.cell? ⟨w.heap.size, 1, none⟩ = some (.int .i64 d)) (first | exact HS6.out _ (by assumption) | exact HS6.out _ ((HSI.out _ (by assumption)).alloc (by first | exact Nat.le_refl _ | (simp only [World.size_alloc]; omega) | exact (HSI.out _ (by assumption)).size) _) | exact HS6.out _ (by repeat' first | (with_reducible first | apply zRf | assumption | apply zDn | apply zDr | apply zAl | apply zSt | refine zVi (by assumption) ?_ ?_) | go_size)) (first | ((refine step_app rfl _ _ 26 rfl w5.heap.size 37 i0 (.agg #[.int .i64 0, .int .i64 0]) 2 16 Try.underlying26 hi iz0 iz1 iz2 rfl (by decide) w5 (HSI.out _ (by assumption)) 0 [] k (ints (flat (l.take k))) ?_ ?_ ?_ ints_one' ?_ ?_ ?_ ?_; (focus ((refine own_empty ?_ ?_; (focus (first | exact bx_drew (heap_alloc_new _ _) | exact bx_drew (bx_old (heap_alloc_new _ _) _) | (refine bx_drew (bx_new ?_); simp; done))); go_size))); (focus (exact HT.out _ (HSI.out _ (by assumption)))); (focus ((simp [ints, flat_len]; omega))); (focus ((unfold maxLen; omega))); (focus (omega)); (focus (exact (HSI.out _ (by assumption)).size)); intro v1 w1 hv1 hg1 hB1 hat1; have hz1 := hB1.size; (first | have hx1 := gx1 hg1 | have hx1 := gx2 hg1 | skip))) | ((refine step_app rfl _ _ 26 rfl w5.heap.size 37 i0 (.agg #[.int .i64 0, .int .i64 0]) 2 16 Try.underlying26 hi iz0 iz1 iz2 rfl (by decide) w5 (HSI.out _ (by assumption)) (0 + k) ([] ++ ints (flat (l.take k))) 1 [.int .i64 n, .int .i64 d] ?_ ?_ rfl (by simp [Value.oneCell']) ?_ ?_ ?_ ?_; (focus (first | exact hv1 | exact hv1.alloc _)); (focus (first | exact src_two hx1 | exact src_two (bx_drew (heap_alloc_new _ _)) | exact src_two (heap_alloc_new _ _))); (focus ((unfold maxLen; omega))); (focus (omega)); (focus (exact (HSI.out _ (by assumption)).size)); intro v2 w2 hv2 hg2 hB2 hat2; have hz2 := hB2.size)) | ((refine step_app rfl _ _ 26 rfl w5.heap.size 37 i0 (.agg #[.int .i64 0, .int .i64 0]) 2 16 Try.underlying26 hi iz0 iz1 iz2 rfl (by decide) w5 (HSI.out _ (by assumption)) (0 + k + 1) _ (l.length - k) (ints (flat (l.drop k))) hv2 ?_ ?_ ints_one' ?_ ?_ ?_ ?_; (focus (first | exact HD.out _ _ _ (HSI.out _ (by assumption)) | exact HDZ.out _ _ _ (HSI.out _ (by assumption)))); (focus ((simp [ints, flat_len]; omega))); (focus ((unfold maxLen; omega))); (focus (omega)); (focus (exact (HSI.out _ (by assumption)).size)); intro v3 w3 hv3 hg3 hB3 hat3; have hz3 := hB3.size)))
        all_goals
          go_wp2_with fail
          go_ret
          exact ⟨_, rfl, by rw [HPU.out]; exact (pu_end hk hv3).low (by omega), below_via hB3 hB5 (by omega)⟩
      · have hck2 : ¬ c = k := fun e => hck e.symm
        have hck3 : k < c := by omega
        have hkI : (0 : Int) ≤ (k : Int) := by omega
        have hkI2 : (k : Int) ≤ (l.length : Int) := by omega
        have hkI4 : (k : Int) ≤ (c : Int) := by omega
        go_upto_region 6 with fail
        replace H_X_1 := H_X_1.out
        refine chk (fun W => Below w.heap.size w W ∧ W.heap[w.heap.size]? = some (.cells #[.int .i64 n, .int .i64 d] 37 (0, 0)) ∧ Below wr.heap.size wr W) (by refine ⟨?_, ?_, ?_⟩ <;> (repeat' first | (with_reducible first | assumption | (apply Ne.symm; assumption) | apply Nat.le_refl | apply Nat.le_add_right | apply zL | apply zRf | apply Wx.box | apply Wx.box4 | apply zWa | apply Wx.drew | apply zWn | apply bx_drew | apply bx_drewN | apply bx_set3 | apply bx_set2 | apply bx_set4 | apply bx_set1) | ((with_reducible apply bx_new); (focus (go_size; done))) | (with_reducible first | apply zOl | apply zFa | apply zDn | apply zDr | apply zAl | apply zSt | refine zVi (by assumption) ?_ ?_) | go_size | omega)) ?_
        clear k_X_1_0 k_X_1_1 f_X_1 H_X_1
        clear hB1
        rintro w5 ⟨hB5, H_X_5, hbr5⟩
        obtain ⟨k_X_5_0, k_X_5_1, f_X_5, l_X_5⟩ := bk2 H_X_5
        replace H_X_5 := Lib.hid H_X_5
        have hs5 := hbr5.size
        have xl5 : w.heap.size < w5.heap.size := by omega
        have HS6 := Lib.hid (fun (W : World) (hW : Below w5.heap.size w5 W) => (⟨hW, (hW.cell (p := ⟨w.heap.size, 0, none⟩) xl5).trans k_X_5_0, (hW.cell (p := ⟨w.heap.size, 1, none⟩) xl5).trans k_X_5_1⟩ : Below w5.heap.size w5 W ∧ W.cell? ⟨w.heap.size, 0, none⟩ = some (.int .i64 n) ∧ W.cell? ⟨w.heap.size, 1, none⟩ = some (.int .i64 d)))
        have HSI := Lib.hid (fun (W : World) (hW : Below w5.heap.size w5 W ∧ W.cell? ⟨w.heap.size, 0, none⟩ = some (.int .i64 n) ∧ W.cell? ⟨w.heap.size, 1, none⟩ = some (.int .i64 d)) => hW.1)
        have HT := Lib.hid (fun (W : World) (hW : Below w5.heap.size w5 W) => src_take (c := c) (HRr.out.via' (hbr5.trans (hW.mono hs5))) hk)
        have HD := Lib.hid (fun (W : World) (ad : Addr) (c' : Nat) (hW : Below w5.heap.size w5 W) => (src_drop_end HKE.out : Srcs W (.slice (some ad) (l.length - k) c') (l.length - k) (ints (flat (l.drop k)))))
        have HDZ := Lib.hid (fun (W : World) (ad : Addr) (c' : Nat) (hW : Below w5.heap.size w5 W) => (src_drop_endZ HKE.out : Srcs W (.slice (some ad) 0 c') (l.length - k) (ints (flat (l.drop k)))))
        go_region_held3 (fun W => Below w5.heap.size w5 W ∧ W.cell? ⟨w.heap.size, 0, none⟩ = some (.int .i64 n) ∧ W.cell? ⟨w.heap.size, 1, none⟩ = some (.int .i64 d)) (first | exact HS6.out _ (by assumption) | exact HS6.out _ ((HSI.out _ (by assumption)).alloc (by first | exact Nat.le_refl _ | (simp only [World.size_alloc]; omega) | exact (HSI.out _ (by assumption)).size) _) | exact HS6.out _ (by repeat' first | (with_reducible first | apply zRf | assumption | apply zDn | apply zDr | apply zAl | apply zSt | refine zVi (by assumption) ?_ ?_) | go_size)) (first | ((refine step_app rfl _ _ 26 rfl w5.heap.size 37 i0 (.agg #[.int .i64 0, .int .i64 0]) 2 16 Try.underlying26 hi iz0 iz1 iz2 rfl (by decide) w5 (HSI.out _ (by assumption)) 0 [] k (ints (flat (l.take k))) ?_ ?_ ?_ ints_one' ?_ ?_ ?_ ?_; (focus ((refine own_empty ?_ ?_; (focus (first | exact bx_drew (heap_alloc_new _ _) | exact bx_drew (bx_old (heap_alloc_new _ _) _) | (refine bx_drew (bx_new ?_); simp; done))); go_size))); (focus (exact HT.out _ (HSI.out _ (by assumption)))); (focus ((simp [ints, flat_len]; omega))); (focus ((unfold maxLen; omega))); (focus (omega)); (focus (exact (HSI.out _ (by assumption)).size)); intro v1 w1 hv1 hg1 hB1 hat1; have hz1 := hB1.size; (first | have hx1 := gx1 hg1 | have hx1 := gx2 hg1 | skip))) | ((refine step_app rfl _ _ 26 rfl w5.heap.size 37 i0 (.agg #[.int .i64 0, .int .i64 0]) 2 16 Try.underlying26 hi iz0 iz1 iz2 rfl (by decide) w5 (HSI.out _ (by assumption)) (0 + k) ([] ++ ints (flat (l.take k))) 1 [.int .i64 n, .int .i64 d] ?_ ?_ rfl (by simp [Value.oneCell']) ?_ ?_ ?_ ?_; (focus (first | exact hv1 | exact hv1.alloc _)); (focus (first | exact src_two hx1 | exact src_two (bx_drew (heap_alloc_new _ _)) | exact src_two (heap_alloc_new _ _))); (focus ((unfold maxLen; omega))); (focus (omega)); (focus (exact (HSI.out _ (by assumption)).size)); intro v2 w2 hv2 hg2 hB2 hat2; have hz2 := hB2.size)) | ((refine step_app rfl _ _ 26 rfl w5.heap.size 37 i0 (.agg #[.int .i64 0, .int .i64 0]) 2 16 Try.underlying26 hi iz0 iz1 iz2 rfl (by decide) w5 (HSI.out _ (by assumption)) (0 + k + 1) _ (l.length - k) (ints (flat (l.drop k))) hv2 ?_ ?_ ints_one' ?_ ?_ ?_ ?_; (focus (first | exact HD.out _ _ _ (HSI.out _ (by assumption)) | exact HDZ.out _ _ _ (HSI.out _ (by assumption)))); (focus ((simp [ints, flat_len]; omega))); (focus ((unfold maxLen; omega))); (focus (omega)); (focus (exact (HSI.out _ (by assumption)).size)); intro v3 w3 hv3 hg3 hB3 hat3; have hz3 := hB3.size)))
        all_goals
          go_wp2_with fail
          go_ret
          exact ⟨_, rfl, by rw [HPU.out]; exact (pu_end hk hv3).low (by omega), below_via hB3 hB5 (by omega)⟩
theorem pu_end0 {W : World} {B : Nat} {v : Value} {n d : Int} (h : W.ownsRow B 37 2 v (0 + 0 + 1 + 0) ([] ++ [] ++ [.int .i64 n, .int .i64 d] ++ [])) : SlR W B v [(n, d)] := by
  refine OwnR.sl ?_
  unfold OwnR
  exact h
theorem cuPut_none (B : Nat) (n d : Int) (w : World) (hB : B ≤ w.heap.size) :
    Calls Try.prog 54 #[.slice none 0 0, .agg #[.int .i64 n, .int .i64 d]] w fun e w' => ∃ v', e = .returned v' ∧ SlR w' B v' (putF [] (n, d)) ∧ Below w.heap.size w w' := by
  obtain ⟨i0, hi, iz0, iz1, iz2⟩ := info_parts infoFr
  have tok1 : True := trivial
  have tok2 : True := trivial
  have tok3 : True := trivial
  have tok4 : True := trivial
  have tok5 : True := trivial
  have tok6 : True := trivial
  have tok7 : True := trivial
  have tok8 : True := trivial
  have tok9 : True := trivial
  go_enter Try.func54, Try.ntmps54
  go_upto_region 1 with fail
  refine chk (fun W => Below w.heap.size w W ∧ W.heap[w.heap.size]? = some (.cells #[.int .i64 n, .int .i64 d] 37 (0, 0))) (by refine ⟨?_, ?_⟩ <;> (repeat' first | (with_reducible first | assumption | (apply Ne.symm; assumption) | apply Nat.le_refl | apply Nat.le_add_right | apply zL | apply zRf | apply Wx.box | apply Wx.box4 | apply zWa | apply Wx.drew | apply zWn | apply bx_drew | apply bx_drewN | apply bx_set3 | apply bx_set2 | apply bx_set4 | apply bx_set1) | ((with_reducible apply bx_new); (focus (go_size; done))) | (with_reducible first | apply zOl | apply zFa | apply zDn | apply zDr | apply zAl | apply zSt | refine zVi (by assumption) ?_ ?_) | go_size | omega)) ?_
  rintro w1 ⟨hB1, H_X_1⟩
  obtain ⟨k_X_1_0, k_X_1_1, f_X_1, l_X_1⟩ := bk2 H_X_1
  replace H_X_1 := Lib.hid H_X_1
  go_wp2_with fail
  go_loopw [5] (fun kv wr => kv = .int .i64 0 ∧ wr.heap[w.heap.size]? = some (.cells #[.int .i64 n, .int .i64 d] 37 (0, 0)) ∧ Below w.heap.size w wr) (fun kv _ => 0)
  case atStart => exact ⟨rfl, H_X_1.out, hB1⟩
  case round =>
    obtain ⟨rfl, hX, hb⟩ := hrel
    have hsz := hb.size
    go_wp2_with fail
    go_quiet (fail)
    go_wp2_with fail
    go_quiet (fail)
    go_upto_region 6 with fail
    replace H_X_1 := H_X_1.out
    refine chk (fun W => Below w.heap.size w W ∧ W.heap[w.heap.size]? = some (.cells #[.int .i64 n, .int .i64 d] 37 (0, 0)) ∧ Below wr.heap.size wr W) (by refine ⟨?_, ?_, ?_⟩ <;> (repeat' first | (with_reducible first | assumption | (apply Ne.symm; assumption) | apply Nat.le_refl | apply Nat.le_add_right | apply zL | apply zRf | apply Wx.box | apply Wx.box4 | apply zWa | apply Wx.drew | apply zWn | apply bx_drew | apply bx_drewN | apply bx_set3 | apply bx_set2 | apply bx_set4 | apply bx_set1) | ((with_reducible apply bx_new); (focus (go_size; done))) | (with_reducible first | apply zOl | apply zFa | apply zDn | apply zDr | apply zAl | apply zSt | refine zVi (by assumption) ?_ ?_) | go_size | omega)) ?_
    clear k_X_1_0 k_X_1_1 f_X_1 H_X_1
    clear hB1
    rintro w5 ⟨hB5, H_X_5, hbr5⟩
    obtain ⟨k_X_5_0, k_X_5_1, f_X_5, l_X_5⟩ := bk2 H_X_5
    replace H_X_5 := Lib.hid H_X_5
    have hs5 := hbr5.size
    have xl5 : w.heap.size < w5.heap.size := by omega
    have HS6 := Lib.hid (fun (W : World) (hW : Below w5.heap.size w5 W) => (⟨hW, (hW.cell (p := ⟨w.heap.size, 0, none⟩) xl5).trans k_X_5_0, (hW.cell (p := ⟨w.heap.size, 1, none⟩) xl5).trans k_X_5_1⟩ : Below w5.heap.size w5 W ∧ W.cell? ⟨w.heap.size, 0, none⟩ = some (.int .i64 n) ∧ W.cell? ⟨w.heap.size, 1, none⟩ = some (.int .i64 d)))
    have HSI := Lib.hid (fun (W : World) (hW : Below w5.heap.size w5 W ∧ W.cell? ⟨w.heap.size, 0, none⟩ = some (.int .i64 n) ∧ W.cell? ⟨w.heap.size, 1, none⟩ = some (.int .i64 d)) => hW.1)
    go_region_held3 (fun W => Below w5.heap.size w5 W ∧ W.cell? ⟨w.heap.size, 0, none⟩ = some (.int .i64 n) ∧ W.cell? ⟨w.heap.size, 1, none⟩ = some (.int .i64 d)) (first | exact HS6.out _ (by assumption) | exact HS6.out _ ((HSI.out _ (by assumption)).alloc (by first | exact Nat.le_refl _ | (simp only [World.size_alloc]; omega) | exact (HSI.out _ (by assumption)).size) _) | exact HS6.out _ (by repeat' first | (with_reducible first | apply zRf | assumption | apply zDn | apply zDr | apply zAl | apply zSt | refine zVi (by assumption) ?_ ?_) | go_size)) (first | ((refine step_app rfl _ _ 26 rfl w5.heap.size 37 i0 (.agg #[.int .i64 0, .int .i64 0]) 2 16 Try.underlying26 hi iz0 iz1 iz2 rfl (by decide) w5 (HSI.out _ (by assumption)) 0 [] 0 [] ?_ ?_ ?_ (by simp) ?_ ?_ ?_ ?_; (focus ((refine own_empty ?_ ?_; (focus (first | exact bx_drew (heap_alloc_new _ _) | exact bx_drew (bx_old (heap_alloc_new _ _) _) | (refine bx_drew (bx_new ?_); simp; done))); go_size))); (focus (exact src_nil)); (focus (rfl)); (focus ((unfold maxLen; omega))); (focus (omega)); (focus (exact (HSI.out _ (by assumption)).size)); intro v1 w1 hv1 hg1 hB1 hat1; have hz1 := hB1.size; (first | have hx1 := gx1 hg1 | have hx1 := gx2 hg1 | skip))) | ((refine step_app rfl _ _ 26 rfl w5.heap.size 37 i0 (.agg #[.int .i64 0, .int .i64 0]) 2 16 Try.underlying26 hi iz0 iz1 iz2 rfl (by decide) w5 (HSI.out _ (by assumption)) (0 + 0) ([] ++ []) 1 [.int .i64 n, .int .i64 d] ?_ ?_ rfl (by simp [Value.oneCell']) ?_ ?_ ?_ ?_; (focus (first | exact hv1 | exact hv1.alloc _)); (focus (first | exact src_two hx1 | exact src_two (bx_drew (heap_alloc_new _ _)) | exact src_two (heap_alloc_new _ _))); (focus ((unfold maxLen; omega))); (focus (omega)); (focus (exact (HSI.out _ (by assumption)).size)); intro v2 w2 hv2 hg2 hB2 hat2; have hz2 := hB2.size)) | ((refine step_app rfl _ _ 26 rfl w5.heap.size 37 i0 (.agg #[.int .i64 0, .int .i64 0]) 2 16 Try.underlying26 hi iz0 iz1 iz2 rfl (by decide) w5 (HSI.out _ (by assumption)) (0 + 0 + 1) _ 0 [] hv2 ?_ ?_ (by simp) ?_ ?_ ?_ ?_; (focus (exact src_nil)); (focus (rfl)); (focus ((unfold maxLen; omega))); (focus (omega)); (focus (exact (HSI.out _ (by assumption)).size)); intro v3 w3 hv3 hg3 hB3 hat3; have hz3 := hB3.size)))
    all_goals
      go_wp2_with fail
      go_ret
      exact ⟨_, rfl, (pu_end0 hv3).low (by omega), below_via hB3 hB5 (by omega)⟩
theorem cuPut_any (v : Value) (B : Nat) (l : List Fr2) (n d : Int) (w : World) (h : SlR w B v l) (hB : B ≤ w.heap.size) (hs : ∀ y ∈ l, FrS y) (hx : FrS (n, d)) (hl : l.length ≤ 4000000) :
    Calls Try.prog 54 #[v, .agg #[.int .i64 n, .int .i64 d]] w fun e w' => ∃ v', e = .returned v' ∧ SlR w' B v' (putF l (n, d)) ∧ Below w.heap.size w w' := by
  rcases h with ⟨rfl, rfl⟩ | ⟨g, c, rfl, h1, h2, h3, h4⟩
  · exact cuPut_none B n d w hB
  · exact cuPut_some g c B l n d w h4 h1 h2 h3 hB hs hx hl
end Go.Proofs.Ytldonmcbnhgbdaa
