/- Parts: A region that draws its order, walked once in the text's order: its head reads, computes and makes quiet calls that may lay new memory; then at most one new block; then a tail in sequence. Own theorem over the model's words for any order, A region that draws its order and lays several new blocks among quiet calls, walked once in the text's order. Own theorem over the model's words for any order, A region that draws its order: its head reads, computes, lays blocks and makes calls whose values may lie in new memory; walked once in the text's order. Own theorem over the model's words for any order. -/
import Derived.Test.YtijpfnkhaldfeaaBase
import Derived.StillTail
import Derived.Deep.MidRow
namespace Go.Proofs.Ytijpfnkhaldfeaa
section
open Go.RowKit
set_option linter.unusedVariables false
set_option linter.unusedSimpArgs false

section
variable {P : Program} {ops : Array Oper} {md : Region.Mode}

def firstOn (size m : Nat) : Array Bool := ((List.range size).map fun i => decide (i < m)).toArray
def headB (md : Region.Mode) (ops : Array Oper) (m i : Nat) : Bool :=
  match ops[i]? with
  | none => false
  | some oi => (oi.after.all fun e => !Region.binds md e || decide (e.on < i)) &&
      (List.range m).all fun j => match ops[j]? with
        | none => false
        | some oj => match oj.dst with
          | none => true
          | some t => (!(oi.looksAt ops).contains t || Region.waitsFor md ops i j) && (decide (j = i) || oi.dst != some t)
def drawnB (md : Region.Mode) (ops : Array Oper) (m : Nat) : Bool :=
  Region.noSelect ops && decide (m < ops.size) && Region.sinkB md ops m && Region.chainB md ops m && Region.seqB md ops (ops.size - m) m (firstOn ops.size m) && (List.range m).all (headB md ops m)
def dstB (ops : Array Oper) (m size : Nat) : Bool := (List.range m).all fun i => match ops[i]? with
  | none => true
  | some o => match o.dst with
    | none => true
    | some d => decide (d < size)

theorem headB_spec {m i : Nat} (h : headB md ops m i = true) : ∃ oi, ops[i]? = some oi ∧ (∀ e ∈ oi.after, Region.binds md e = true → e.on < i) ∧
    ∀ j, j < m → ∃ oj, ops[j]? = some oj ∧ ∀ t, oj.dst = some t → (t ∈ oi.looksAt ops → Region.waitsFor md ops i j = true) ∧ (j ≠ i → oi.dst ≠ some t) := by
  unfold headB at h
  split at h
  · cases h
  · rename_i oi hoi
    simp only [Bool.and_eq_true, List.all_eq_true, List.mem_range, Array.all_eq_true_iff_forall_mem] at h
    refine ⟨oi, hoi, fun e he hb => ?_, fun j hj => ?_⟩
    · have := h.1 e he
      simpa [hb] using this
    · have h2 := h.2 j hj
      split at h2
      · cases h2
      · rename_i oj hoj
        refine ⟨oj, hoj, fun t ht => ?_⟩
        rw [ht] at h2
        simp only [Bool.and_eq_true, Bool.or_eq_true, Bool.not_eq_true', decide_eq_true_eq] at h2
        refine ⟨fun hm => ?_, fun hne => ?_⟩
        · rcases h2.1 with h3 | h3
          · simp at h3; exact absurd hm h3
          · exact h3
        · rcases h2.2 with h3 | h3
          · exact absurd h3 hne
          · simpa using h3

/-- a world that lies over W -/
structure Over (W : World) where
  w : World
  lies : Below W.heap.size W w

/-- Two frames alike on what an operation looks at: it does the same. -/
theorem same_exec {o : Oper} {a b : Act} (hs : ∀ cs c, o.op ≠ .select cs c) (h : ∀ t ∈ o.looksAt ops, a.tmps[t]? = b.tmps[t]?) :
    execOp a.eval o = execOp b.eval o ∧ Region.wanted o (yielded ops a.tmps) = Region.wanted o (yielded ops b.tmps) := by
  refine ⟨execOp_congr o hs fun x hx => ?_, ?_⟩
  · cases x with
    | tmp t =>
      have ht : t ∈ o.looksAt ops := List.mem_append_left _ (List.mem_filterMap.2 ⟨.tmp t, by simpa using hx, rfl⟩)
      have := h t ht
      simp only [Act.eval, Array.getD_eq_getD_getElem?, this]
    | _ => rfl
  · unfold Region.wanted
    cases hg : o.guard with
    | none => rfl
    | some gw =>
      obtain ⟨g, want⟩ := gw
      have hy : yielded ops a.tmps g = yielded ops b.tmps g := by
        unfold yielded
        cases ht : (ops[g]?).bind (·.dst) with
        | none => rfl
        | some t =>
          have := h t (by simp [Oper.looksAt, hg, ht])
          simp only [Option.bind_some, this]
      simp only [hy]

/-- What an operation of the head does, told of the head's last frame. -/
def HeadDoes (P : Program) (ops : Array Oper) (B : Nat) (w : World) (F : Act) (o : Oper) : Prop :=
  (Region.wanted o (yielded ops F.tmps) = true → ∀ W, Below B w W → ∃ v, o.quietAt P F (fun W2 => Below W.heap.size W W2) W v ∧ ∀ d, o.dst = some d → F.tmps[d]? = some v) ∧
  (Region.wanted o (yielded ops F.tmps) = false → ∀ d, o.dst = some d → F.tmps[d]? = some undef)

theorem put_at (a : Act) (x : Option Tmp) (v : Value) (t : Nat) : (a.put x v).tmps[t]? = if x = some t ∧ t < a.tmps.size then some v else a.tmps[t]? := by
  cases x with
  | none => simp [Act.put]
  | some d =>
    simp only [Act.put, Array.getElem?_setIfInBounds, Option.some.injEq]
    by_cases hd : d = t
    · subst hd
      by_cases hlt : d < a.tmps.size
      · simp [hlt]
      · simp [hlt, Array.getElem?_eq_none (Nat.le_of_not_lt hlt)]
    · simp [hd]
theorem put_size (a : Act) (x : Option Tmp) (v : Value) : (a.put x v).tmps.size = a.tmps.size := by cases x <;> simp [Act.put]
theorem put_defs (a : Act) (x : Option Tmp) (v : Value) : (a.put x v).defers = a.defers := by cases x <;> rfl

/-- the head's walk ends in the frame F: every temporary that the rest of the head does not write is as F has it -/
theorem quiet_last {C : World → Prop} {F : Act} : ∀ (l : List Oper) (a : Act), wpQuiet P ops C (fun b => b = F) l a →
    F.tmps.size = a.tmps.size ∧ F.defers = a.defers ∧ ∀ t, (∀ o ∈ l, o.dst ≠ some t) → F.tmps[t]? = a.tmps[t]?
  | [], a, h => by
    obtain rfl : a = F := h
    exact ⟨rfl, rfl, fun _ _ => rfl⟩
  | o :: l, a, h => by
    unfold wpQuiet at h
    have key : ∃ v, wpQuiet P ops C (fun b => b = F) l (a.put o.dst v) := by
      split at h
      · obtain ⟨v, _, h2⟩ := h; exact ⟨v, h2⟩
      · exact ⟨_, h⟩
    obtain ⟨v, h2⟩ := key
    obtain ⟨h3, h4, h5⟩ := quiet_last l _ h2
    refine ⟨by rw [h3, put_size], by rw [h4, put_defs], fun t ht => ?_⟩
    rw [h5 t (fun o' ho' => ht o' (List.mem_cons_of_mem _ ho')), put_at, if_neg (fun hh => ht o (List.mem_cons_self ..) hh.1)]

theorem quiet_does {B n m : Nat} {w : World} {F : Act} {W : World} (hW : Below B w W) (hsel : ∀ (j : Nat) (o : Oper) cs b, ops[j]? = some o → o.op ≠ .select cs b) (hh : ∀ i, i < n → headB md ops m i = true) (hnm : n ≤ m) :
    ∀ (l : List Oper) (k : Nat) (a : Act), (∀ j, j < l.length → l[j]? = ops[k + j]?) → k + l.length = n → (∀ i, i < n → ∀ o d, ops[i]? = some o → o.dst = some d → d < a.tmps.size) →
    wpQuiet P ops (fun W2 => Below W.heap.size W W2) (fun b => b = F) l a → ∀ i o, k ≤ i → i < n → ops[i]? = some o →
      (Region.wanted o (yielded ops F.tmps) = true → ∃ v, o.quietAt P F (fun W2 => Below W.heap.size W W2) W v ∧ ∀ d, o.dst = some d → F.tmps[d]? = some v) ∧
      (Region.wanted o (yielded ops F.tmps) = false → ∀ d, o.dst = some d → F.tmps[d]? = some undef)
  | [], k, a, _, hk, _, _, i, o, hi, hin, _ => by simp at hk; omega
  | o :: l, k, a, hl, hk, hsz, h, i, oi, hi, hin, hoi => by
    have h0 : ops[k]? = some o := by simpa using (hl 0 (by simp)).symm
    have hkn : k < n := by simp at hk; omega
    have hlast := quiet_last (o :: l) a h
    unfold wpQuiet at h
    have rest : ∀ (v : Value), wpQuiet P ops (fun W2 => Below W.heap.size W W2) (fun b => b = F) l (a.put o.dst v) → k + 1 ≤ i →
        (Region.wanted oi (yielded ops F.tmps) = true → ∃ v, oi.quietAt P F (fun W2 => Below W.heap.size W W2) W v ∧ ∀ d, oi.dst = some d → F.tmps[d]? = some v) ∧
        (Region.wanted oi (yielded ops F.tmps) = false → ∀ d, oi.dst = some d → F.tmps[d]? = some undef) := fun v hv hki =>
      quiet_does hW hsel hh hnm l (k + 1) (a.put o.dst v) (fun j hj => by have := hl (j + 1) (by simp; omega); simpa [Nat.add_assoc, Nat.add_comm 1 j] using this) (by simp at hk; omega)
        (fun i' hi' o' d ho' hd => by rw [put_size]; exact hsz i' hi' o' d ho' hd) hv i oi hki hin hoi
    by_cases hik : i = k
    · subst hik
      obtain rfl : o = oi := Option.some.inj (h0.symm.trans hoi)
      obtain ⟨oi', hoi', _, hj⟩ := headB_spec (hh i hin)
      obtain rfl : o = oi' := Option.some.inj (h0.symm.trans hoi')
      have hlook : ∀ t ∈ o.looksAt ops, a.tmps[t]? = F.tmps[t]? := fun t ht => by
        refine (hlast.2.2 t fun o' ho' hd => ?_).symm
        obtain ⟨j, hjl, hje⟩ := List.getElem_of_mem ho'
        have hjo : ops[i + j]? = some o' := by rw [← hl j hjl, ← hje]; exact List.getElem?_eq_getElem hjl
        obtain ⟨oj, hoj, h3⟩ := hj (i + j) (by simp at hk hjl; omega)
        obtain rfl : o' = oj := Option.some.inj (hjo.symm.trans hoj)
        obtain ⟨ow, how, e, he, hb, hon⟩ := Region.waitsFor_spec ((h3 t hd).1 ht)
        obtain ⟨oe, hoe, hlow, _⟩ := headB_spec (hh i hin)
        rw [how] at hoe
        obtain rfl := Option.some.inj hoe
        have := hlow e he hb
        omega
      obtain ⟨s1, s2⟩ := same_exec (hsel i o · · h0) hlook
      have hdst : ∀ v, wpQuiet P ops (fun W2 => Below W.heap.size W W2) (fun b => b = F) l (a.put o.dst v) → ∀ d, o.dst = some d → F.tmps[d]? = some v := fun v hv d hd => by
        obtain ⟨_, _, h5⟩ := quiet_last l _ hv
        rw [h5 d fun o' ho' hd' => ?_, put_at, if_pos ⟨hd, hsz i hin o d h0 hd⟩]
        obtain ⟨j, hjl, hje⟩ := List.getElem_of_mem ho'
        have hjo : ops[i + (j + 1)]? = some o' := by rw [← hl (j + 1) (by simp; omega), ← hje]; simp [List.getElem?_eq_getElem hjl]
        obtain ⟨oj, hoj, h3⟩ := hj (i + (j + 1)) (by simp at hk; omega)
        obtain rfl : o' = oj := Option.some.inj (hjo.symm.trans hoj)
        exact (h3 d hd').2 (by omega) hd
      rw [← s2]
      constructor
      · intro hw
        rw [if_pos hw] at h
        obtain ⟨v, h1, h2⟩ := h
        refine ⟨v, ?_, hdst v h2⟩
        have h3 := h1 W (Below.refl _ _)
        unfold Oper.quietAt at h3 ⊢
        rwa [← s1]
      · intro hw
        rw [if_neg (by rw [hw]; exact Bool.false_ne_true)] at h
        exact hdst _ h
    · split at h
      · obtain ⟨v, _, h2⟩ := h
        exact rest v h2 (by omega)
      · exact rest _ h (by omega)

theorem wp_of_at {o : Oper} {a : Act} {W : World} {v : Value} {K : Act → World → Prop} {Q : Exit → Act → World → Prop} (h : o.quietAt P a (fun W2 => Below W.heap.size W W2) W v)
    (hK : ∀ W2, Below W.heap.size W W2 → K (a.put o.dst v) W2) : o.wp P a W K Q := by
  unfold Oper.quietAt at h
  unfold Oper.wp
  generalize (execOp a.eval o).run P W = r at *
  cases r with
  | ok x w' =>
    cases x <;> simp only [Oper.quietUpon] at h <;> simp only [Oper.upon]
    case value u =>
      obtain ⟨e1, e2⟩ := h
      subst e1 e2
      exact hK _ (Below.refl _ _)
    case skip =>
      obtain ⟨e1, e2⟩ := h
      subst e1 e2
      exact hK _ (Below.refl _ _)
    case enter f args =>
      obtain ⟨e1, hc⟩ := h
      subst e1
      exact hc.mono fun e w'' ⟨he, hb⟩ => by subst he; exact hK _ hb
  | halt x w' => simp only [Oper.quietUpon] at h

def cntOff (L : Array Bool) : Nat → Nat
  | 0 => 0
  | m + 1 => cntOff L m + if L.getD m false = true then 0 else 1
theorem cnt_zero {L : Array Bool} : ∀ {m : Nat}, cntOff L m = 0 → ∀ i, i < m → L.getD i false = true
  | 0, _, i, hi => absurd hi (Nat.not_lt_zero _)
  | m + 1, h, i, hi => by
    simp only [cntOff] at h
    by_cases hm : L.getD m false = true
    · by_cases him : i = m
      · subst him; exact hm
      · exact cnt_zero (L := L) (m := m) (by omega) i (by omega)
    · rw [if_neg hm] at h; omega
theorem cnt_off {L : Array Bool} : ∀ {m : Nat}, cntOff L m ≠ 0 → ∃ i, i < m ∧ L.getD i false = false
  | 0, h => absurd rfl h
  | m + 1, h => by
    simp only [cntOff] at h
    by_cases hm : L.getD m false = true
    · rw [if_pos hm] at h
      obtain ⟨i, hi, hl⟩ := cnt_off (L := L) (m := m) (by omega)
      exact ⟨i, by omega, hl⟩
    · exact ⟨m, by omega, by simpa using hm⟩
theorem cnt_far {L : Array Bool} {i : Nat} : ∀ {m : Nat}, m ≤ i → cntOff (L.setIfInBounds i true) m = cntOff L m
  | 0, _ => rfl
  | m + 1, h => by
    simp only [cntOff]
    rw [cnt_far (m := m) (by omega), getD_set_ne false (by omega : i ≠ m)]
theorem cnt_set {L : Array Bool} {i : Nat} (hu : L.getD i true = false) : ∀ {m : Nat}, i < m → cntOff (L.setIfInBounds i true) m + 1 = cntOff L m
  | 0, h => absurd h (Nat.not_lt_zero _)
  | m + 1, h => by
    simp only [cntOff]
    by_cases him : i = m
    · subst him
      have hlt : i < L.size := by
        rcases Nat.lt_or_ge i L.size with h' | h'
        · exact h'
        · simp [Array.getElem?_eq_none h'] at hu
      have h1 : (L.setIfInBounds i true).getD i false = true := by simp [hlt]
      have h2 : L.getD i false = false := getD_both hu
      rw [cnt_far (Nat.le_refl _), h1, h2]
      simp
    · have := cnt_set hu (m := m) (by omega)
      rw [getD_set_ne false (by omega : i ≠ m)]
      omega
theorem cnt_all (size : Nat) : ∀ m, cntOff (Array.replicate size false) m = m
  | 0 => rfl
  | m + 1 => by
    simp only [cntOff]
    rw [cnt_all size m, getD_replicate_false, if_neg (by simp)]

theorem blk_lt' {W : World} {g : Nat} {o : Obj} (h : W.heap[g]? = some o) : g < W.heap.size := by
  rcases Nat.lt_or_ge g W.heap.size with hlt | hge
  · exact hlt
  · rw [Array.getElem?_eq_none hge] at h; cases h

/-- where a walk in any order stands -/
structure Stands (md : Region.Mode) (ops : Array Oper) (n m : Nat) (w : World) (a0 F : Act) (d : Tmp) (blk : Obj) (L : Array Bool) (a : Act) (W : World) : Prop where
  inv : HeadInv md ops m L
  defs : a.defers = a0.defers
  size : a.tmps.size = a0.tmps.size
  on : ∀ i o t, i < n → L.getD i false = true → ops[i]? = some o → o.dst = some t → a.tmps[t]? = F.tmps[t]?
  off : ∀ t, (∀ i o, i < m → L.getD i false = true → ops[i]? = some o → o.dst ≠ some t) → a.tmps[t]? = a0.tmps[t]?
  below : Below w.heap.size w W
  laid : n < m → L.getD n false = true → ∃ g, a.tmps[d]? = some (.pointer (some ⟨g, 0, none⟩)) ∧ w.heap.size ≤ g ∧ W.heap[g]? = some blk

theorem set_listed {L : Array Bool} {i j : Nat} (h : (L.setIfInBounds i true).getD j false = true) : j = i ∨ L.getD j false = true := by
  by_cases hij : i = j
  · exact .inl hij.symm
  · rw [getD_set_ne false hij] at h; exact .inr h

theorem set_ne {L : Array Bool} {i j : Nat} (h : (L.setIfInBounds i true).getD j false = true) (hne : j ≠ i) : L.getD j false = true := (set_listed h).resolve_left hne

theorem drawn_any {Q : Exit → Act → World → Prop} {n m : Nat} {w : World} {a0 F : Act} {d : Tmp} {T : TypeId} {cs : Array Value} (hnm : m = n ∨ m = n + 1)
    (hB : drawnB md ops m = true) (hD : dstB ops m a0.tmps.size = true)
    (hal : n < m → ∃ o, ops[n]? = some o ∧ o.dst = some d ∧ o.guard = none ∧ ∀ (ρ : Operand → Value) (W : World), (execOp ρ o).run P W = .ok (.value (.pointer (some ⟨W.heap.size, 0, none⟩))) (W.alloc (.cells cs T)))
    (h1 : ∀ W, Below w.heap.size w W → wpQuiet P ops (fun W2 => Below W.heap.size W W2) (fun b => b = F) (ops.toList.take n) a0)
    (h2 : ∀ a W, Below w.heap.size w W → (n < m → ∃ g, a = F.put (some d) (.pointer (some ⟨g, 0, none⟩)) ∧ w.heap.size ≤ g ∧ W.heap[g]? = some (.cells cs T)) → (¬ n < m → a = F) → wpList P ops Q (ops.toList.drop m) a W) :
    ∀ (c : Nat) (L : Array Bool) (a : Act) (W : World), cntOff L m = c → Stands md ops n m w a0 F d (.cells cs T) L a W → wpAny P md ops Q (c + (ops.size - m)) L a W := by
  simp only [drawnB, Bool.and_eq_true, decide_eq_true_eq, List.all_eq_true, List.mem_range] at hB
  obtain ⟨⟨⟨⟨⟨hsel0, hms⟩, hsink⟩, hchain⟩, hseq⟩, hheads⟩ := hB
  have hsel := Region.noSelect_spec hsel0
  have hnm' : n ≤ m := by omega
  have hsz : ∀ i, i < m → ∀ o t, ops[i]? = some o → o.dst = some t → t < a0.tmps.size := fun i hi o t ho ht => by
    have := List.all_eq_true.1 hD i (List.mem_range.2 hi)
    simpa [ho, ht] using this
  have hlen : (ops.toList.take n).length = n := by simp; omega
  have htake : ∀ j, j < (ops.toList.take n).length → (ops.toList.take n)[j]? = ops[0 + j]? := fun j hj => by
    rw [hlen] at hj
    simp [List.getElem?_take, hj]
  have hlast := quiet_last _ _ (h1 w (Below.refl _ _))
  have hFsame : ∀ t, (∀ i o, i < n → ops[i]? = some o → o.dst ≠ some t) → F.tmps[t]? = a0.tmps[t]? := fun t ht => hlast.2.2 t fun o ho => by
    obtain ⟨j, hj, hje⟩ := List.getElem_of_mem ho
    have := htake j hj
    rw [List.getElem?_eq_getElem hj, hje] at this
    exact ht j o (by rw [hlen] at hj; exact hj) (by simpa using this.symm)
  have does : ∀ W, Below w.heap.size w W → ∀ i o, i < n → ops[i]? = some o →
      (Region.wanted o (yielded ops F.tmps) = true → ∃ v, o.quietAt P F (fun W2 => Below W.heap.size W W2) W v ∧ ∀ d, o.dst = some d → F.tmps[d]? = some v) ∧
      (Region.wanted o (yielded ops F.tmps) = false → ∀ d, o.dst = some d → F.tmps[d]? = some undef) := fun W hW i o hi ho =>
    quiet_does (B := w.heap.size) (n := n) (m := m) hW (fun j o cs b hj => hsel j o cs b hj) (fun i hi => hheads i (by omega)) hnm' (ops.toList.take n) 0 a0 htake (by rw [hlen]; omega) (fun i hi o t ho ht => hsz i (by omega) o t ho ht) (h1 W hW) i o (Nat.zero_le _) hi ho
  intro c
  induction c with
  | zero =>
    intro L a W hc st
    have hall := cnt_zero hc
    have hL : L = firstOn ops.size m := by
      apply Array.ext
      · rw [st.inv.size]; simp [firstOn]
      · intro i h3 h4
        by_cases him : i < m
        · have := hall i him
          simp [h3] at this
          simp [firstOn, him, this]
        · have := st.inv.tail i (by omega) (by rw [← st.inv.size]; exact h3)
          simp [h3] at this
          simp [firstOn, him, this]
    have hdl : (ops.toList.drop m).length = ops.size - m := by simp
    rw [Nat.zero_add, ← hdl]
    refine wpAny_of_seq (ops.toList.drop m) m L a W (fun j => by simp [List.getElem?_drop]) (by rw [hdl, hL]; exact hseq) (h2 a W st.below (fun hlt => ?_) (fun hlt => ?_))
    · obtain ⟨g, hg1, hg2, hg3⟩ := st.laid hlt (hall n hlt)
      obtain ⟨o, ho, hod, _, _⟩ := hal hlt
      refine ⟨g, ?_, hg2, hg3⟩
      have hsize : a.tmps.size = (F.put (some d) (.pointer (some ⟨g, 0, none⟩))).tmps.size := by rw [put_size, st.size, hlast.1]
      have hdef : a.defers = (F.put (some d) (.pointer (some ⟨g, 0, none⟩))).defers := by rw [put_defs, st.defs, hlast.2.1]
      have htm : a.tmps = (F.put (some d) (.pointer (some ⟨g, 0, none⟩))).tmps := by
        apply Array.ext_getElem?
        intro t
        rw [put_at]
        by_cases hd : d = t
        · subst hd
          rw [if_pos ⟨rfl, by rw [hlast.1]; exact hsz n hlt o d ho hod⟩]; exact hg1
        · rw [if_neg (fun hh => hd (Option.some.inj hh.1))]
          by_cases hex : ∃ i o, i < n ∧ ops[i]? = some o ∧ o.dst = some t
          · obtain ⟨i, o', hi, ho', ht⟩ := hex
            exact st.on i o' t hi (hall i (by omega)) ho' ht
          · rw [st.off t fun i o' hi _ ho' ht => ?_, hFsame t fun i o' hi ho' ht => hex ⟨i, o', hi, ho', ht⟩]
            by_cases hin : i < n
            · exact hex ⟨i, o', hin, ho', ht⟩
            · have : i = n := by omega
              subst this
              rw [ho] at ho'
              obtain rfl := Option.some.inj ho'
              rw [hod] at ht
              exact hd (Option.some.inj ht)
      cases a; cases F; simp_all [Act.put]
    · have hmn : m = n := by omega
      have htm : a.tmps = F.tmps := by
        apply Array.ext_getElem?
        intro t
        by_cases hex : ∃ i o, i < n ∧ ops[i]? = some o ∧ o.dst = some t
        · obtain ⟨i, o', hi, ho', ht⟩ := hex
          exact st.on i o' t hi (hall i (by omega)) ho' ht
        · rw [st.off t fun i o' hi _ ho' ht => hex ⟨i, o', by omega, ho', ht⟩, hFsame t fun i o' hi ho' ht => hex ⟨i, o', hi, ho', ht⟩]
      have hdef : a.defers = F.defers := by rw [st.defs, hlast.2.1]
      cases a; cases F; simp_all
  | succ c ih =>
    intro L a W hc st
    rw [show c + 1 + (ops.size - m) = (c + (ops.size - m)) + 1 by omega]
    obtain ⟨i0, hi0, hoff0⟩ := cnt_off (L := L) (m := m) (by omega)
    have hun0 : L.getD i0 true = false := getD_in (by rw [st.inv.size]; omega) hoff0
    refine ⟨fun hno => ?_, fun i hi => ?_⟩
    · -- the least that is not listed is ready
      exfalso
      have : ∀ k, k < m → L.getD k false = true := by
        intro k
        induction k using Nat.strongRecOn with
        | _ k ihk =>
          intro hk
          rcases hkl : L.getD k false with _ | _
          · obtain ⟨o, ho, hlow, _⟩ := headB_spec (hheads k hk)
            have : k ∈ Region.ready md ops L := mem_ready.2 ⟨getD_in (by rw [st.inv.size]; omega) hkl, o, ho, fun e he hb => ihk e.on (hlow e he hb) (by have := hlow e he hb; omega)⟩
            rw [hno] at this
            cases this
          · rfl
      rw [this i0 hi0] at hoff0
      cases hoff0
    · have him : i < m := by
        rcases Nat.lt_or_ge i m with h' | h'
        · exact h'
        · exact absurd hi (tail_waits hsink hchain hms st.inv _ i0 rfl hi0 hun0 i h')
      obtain ⟨hui, o, ho, hedges⟩ := mem_ready.1 hi
      have hcnt : cntOff (L.setIfInBounds i true) m = c := by have := cnt_set hui him; omega
      have hinv := st.inv.set hi him
      obtain ⟨o', ho', hlow, hj⟩ := headB_spec (hheads i him)
      obtain rfl : o = o' := Option.some.inj (ho.symm.trans ho')
      unfold wpOp
      simp only [ho]
      by_cases hin : i < n
      · -- one of the head
        have hlook : ∀ t ∈ o.looksAt ops, a.tmps[t]? = F.tmps[t]? := fun t ht => by
          by_cases hex : ∃ j oj, j < m ∧ ops[j]? = some oj ∧ oj.dst = some t
          · obtain ⟨j, oj, hjm, hoj, hjt⟩ := hex
            obtain ⟨oj', hoj', h3⟩ := hj j hjm
            obtain rfl : oj = oj' := Option.some.inj (hoj.symm.trans hoj')
            obtain ⟨ow, how, e, he, hb, hon⟩ := Region.waitsFor_spec ((h3 t hjt).1 ht)
            obtain rfl : o = ow := Option.some.inj (ho.symm.trans how)
            have h4 := hlow e he hb
            have h5 := hedges e he hb
            rw [hon] at h4 h5
            exact st.on j oj t (by omega) h5 hoj hjt
          · rw [st.off t fun j oj hjm _ hoj hjt => hex ⟨j, oj, hjm, hoj, hjt⟩, hFsame t fun j oj hjn hoj hjt => hex ⟨j, oj, by omega, hoj, hjt⟩]
        obtain ⟨s1, s2⟩ := same_exec (hsel i o · · ho) hlook
        have next : ∀ (v : Value) (W2 : World), Below W.heap.size W W2 → (∀ t, o.dst = some t → F.tmps[t]? = some v) → Stands md ops n m w a0 F d (.cells cs T) (L.setIfInBounds i true) (a.put o.dst v) W2 := fun v W2 hW2 hv =>
          { inv := hinv
            defs := by rw [put_defs]; exact st.defs
            size := by rw [put_size]; exact st.size
            on := fun k ok t hk hkl hok hkt => by
              rw [put_at]
              by_cases hot : o.dst = some t
              · rw [if_pos ⟨hot, by rw [st.size]; exact hsz i him o t ho hot⟩, hv t hot]
              · rw [if_neg (fun hh => hot hh.1)]
                rcases set_listed hkl with rfl | hkl
                · rw [ho] at hok
                  obtain rfl := Option.some.inj hok
                  exact absurd hkt hot
                · exact st.on k ok t hk hkl hok hkt
            off := fun t ht => by
              have hot : o.dst ≠ some t := ht i o him (by have : i < L.size := by rw [st.inv.size]; omega
                                                          simp [this]) ho
              rw [put_at, if_neg (fun hh => hot hh.1)]
              exact st.off t fun k ok hk hkl hok => ht k ok hk (getD_set_true hkl) hok
            below := st.below.trans (hW2.mono st.below.size)
            laid := fun hlt hnl => by
              rcases set_listed hnl with rfl | hnl
              · omega
              · obtain ⟨g, hg1, hg2, hg3⟩ := st.laid hlt hnl
                obtain ⟨oa, hoa, had, _, _⟩ := hal hlt
                obtain ⟨oa', hoa', h3⟩ := hj n hlt
                obtain rfl : oa = oa' := Option.some.inj (hoa.symm.trans hoa')
                refine ⟨g, ?_, hg2, ?_⟩
                · rw [put_at, if_neg (fun hh => (h3 d had).2 (by omega) hh.1)]; exact hg1
                · rw [hW2.block g ?_]; exact hg3
                  rcases Nat.lt_or_ge g W.heap.size with h' | h'
                  · exact h'
                  · rw [Array.getElem?_eq_none h'] at hg3; cases hg3 }
        rw [s2]
        obtain ⟨d1, d2⟩ := does W st.below i o hin ho
        split
        · rename_i hw
          obtain ⟨v, hq, hv⟩ := d1 hw
          refine .inl (wp_of_at (v := v) ?_ fun W2 hW2 => ih _ _ _ hcnt (next v W2 hW2 hv))
          unfold Oper.quietAt at hq ⊢
          rwa [s1]
        · rename_i hw
          exact ih _ _ _ hcnt (next undef W (Below.refl _ _) (d2 (by simpa using hw)))
      · -- the new block
        have hieq : i = n := by omega
        subst hieq
        obtain ⟨oa, hoa, had, hgu, hrun⟩ := hal (by omega)
        obtain rfl : o = oa := Option.some.inj (ho.symm.trans hoa)
        have hw : Region.wanted o (yielded ops a.tmps) = true := by simp [Region.wanted, hgu]
        rw [if_pos hw]
        refine .inl ?_
        unfold Oper.wp
        rw [hrun]
        refine ih _ _ _ hcnt
          { inv := hinv
            defs := by rw [put_defs]; exact st.defs
            size := by rw [put_size]; exact st.size
            on := fun k ok t hk hkl hok hkt => by
              have hne : o.dst ≠ some t := by
                obtain ⟨ok', hok', h3⟩ := hj k (by omega)
                obtain rfl : ok = ok' := Option.some.inj (hok.symm.trans hok')
                exact (h3 t hkt).2 (by omega)
              rw [put_at, if_neg (fun hh => hne hh.1)]
              rcases set_listed hkl with rfl | hkl
              · omega
              · exact st.on k ok t hk hkl hok hkt
            off := fun t ht => by
              have hot : o.dst ≠ some t := ht i o him (by have : i < L.size := by rw [st.inv.size]; omega
                                                          simp [this]) ho
              rw [put_at, if_neg (fun hh => hot hh.1)]
              exact st.off t fun k ok hk hkl hok => ht k ok hk (getD_set_true hkl) hok
            below := st.below.alloc st.below.size _
            laid := fun _ _ => ⟨W.heap.size, by rw [put_at, if_pos ⟨had, by rw [st.size]; exact hsz i him o d ho had⟩], st.below.size, heap_alloc_new W _⟩ }

/-- **A DRAWN REGION WITH A NEW BLOCK IN IT**: its head (n operations) walked once, quiet in every world that lies over w; operation n lays a new block; the rest in sequence. -/
theorem wp_drawn_new {id n : Nat} {Q : Exit → Act → World → Prop} {w : World} {a : Act} (F : Act) {l : List Oper} (d : Tmp) (T : TypeId) (cs : Array Value) (hm : P.follows .mixedOrders = true)
    (hB : drawnB .any l.toArray (n + 1) = true) (hD : dstB l.toArray (n + 1) a.tmps.size = true)
    (hal : ∃ o, l[n]? = some o ∧ o.dst = some d ∧ o.guard = none ∧ ∀ (ρ : Operand → Value) (W : World), (execOp ρ o).run P W = .ok (.value (.pointer (some ⟨W.heap.size, 0, none⟩))) (W.alloc (.cells cs T)))
    (h1 : ∀ W, Below w.heap.size w W → wpQuiet P l.toArray (fun W2 => ∃ x : Over W, W2 = x.w) (fun b => b = F) (l.take n) a)
    (h2 : ∀ g W, Below w.heap.size w W → w.heap.size ≤ g → W.heap[g]? = some (.cells cs T) → wpList P l.toArray Q (l.drop (n + 1)) (F.put (some d) (.pointer (some ⟨g, 0, none⟩))) W) :
    (Code.region id l.toArray true).wp P Q a w := by
  have hc : ∀ W : World, (fun W2 => ∃ x : Over W, W2 = x.w) = (fun W2 => Below W.heap.size W W2) := fun W => funext fun W2 => propext ⟨fun ⟨x, hx⟩ => hx ▸ x.lies, fun h => ⟨⟨W2, h⟩, rfl⟩⟩
  refine wp_region_any hm ?_
  have hms : n + 1 < l.toArray.size := by
    simp only [drawnB, Bool.and_eq_true, decide_eq_true_eq] at hB
    exact hB.1.1.1.1.2
  have := drawn_any (Q := Q) (n := n) (m := n + 1) (w := w) (a0 := a) (F := F) (d := d) (T := T) (cs := cs) (.inr rfl) hB hD (fun _ => by simpa using hal) (fun W hW => by have := h1 W hW; rw [hc] at this; simpa using this)
    (fun b W hW hl hno => by
      obtain ⟨g, rfl, hg, hb⟩ := hl (Nat.lt_succ_self n)
      simpa using h2 g W hW hg hb) (n + 1) (Array.replicate l.toArray.size false) a w.drew (cnt_all _ _)
    { inv := ⟨by simp, fun j oj _ hl => (by rw [getD_replicate_false] at hl; cases hl), fun t _ ht => getD_in (by simpa using ht) (getD_replicate_false _ _)⟩
      defs := rfl, size := rfl
      on := fun i o t _ hl => by rw [getD_replicate_false] at hl; cases hl
      off := fun _ _ => rfl
      below := (Below.refl _ _).drew
      laid := fun _ hl => by rw [getD_replicate_false] at hl; cases hl }
  rwa [show n + 1 + (l.toArray.size - (n + 1)) = l.toArray.size by omega] at this

/-- **A DRAWN REGION WITHOUT A NEW BLOCK OF ITS OWN**: its head walked once, the rest in sequence. -/
theorem wp_drawn {id n : Nat} {Q : Exit → Act → World → Prop} {w : World} {a : Act} (F : Act) {l : List Oper} (hm : P.follows .mixedOrders = true)
    (hB : drawnB .any l.toArray n = true) (hD : dstB l.toArray n a.tmps.size = true)
    (h1 : ∀ W, Below w.heap.size w W → wpQuiet P l.toArray (fun W2 => ∃ x : Over W, W2 = x.w) (fun b => b = F) (l.take n) a)
    (h2 : ∀ W, Below w.heap.size w W → wpList P l.toArray Q (l.drop n) F W) :
    (Code.region id l.toArray true).wp P Q a w := by
  have hc : ∀ W : World, (fun W2 => ∃ x : Over W, W2 = x.w) = (fun W2 => Below W.heap.size W W2) := fun W => funext fun W2 => propext ⟨fun ⟨x, hx⟩ => hx ▸ x.lies, fun h => ⟨⟨W2, h⟩, rfl⟩⟩
  refine wp_region_any hm ?_
  have hms : n < l.toArray.size := by
    simp only [drawnB, Bool.and_eq_true, decide_eq_true_eq] at hB
    exact hB.1.1.1.1.2
  have := drawn_any (Q := Q) (n := n) (m := n) (w := w) (a0 := a) (F := F) (d := 0) (T := 0) (cs := #[]) (.inl rfl) hB hD (fun h => absurd h (Nat.lt_irrefl n)) (fun W hW => by have := h1 W hW; rw [hc] at this; simpa using this)
    (fun b W hW hl hno => by
      have := hno (Nat.lt_irrefl n)
      subst this
      simpa using h2 W hW) n (Array.replicate l.toArray.size false) a w.drew (cnt_all _ _)
    { inv := ⟨by simp, fun j oj _ hl => (by rw [getD_replicate_false] at hl; cases hl), fun t _ ht => getD_in (by simpa using ht) (getD_replicate_false _ _)⟩
      defs := rfl, size := rfl
      on := fun i o t _ hl => by rw [getD_replicate_false] at hl; cases hl
      off := fun _ _ => rfl
      below := (Below.refl _ _).drew
      laid := fun _ hl => by rw [getD_replicate_false] at hl; cases hl }
  rwa [show n + (l.toArray.size - n) = l.toArray.size by omega] at this
end
theorem wp_drawn_new' {P : Program} {id n : Nat} {Q : Exit → Act → World → Prop} {w : World} {a : Act} {l : List Oper} (d : Tmp) (T : TypeId) (cs : Array Value) (hm : P.follows .mixedOrders = true)
    (hB : drawnB .any l.toArray (n + 1) = true) (hD : dstB l.toArray (n + 1) a.tmps.size = true)
    (hal : ∃ o, l[n]? = some o ∧ o.dst = some d ∧ o.guard = none ∧ ∀ (ρ : Operand → Value) (W : World), (execOp ρ o).run P W = .ok (.value (.pointer (some ⟨W.heap.size, 0, none⟩))) (W.alloc (.cells cs T)))
    (h : ∃ F : Act, (∀ W, Below w.heap.size w W → wpQuiet P l.toArray (fun W2 => ∃ x : Over W, W2 = x.w) (fun b => b = F) (l.take n) a) ∧
      (∀ g W, Below w.heap.size w W → w.heap.size ≤ g → W.heap[g]? = some (.cells cs T) → wpList P l.toArray Q (l.drop (n + 1)) (F.put (some d) (.pointer (some ⟨g, 0, none⟩))) W)) :
    (Code.region id l.toArray true).wp P Q a w :=
  let ⟨F, h1, h2⟩ := h
  wp_drawn_new F d T cs hm hB hD hal h1 h2
theorem wp_drawn' {P : Program} {id n : Nat} {Q : Exit → Act → World → Prop} {w : World} {a : Act} {l : List Oper} (hm : P.follows .mixedOrders = true)
    (hB : drawnB .any l.toArray n = true) (hD : dstB l.toArray n a.tmps.size = true)
    (h : ∃ F : Act, (∀ W, Below w.heap.size w W → wpQuiet P l.toArray (fun W2 => ∃ x : Over W, W2 = x.w) (fun b => b = F) (l.take n) a) ∧
      (∀ W, Below w.heap.size w W → wpList P l.toArray Q (l.drop n) F W)) :
    (Code.region id l.toArray true).wp P Q a w :=
  let ⟨F, h1, h2⟩ := h
  wp_drawn F hm hB hD h1 h2

/-! ### Several new blocks, each filled by a store of its own, in any order beside the head's late operations -/
structure Fresh where
  slot : Tmp
  ty : TypeId
  cs : Array Value
  src : Tmp
  val : Value
  cs2 : Array Value

/-- only block g has turned -/
structure OnlyAt (g : Nat) (W W2 : World) : Prop where
  os : W2.os = W.os
  tape : W2.tape = W.tape
  output : W2.output = W.output
  size : W2.heap.size = W.heap.size
  block : ∀ k, k ≠ g → W2.heap[k]? = W.heap[k]?
theorem OnlyAt.refl (g : Nat) (W : World) : OnlyAt g W W := ⟨rfl, rfl, rfl, rfl, fun _ _ => rfl⟩
theorem OnlyAt.setCell {g : Nat} {W W2 : World} (h : OnlyAt g W W2) (o : Nat) (v : Value) : OnlyAt g W (W2.setCell ⟨g, o, none⟩ v) :=
  ⟨h.os, h.tape, h.output, by simpa [World.setCell] using h.size, fun k hk => (Below.heap_setCell W2 ⟨g, o, none⟩ v k hk).trans (h.block k hk)⟩
theorem OnlyAt.below {B g : Nat} {w W W2 : World} (h : OnlyAt g W W2) (hb : Below B w W) (hg : B ≤ g) : Below B w W2 :=
  ⟨h.os.trans hb.os, h.tape.trans hb.tape, h.output.trans hb.output, by rw [h.size]; exact hb.size, fun k hk => (h.block k (by omega)).trans (hb.block k hk)⟩
theorem blk_set {W : World} {g o : Nat} {cs : Array Value} {T : TypeId} {v : Value} (h : W.heap[g]? = some (.cells cs T)) : (W.setCell ⟨g, o, none⟩ v).heap[g]? = some (.cells (cs.setIfInBounds o v) T) := by
  simp [World.setCell, Array.getElem?_modify, h]

section
variable {P : Program} {ops : Array Oper} {md : Region.Mode}

structure StandsM (md : Region.Mode) (ops : Array Oper) (n p m : Nat) (N : Nat → Fresh) (w : World) (a0 F : Act) (L : Array Bool) (a : Act) (W : World) (g : Nat → Nat) : Prop where
  inv : HeadInv md ops m L
  defs : a.defers = a0.defers
  size : a.tmps.size = a0.tmps.size
  on : ∀ i o t, i < n → L.getD i false = true → ops[i]? = some o → o.dst = some t → a.tmps[t]? = F.tmps[t]?
  off : ∀ t, (∀ i o, i < m → L.getD i false = true → ops[i]? = some o → o.dst ≠ some t) → a.tmps[t]? = a0.tmps[t]?
  below : Below w.heap.size w W
  laid : ∀ q, q < p → L.getD (n + q) false = true → a.tmps[(N q).slot]? = some (.pointer (some ⟨g q, 0, none⟩)) ∧ w.heap.size ≤ g q ∧
    W.heap[g q]? = some (.cells (if L.getD (n + p + q) false = true then (N q).cs2 else (N q).cs) (N q).ty)
  apart : ∀ q r, q < p → r < p → q ≠ r → L.getD (n + q) false = true → L.getD (n + r) false = true → g q ≠ g r

def putsM (N : Nat → Fresh) (g : Nat → Nat) (F : Act) : Nat → Act
  | 0 => F
  | p + 1 => (putsM N g F p).put (some (N p).slot) (.pointer (some ⟨g p, 0, none⟩))
theorem putsM_size (N : Nat → Fresh) (g : Nat → Nat) (F : Act) : ∀ p, (putsM N g F p).tmps.size = F.tmps.size
  | 0 => rfl
  | p + 1 => by rw [putsM, put_size, putsM_size N g F p]
theorem putsM_defs (N : Nat → Fresh) (g : Nat → Nat) (F : Act) : ∀ p, (putsM N g F p).defers = F.defers
  | 0 => rfl
  | p + 1 => by rw [putsM, put_defs, putsM_defs N g F p]
theorem putsM_far (N : Nat → Fresh) (g : Nat → Nat) (F : Act) (t : Tmp) : ∀ p, (∀ q, q < p → (N q).slot ≠ t) → (putsM N g F p).tmps[t]? = F.tmps[t]?
  | 0, _ => rfl
  | p + 1, h => by
    rw [putsM, put_at, if_neg (fun hh => h p (Nat.lt_succ_self p) (Option.some.inj hh.1)), putsM_far N g F t p (fun q hq => h q (by omega))]
theorem putsM_at (N : Nat → Fresh) (g : Nat → Nat) (F : Act) (q : Nat) (hsz : (N q).slot < F.tmps.size) : ∀ p, q < p → (∀ r, r < p → r ≠ q → (N r).slot ≠ (N q).slot) →
    (putsM N g F p).tmps[(N q).slot]? = some (.pointer (some ⟨g q, 0, none⟩))
  | 0, h, _ => absurd h (Nat.not_lt_zero _)
  | p + 1, h, hne => by
    rw [putsM, put_at, putsM_size]
    by_cases hqp : p = q
    · subst hqp; rw [if_pos ⟨rfl, hsz⟩]
    · rw [if_neg (fun hh => hne p (Nat.lt_succ_self p) hqp (Option.some.inj hh.1)), putsM_at N g F q hsz p (by omega) (fun r hr => hne r (by omega))]

theorem drawn_many {Q : Exit → Act → World → Prop} {n p m : Nat} {N : Nat → Fresh} {w : World} {a0 F : Act} (hm : m = n + p + p)
    (hB : drawnB md ops m = true) (hD : dstB ops m a0.tmps.size = true)
    (hal : ∀ q, q < p → ∃ o, ops[n + q]? = some o ∧ o.dst = some (N q).slot ∧ o.guard = none ∧ ∀ (ρ : Operand → Value) (W : World), (execOp ρ o).run P W = .ok (.value (.pointer (some ⟨W.heap.size, 0, none⟩))) (W.alloc (.cells (N q).cs (N q).ty)))
    (hst : ∀ q, q < p → ∃ o, ops[n + p + q]? = some o ∧ o.dst = none ∧ o.guard = none ∧ (N q).slot ∈ o.looksAt ops ∧ (N q).src ∈ o.looksAt ops ∧ Region.waitsFor md ops (n + p + q) (n + q) = true ∧ F.tmps[(N q).src]? = some (N q).val ∧
      (∃ j oj, j < n ∧ ops[j]? = some oj ∧ oj.dst = some (N q).src) ∧
      ∀ (a : Act) (W : World) (g : Nat) (K : Act → World → Prop) (Q : Exit → Act → World → Prop), a.eval (.tmp (N q).slot) = .pointer (some ⟨g, 0, none⟩) → a.eval (.tmp (N q).src) = (N q).val → W.heap[g]? = some (.cells (N q).cs (N q).ty) →
        (∀ W2, W2.heap[g]? = some (.cells (N q).cs2 (N q).ty) → OnlyAt g W W2 → K (a.put o.dst undef) W2) → o.wp P a W K Q)
    (h1 : ∀ W, Below w.heap.size w W → wpQuiet P ops (fun W2 => Below W.heap.size W W2) (fun b => b = F) (ops.toList.take n) a0)
    (h2 : ∀ g W, Below w.heap.size w W → (∀ q, q < p → w.heap.size ≤ g q ∧ W.heap[g q]? = some (.cells (N q).cs2 (N q).ty)) → (∀ q r, q < p → r < p → q ≠ r → g q ≠ g r) → wpList P ops Q (ops.toList.drop m) (putsM N g F p) W) :
    ∀ (c : Nat) (L : Array Bool) (a : Act) (W : World) (g : Nat → Nat), cntOff L m = c → StandsM md ops n p m N w a0 F L a W g → wpAny P md ops Q (c + (ops.size - m)) L a W := by
  simp only [drawnB, Bool.and_eq_true, decide_eq_true_eq, List.all_eq_true, List.mem_range] at hB
  obtain ⟨⟨⟨⟨⟨hsel0, hms⟩, hsink⟩, hchain⟩, hseq⟩, hheads⟩ := hB
  have hsel := Region.noSelect_spec hsel0
  have hnm' : n ≤ m := by omega
  have hsz : ∀ i, i < m → ∀ o t, ops[i]? = some o → o.dst = some t → t < a0.tmps.size := fun i hi o t ho ht => by
    have := List.all_eq_true.1 hD i (List.mem_range.2 hi)
    simpa [ho, ht] using this
  have hlen : (ops.toList.take n).length = n := by simp; omega
  have htake : ∀ j, j < (ops.toList.take n).length → (ops.toList.take n)[j]? = ops[0 + j]? := fun j hj => by
    rw [hlen] at hj
    simp [List.getElem?_take, hj]
  have hlast := quiet_last _ _ (h1 w (Below.refl _ _))
  have hFsame : ∀ t, (∀ i o, i < n → ops[i]? = some o → o.dst ≠ some t) → F.tmps[t]? = a0.tmps[t]? := fun t ht => hlast.2.2 t fun o ho => by
    obtain ⟨j, hj, hje⟩ := List.getElem_of_mem ho
    have := htake j hj
    rw [List.getElem?_eq_getElem hj, hje] at this
    exact ht j o (by rw [hlen] at hj; exact hj) (by simpa using this.symm)
  have does : ∀ W, Below w.heap.size w W → ∀ i o, i < n → ops[i]? = some o →
      (Region.wanted o (yielded ops F.tmps) = true → ∃ v, o.quietAt P F (fun W2 => Below W.heap.size W W2) W v ∧ ∀ d, o.dst = some d → F.tmps[d]? = some v) ∧
      (Region.wanted o (yielded ops F.tmps) = false → ∀ d, o.dst = some d → F.tmps[d]? = some undef) := fun W hW i o hi ho =>
    quiet_does (B := w.heap.size) (n := n) (m := m) hW (fun j o cs b hj => hsel j o cs b hj) (fun i hi => hheads i (by omega)) hnm' (ops.toList.take n) 0 a0 htake (by rw [hlen]; omega) (fun i hi o t ho ht => hsz i (by omega) o t ho ht) (h1 W hW) i o (Nat.zero_le _) hi ho
  -- the destinations are all different
  have hdiff : ∀ i j oi oj t, i < m → j < m → i ≠ j → ops[i]? = some oi → ops[j]? = some oj → oi.dst = some t → oj.dst ≠ some t := fun i j oi oj t hi hj hij hoi hoj ht ht' => by
    obtain ⟨oi', hoi', _, h3⟩ := headB_spec (hheads i hi)
    obtain rfl : oi = oi' := Option.some.inj (hoi.symm.trans hoi')
    obtain ⟨oj', hoj', h4⟩ := h3 j hj
    obtain rfl : oj = oj' := Option.some.inj (hoj.symm.trans hoj')
    exact (h4 t ht').2 (Ne.symm hij) ht
  have hslot : ∀ q r, q < p → r < p → q ≠ r → (N q).slot ≠ (N r).slot := fun q r hq hr hqr he => by
    obtain ⟨oq, hoq, hdq, _, _⟩ := hal q hq
    obtain ⟨or, hor, hdr, _, _⟩ := hal r hr
    exact hdiff (n + q) (n + r) oq or _ (by omega) (by omega) (by omega) hoq hor hdq (by rw [hdr, he])
  intro c
  induction c with
  | zero =>
    intro L a W g hc st
    have hall := cnt_zero hc
    have hL : L = firstOn ops.size m := by
      apply Array.ext
      · rw [st.inv.size]; simp [firstOn]
      · intro i h3 h4
        by_cases him : i < m
        · have := hall i him
          simp [h3] at this
          simp [firstOn, him, this]
        · have := st.inv.tail i (by omega) (by rw [← st.inv.size]; exact h3)
          simp [h3] at this
          simp [firstOn, him, this]
    have hdl : (ops.toList.drop m).length = ops.size - m := by simp
    have ha : a = putsM N g F p := by
      have hsize : a.tmps.size = (putsM N g F p).tmps.size := by rw [putsM_size, st.size, hlast.1]
      have hdef : a.defers = (putsM N g F p).defers := by rw [putsM_defs, st.defs, hlast.2.1]
      have htm : a.tmps = (putsM N g F p).tmps := by
        apply Array.ext_getElem?
        intro t
        by_cases hsl : ∃ q, q < p ∧ (N q).slot = t
        · obtain ⟨q, hq, rfl⟩ := hsl
          obtain ⟨oq, hoq, hdq, _, _⟩ := hal q hq
          rw [(st.laid q hq (hall (n + q) (by omega))).1, putsM_at N g F q (by rw [hlast.1]; exact hsz (n + q) (by omega) oq _ hoq hdq) p hq (fun r hr hrq => hslot r q hr hq hrq)]
        · rw [putsM_far N g F t p (fun q hq he => hsl ⟨q, hq, he⟩)]
          by_cases hex : ∃ i o, i < n ∧ ops[i]? = some o ∧ o.dst = some t
          · obtain ⟨i, o', hi, ho', ht⟩ := hex
            exact st.on i o' t hi (hall i (by omega)) ho' ht
          · rw [st.off t fun i o' hi _ ho' ht => ?_, hFsame t fun i o' hi ho' ht => hex ⟨i, o', hi, ho', ht⟩]
            by_cases hin : i < n
            · exact hex ⟨i, o', hin, ho', ht⟩
            · by_cases hip : i < n + p
              · obtain ⟨oq, hoq, hdq, _, _⟩ := hal (i - n) (by omega)
                rw [show n + (i - n) = i by omega, ho'] at hoq
                obtain rfl := Option.some.inj hoq
                rw [hdq] at ht
                exact hsl ⟨i - n, by omega, Option.some.inj ht⟩
              · obtain ⟨oq, hoq, hdq, _⟩ := hst (i - (n + p)) (by omega)
                rw [show n + p + (i - (n + p)) = i by omega, ho'] at hoq
                obtain rfl := Option.some.inj hoq
                rw [hdq] at ht
                cases ht
      revert hdef htm
      cases a; cases putsM N g F p; rintro rfl rfl; rfl
    rw [Nat.zero_add, ← hdl]
    refine wpAny_of_seq (ops.toList.drop m) m L a W (fun j => by simp [List.getElem?_drop]) (by rw [hdl, hL]; exact hseq) (ha ▸ h2 g W st.below (fun q hq => ?_) (fun q r hq hr hqr => ?_))
    · have h3 := st.laid q hq (hall (n + q) (by omega))
      rw [if_pos (hall (n + p + q) (by omega))] at h3
      exact h3.2
    · exact st.apart q r hq hr hqr (hall _ (by omega)) (hall _ (by omega))
  | succ c ih =>
    intro L a W g hc st
    rw [show c + 1 + (ops.size - m) = (c + (ops.size - m)) + 1 by omega]
    obtain ⟨i0, hi0, hoff0⟩ := cnt_off (L := L) (m := m) (by omega)
    have hun0 : L.getD i0 true = false := getD_in (by rw [st.inv.size]; omega) hoff0
    refine ⟨fun hno => ?_, fun i hi => ?_⟩
    · exfalso
      have : ∀ k, k < m → L.getD k false = true := by
        intro k
        induction k using Nat.strongRecOn with
        | _ k ihk =>
          intro hk
          rcases hkl : L.getD k false with _ | _
          · obtain ⟨o, ho, hlow, _⟩ := headB_spec (hheads k hk)
            have : k ∈ Region.ready md ops L := mem_ready.2 ⟨getD_in (by rw [st.inv.size]; omega) hkl, o, ho, fun e he hb => ihk e.on (hlow e he hb) (by have := hlow e he hb; omega)⟩
            rw [hno] at this
            cases this
          · rfl
      rw [this i0 hi0] at hoff0
      cases hoff0
    · have him : i < m := by
        rcases Nat.lt_or_ge i m with h' | h'
        · exact h'
        · exact absurd hi (tail_waits hsink hchain hms st.inv _ i0 rfl hi0 hun0 i h')
      obtain ⟨hui, o, ho, hedges⟩ := mem_ready.1 hi
      have hui' := getD_both hui
      have hcnt : cntOff (L.setIfInBounds i true) m = c := by have := cnt_set hui him; omega
      have hinv := st.inv.set hi him
      have hlt : i < L.size := by rw [st.inv.size]; omega
      have hself : (L.setIfInBounds i true).getD i false = true := by simp [hlt]
      obtain ⟨o', ho', hlow, hj⟩ := headB_spec (hheads i him)
      obtain rfl : o = o' := Option.some.inj (ho.symm.trans ho')
      -- what the operation looks at is as the head's last frame has it, but for the new blocks' slots
      have hlook : ∀ t ∈ o.looksAt ops, (∀ q, q < p → (N q).slot ≠ t) → a.tmps[t]? = F.tmps[t]? := fun t ht hnot => by
        by_cases hex : ∃ j oj, j < m ∧ ops[j]? = some oj ∧ oj.dst = some t
        · obtain ⟨j, oj, hjm, hoj, hjt⟩ := hex
          obtain ⟨oj', hoj', h3⟩ := hj j hjm
          obtain rfl : oj = oj' := Option.some.inj (hoj.symm.trans hoj')
          obtain ⟨ow, how, e, he, hb, hon⟩ := Region.waitsFor_spec ((h3 t hjt).1 ht)
          obtain rfl : o = ow := Option.some.inj (ho.symm.trans how)
          have h5 := hedges e he hb
          rw [hon] at h5
          refine st.on j oj t ?_ h5 hoj hjt
          rcases Nat.lt_or_ge j n with h' | h'
          · exact h'
          · exfalso
            by_cases hjp : j < n + p
            · obtain ⟨oq, hoq, hdq, _, _⟩ := hal (j - n) (by omega)
              rw [show n + (j - n) = j by omega, hoj] at hoq
              obtain rfl := Option.some.inj hoq
              rw [hdq] at hjt
              exact hnot (j - n) (by omega) (Option.some.inj hjt)
            · obtain ⟨oq, hoq, hdq, _⟩ := hst (j - (n + p)) (by omega)
              rw [show n + p + (j - (n + p)) = j by omega, hoj] at hoq
              obtain rfl := Option.some.inj hoq
              rw [hdq] at hjt
              cases hjt
        · rw [st.off t fun j oj hjm _ hoj hjt => hex ⟨j, oj, hjm, hoj, hjt⟩, hFsame t fun j oj hjn hoj hjt => hex ⟨j, oj, by omega, hoj, hjt⟩]
      unfold wpOp
      simp only [ho]
      by_cases hin : i < n
      · -- one of the head: it looks at no new block's slot
        have hno : ∀ t ∈ o.looksAt ops, ∀ q, q < p → (N q).slot ≠ t := fun t ht q hq he => by
          obtain ⟨oq, hoq, hdq, _, _⟩ := hal q hq
          obtain ⟨oq', hoq', h3⟩ := hj (n + q) (by omega)
          obtain rfl : oq = oq' := Option.some.inj (hoq.symm.trans hoq')
          obtain ⟨ow, how, e, he', hb, hon⟩ := Region.waitsFor_spec ((h3 t (by rw [hdq, he])).1 ht)
          obtain rfl : o = ow := Option.some.inj (ho.symm.trans how)
          have := hlow e he' hb
          omega
        obtain ⟨s1, s2⟩ := same_exec (hsel i o · · ho) (fun t ht => hlook t ht (hno t ht))
        have next : ∀ (v : Value) (W2 : World), Below W.heap.size W W2 → (∀ t, o.dst = some t → F.tmps[t]? = some v) → StandsM md ops n p m N w a0 F (L.setIfInBounds i true) (a.put o.dst v) W2 g := fun v W2 hW2 hv =>
          { inv := hinv
            defs := by rw [put_defs]; exact st.defs
            size := by rw [put_size]; exact st.size
            on := fun k ok t hk hkl hok hkt => by
              rw [put_at]
              by_cases hot : o.dst = some t
              · rw [if_pos ⟨hot, by rw [st.size]; exact hsz i him o t ho hot⟩, hv t hot]
              · rw [if_neg (fun hh => hot hh.1)]
                rcases set_listed hkl with rfl | hkl
                · rw [ho] at hok
                  obtain rfl := Option.some.inj hok
                  exact absurd hkt hot
                · exact st.on k ok t hk hkl hok hkt
            off := fun t ht => by
              have hot : o.dst ≠ some t := ht i o him hself ho
              rw [put_at, if_neg (fun hh => hot hh.1)]
              exact st.off t fun k ok hk hkl hok => ht k ok hk (getD_set_true hkl) hok
            below := st.below.trans (hW2.mono st.below.size)
            laid := fun q hq hnl => by
              obtain ⟨hg1, hg2, hg3⟩ := st.laid q hq (set_ne hnl (by omega))
              obtain ⟨oa, hoa, had, _, _⟩ := hal q hq
              refine ⟨?_, hg2, ?_⟩
              · rw [put_at, if_neg (fun hh => hdiff (n + q) i oa o _ (by omega) him (by omega) hoa ho had hh.1)]; exact hg1
              · rw [getD_set_ne false (by omega : i ≠ n + p + q), hW2.block (g q) (blk_lt' hg3)]
                exact hg3
            apart := fun q r hq hr hqr h3 h4 => st.apart q r hq hr hqr (by rw [getD_set_ne false (by omega : i ≠ n + q)] at h3; exact h3) (by rw [getD_set_ne false (by omega : i ≠ n + r)] at h4; exact h4) }
        rw [s2]
        obtain ⟨d1, d2⟩ := does W st.below i o hin ho
        split
        · rename_i hw
          obtain ⟨v, hq, hv⟩ := d1 hw
          refine .inl (wp_of_at (v := v) ?_ fun W2 hW2 => ih _ _ _ _ hcnt (next v W2 hW2 hv))
          unfold Oper.quietAt at hq ⊢
          rwa [s1]
        · rename_i hw
          exact ih _ _ _ _ hcnt (next undef W (Below.refl _ _) (d2 (by simpa using hw)))
      · by_cases hip : i < n + p
        · -- a new block
          obtain ⟨q, hq, rfl⟩ : ∃ q, q < p ∧ i = n + q := ⟨i - n, by omega, by omega⟩
          obtain ⟨oa, hoa, had, hgu, hrun⟩ := hal q hq
          obtain rfl : o = oa := Option.some.inj (ho.symm.trans hoa)
          have hw : Region.wanted o (yielded ops a.tmps) = true := by simp [Region.wanted, hgu]
          rw [if_pos hw]
          refine .inl ?_
          unfold Oper.wp
          rw [hrun]
          refine ih _ _ _ (fun r => if r = q then W.heap.size else g r) hcnt
            { inv := hinv
              defs := by rw [put_defs]; exact st.defs
              size := by rw [put_size]; exact st.size
              on := fun k ok t hk hkl hok hkt => by
                rw [put_at, if_neg (fun hh => hdiff k (n + q) ok o t (by omega) him (by omega) hok ho hkt hh.1)]
                rcases set_listed hkl with rfl | hkl
                · omega
                · exact st.on k ok t hk hkl hok hkt
              off := fun t ht => by
                have hot : o.dst ≠ some t := ht (n + q) o him hself ho
                rw [put_at, if_neg (fun hh => hot hh.1)]
                exact st.off t fun k ok hk hkl hok => ht k ok hk (getD_set_true hkl) hok
              below := st.below.alloc st.below.size _
              laid := fun r hr hnl => by
                by_cases hrq : r = q
                · subst hrq
                  simp only [if_true]
                  have hsto : L.getD (n + p + r) false = false := by
                    rcases hx : L.getD (n + p + r) false with _ | _
                    · rfl
                    · obtain ⟨os, hos, _, _, _, _, hwait, _⟩ := hst r hr
                      obtain ⟨ow, how, e, he, hb, hon⟩ := Region.waitsFor_spec hwait
                      have := st.inv.closed _ ow how hx e he hb
                      rw [hon, hui'] at this
                      cases this
                  rw [getD_set_ne false (by omega : n + r ≠ n + p + r), hsto]
                  exact ⟨by rw [put_at, if_pos ⟨had, by rw [st.size]; exact hsz (n + r) him o _ ho had⟩], st.below.size, by simpa using heap_alloc_new W _⟩
                · simp only [if_neg hrq]
                  obtain ⟨hg1, hg2, hg3⟩ := st.laid r hr (set_ne hnl (by omega))
                  refine ⟨?_, hg2, ?_⟩
                  · rw [put_at, if_neg (fun hh => hslot q r hq hr (Ne.symm hrq) (by rw [had] at hh; exact Option.some.inj hh.1))]; exact hg1
                  · rw [getD_set_ne false (by omega : n + q ≠ n + p + r), Below.heap_alloc W _ (g r) (blk_lt' hg3)]
                    exact hg3
              apart := fun r s hr hs hrs h3 h4 => by
                have far : ∀ r, r < p → r ≠ q → (L.setIfInBounds (n + q) true).getD (n + r) false = true → g r < W.heap.size := fun r hr hrq h3 => blk_lt' (st.laid r hr (set_ne h3 (by omega))).2.2
                by_cases hrq : r = q
                · have := far s hs (fun e => hrs (hrq.trans e.symm)) h4
                  simp only [if_pos hrq, if_neg (fun e : s = q => hrs (hrq.trans e.symm))]
                  omega
                · by_cases hsq : s = q
                  · have := far r hr hrq h3
                    simp only [if_neg hrq, if_pos hsq]
                    omega
                  · simp only [if_neg hrq, if_neg hsq]
                    exact st.apart r s hr hs hrs (set_ne h3 (by omega)) (set_ne h4 (by omega)) }
        · -- a store into a new block
          obtain ⟨q, hq, rfl⟩ : ∃ q, q < p ∧ i = n + p + q := ⟨i - (n + p), by omega, by omega⟩
          obtain ⟨os, hos, hdn, hgu, hsl, hsr, hwait, hFv, ⟨js, ojs, hjs, hojs, hdjs⟩, hrun⟩ := hst q hq
          obtain rfl : o = os := Option.some.inj (ho.symm.trans hos)
          have hw : Region.wanted o (yielded ops a.tmps) = true := by simp [Region.wanted, hgu]
          rw [if_pos hw]
          refine .inl ?_
          obtain ⟨ow, how, e, he, hb, hon⟩ := Region.waitsFor_spec hwait
          obtain rfl : o = ow := Option.some.inj (ho.symm.trans how)
          have hlq := hedges e he hb
          rw [hon] at hlq
          obtain ⟨hg1, hg2, hg3⟩ := st.laid q hq hlq
          rw [hui', if_neg (by simp)] at hg3
          have hsrc : a.tmps[(N q).src]? = some (N q).val := by
            rw [hlook _ hsr fun r hr hc => ?_]
            · exact hFv
            · obtain ⟨orr, horr, hdr, _, _⟩ := hal r hr
              exact hdiff js (n + r) ojs orr _ (by omega) (by omega) (by omega) hojs horr hdjs (by rw [hdr, hc])
          refine hrun a W (g q) _ _ (by simp [Act.eval, hg1]) (by simp [Act.eval, hsrc]) hg3 fun W2 hb2 honly => ?_
          have hput : a.put o.dst undef = a := by rw [hdn]; rfl
          rw [hput]
          refine ih _ _ _ g hcnt
            { inv := hinv
              defs := st.defs
              size := st.size
              on := fun k ok t hk hkl hok hkt => st.on k ok t hk (set_ne hkl (by omega)) hok hkt
              off := fun t ht => st.off t fun k ok hk hkl hok => ht k ok hk (getD_set_true hkl) hok
              below := honly.below st.below hg2
              laid := fun r hr hnl => by
                have hnl' : L.getD (n + r) false = true := set_ne hnl (by omega)
                by_cases hrq : r = q
                · subst hrq
                  rw [hself, if_pos rfl]
                  exact ⟨hg1, hg2, hb2⟩
                · obtain ⟨h5, h6, h7⟩ := st.laid r hr hnl'
                  refine ⟨h5, h6, ?_⟩
                  rw [getD_set_ne false (by omega : n + p + q ≠ n + p + r), honly.block (g r) (st.apart r q hr hq hrq hnl' hlq)]
                  exact h7
              apart := fun r s hr hs hrs h3 h4 => st.apart r s hr hs hrs (set_ne h3 (by omega)) (set_ne h4 (by omega)) }
end


def writeFrom : Nat → List Value → Array Value → Array Value
  | _, [], C => C
  | o, v :: r, C => writeFrom (o + 1) r (C.setIfInBounds o v)
theorem writeFrom_size : ∀ (vs : List Value) (o : Nat) (C : Array Value), (writeFrom o vs C).size = C.size
  | [], _, _ => rfl
  | v :: r, o, C => by rw [writeFrom, writeFrom_size r]; simp
theorem writeFrom_at : ∀ (vs : List Value) (o : Nat) (C : Array Value) (i : Nat), o + vs.length ≤ C.size → (writeFrom o vs C)[i]? = if o ≤ i ∧ i < o + vs.length then vs[i - o]? else C[i]?
  | [], o, C, i, _ => by rw [writeFrom, if_neg (fun hh => by simp at hh; omega)]
  | v :: r, o, C, i, h => by
    simp only [List.length_cons] at h
    rw [writeFrom, writeFrom_at r (o + 1) _ i (by simp; omega)]
    by_cases h1 : o + 1 ≤ i ∧ i < o + 1 + r.length
    · rw [if_pos h1, if_pos (by simp; omega)]
      obtain ⟨k, hk⟩ : ∃ k, i - o = k + 1 := ⟨i - o - 1, by omega⟩
      rw [hk, List.getElem?_cons_succ, show i - (o + 1) = k by omega]
    · rw [if_neg h1]
      by_cases h2 : i = o
      · subst h2
        rw [if_pos (by simp), Array.getElem?_setIfInBounds_self_of_lt (by omega)]
        simp
      · rw [if_neg (by simp; omega), Array.getElem?_setIfInBounds_ne (by omega)]
theorem writeFrom_all {cs vs : Array Value} (h : vs.size = cs.size) : writeFrom 0 vs.toList cs = vs := by
  apply Array.ext_getElem?
  intro i
  rw [writeFrom_at _ _ _ _ (by simp; omega)]
  by_cases hi : i < vs.size
  · rw [if_pos (by simpa using hi)]; simp
  · rw [if_neg (by simpa using hi), Array.getElem?_eq_none (by omega), Array.getElem?_eq_none (by omega)]
theorem setCells_blk {g : Nat} {T : TypeId} : ∀ (vs : List Value) (o : Nat) (W : World) (C : Array Value), W.heap[g]? = some (.cells C T) → (W.setCells g o vs).heap[g]? = some (.cells (writeFrom o vs C) T) ∧ OnlyAt g W (W.setCells g o vs)
  | [], _, W, _, h => ⟨h, OnlyAt.refl g W⟩
  | v :: r, o, W, C, h => by
    obtain ⟨h1, h2⟩ := setCells_blk r (o + 1) (W.setCell ⟨g, o, none⟩ v) (C.setIfInBounds o v) (blk_set h)
    have h3 := (OnlyAt.refl g W).setCell o v
    exact ⟨h1, ⟨h2.os.trans h3.os, h2.tape.trans h3.tape, h2.output.trans h3.output, h2.size.trans h3.size, fun k hk => (h2.block k hk).trans (h3.block k hk)⟩⟩

/-- a store that fills a new block -/
theorem store_fills {P : Program} {o : Oper} {T : TypeId} {d s : Tmp} {cs vs : Array Value} (ho : o.op = .store T (.tmp d) (.tmp s)) (hi : (P.info? T).map (·.size) = some vs.size) (hsz : vs.size = cs.size) (h1 : vs.all (·.oneCell') = true)
    (a : Act) (W : World) (g : Nat) (K : Act → World → Prop) (Q : Exit → Act → World → Prop) (hd : a.eval (.tmp d) = .pointer (some ⟨g, 0, none⟩)) (hs : a.eval (.tmp s) = .agg vs) (hb : W.heap[g]? = some (.cells cs T))
    (h : ∀ W2, W2.heap[g]? = some (.cells vs T) → OnlyAt g W W2 → K (a.put o.dst undef) W2) : o.wp P a W K Q := by
  refine wp_store_mid T (.tmp d) (.tmp s) ho g 0 vs hd hs (fun j hj => ?_) hi h1 ?_
  · refine ⟨?_, by simp [World.frozen?, hb]⟩
    rw [cell_of_row W g (0 + j) cs T (0, 0) hb]
    simp [show j < cs.size by omega]
  · obtain ⟨h2, h3⟩ := setCells_blk vs.toList 0 W cs hb
    rw [writeFrom_all hsz] at h2
    exact h _ h2 h3

/-- **A DRAWN REGION THAT LAYS ONE NEW BLOCK AND FILLS IT.** -/
theorem wp_drawn_fill {P : Program} {id n : Nat} {Q : Exit → Act → World → Prop} {w : World} {a : Act} {l : List Oper} (d s : Tmp) (T : TypeId) (cs : Array Value) (hm : P.follows .mixedOrders = true)
    (hB : drawnB .any l.toArray (n + 2) = true) (hD : dstB l.toArray (n + 2) a.tmps.size = true)
    (hal : ∃ o, l[n]? = some o ∧ o.dst = some d ∧ o.guard = none ∧ ∀ (ρ : Operand → Value) (W : World), (execOp ρ o).run P W = .ok (.value (.pointer (some ⟨W.heap.size, 0, none⟩))) (W.alloc (.cells cs T)))
    (hst : ∃ o, l[n + 1]? = some o ∧ o.dst = none ∧ o.guard = none ∧ o.op = .store T (.tmp d) (.tmp s))
    (hwt : Region.waitsFor .any l.toArray (n + 1) n = true) (hsr : ((l.take n).any fun o => o.dst == some s) = true) (hi : (P.info? T).map (·.size) = some cs.size)
    (h : ∃ F : Act, (∀ W, Below w.heap.size w W → wpQuiet P l.toArray (fun W2 => ∃ x : Over W, W2 = x.w) (fun b => b = F) (l.take n) a) ∧
      ∃ vs : Array Value, F.tmps[s]? = some (.agg vs) ∧ vs.size = cs.size ∧ vs.all (·.oneCell') = true ∧
      (∀ g W, Below w.heap.size w W → w.heap.size ≤ g → W.heap[g]? = some (.cells vs T) → wpList P l.toArray Q (l.drop (n + 2)) (F.put (some d) (.pointer (some ⟨g, 0, none⟩))) W)) :
    (Code.region id l.toArray true).wp P Q a w := by
  obtain ⟨F, h1, vs, hF, hvs, hone, h2⟩ := h
  have hc : ∀ W : World, (fun W2 => ∃ x : Over W, W2 = x.w) = (fun W2 => Below W.heap.size W W2) := fun W => funext fun W2 => propext ⟨fun ⟨x, hx⟩ => hx ▸ x.lies, fun h => ⟨⟨W2, h⟩, rfl⟩⟩
  refine wp_region_any hm ?_
  have hms : n + 2 < l.toArray.size := by
    simp only [drawnB, Bool.and_eq_true, decide_eq_true_eq] at hB
    exact hB.1.1.1.1.2
  obtain ⟨os, hos, hsd, hsg, hso⟩ := hst
  obtain ⟨oj, hoj, hjd⟩ := List.any_eq_true.1 hsr
  obtain ⟨j, hj, hje⟩ := List.getElem_of_mem hoj
  have hjn : j < n := by simp at hj; omega
  have hoj' : l[j]? = some oj := by
    rw [← hje, List.getElem_take]
    exact List.getElem?_eq_getElem _
  have := drawn_many (P := P) (ops := l.toArray) (md := .any) (Q := Q) (n := n) (p := 1) (m := n + 2) (N := fun _ => ⟨d, T, cs, s, .agg vs, vs⟩) (w := w) (a0 := a) (F := F) rfl hB hD
    (fun q hq => by
      obtain rfl : q = 0 := by omega
      simpa using hal)
    (fun q hq => by
      obtain rfl : q = 0 := by omega
      refine ⟨os, by simpa using hos, hsd, hsg, by simp [Oper.looksAt, hso, Op.operands], by simp [Oper.looksAt, hso, Op.operands], hwt, hF, ⟨j, oj, hjn, by simpa using hoj', by simpa using hjd⟩, ?_⟩
      intro a W g K Q hd hs hb hk
      exact store_fills hso (by rw [hi, hvs]) hvs hone a W g K Q hd hs hb hk)
    (fun W hW => by have := h1 W hW; rw [hc] at this; simpa using this)
    (fun g W hW hg _ => by
      have := hg 0 (by omega)
      simpa [putsM] using h2 (g 0) W hW this.1 this.2) (n + 2) (Array.replicate l.toArray.size false) a w.drew (fun _ => 0) (cnt_all _ _)
    { inv := ⟨by simp, fun j oj _ hl => (by rw [getD_replicate_false] at hl; cases hl), fun t _ ht => getD_in (by simpa using ht) (getD_replicate_false _ _)⟩
      defs := rfl, size := rfl
      on := fun i o t _ hl => by rw [getD_replicate_false] at hl; cases hl
      off := fun _ _ => rfl
      below := (Below.refl _ _).drew
      laid := fun q _ hl => by rw [getD_replicate_false] at hl; cases hl
      apart := fun q r _ _ _ hl => by rw [getD_replicate_false] at hl; cases hl }
  rwa [show n + 2 + (l.toArray.size - (n + 2)) = l.toArray.size by omega] at this
section
variable {P : Program}
instance over_some {W : World} : Nonempty (Over W) := ⟨⟨W, Below.refl _ _⟩⟩
theorem xcell {w W : World} (hW : Below w.heap.size w W) (b : Nat) (hb : b < w.heap.size) : ∀ (x : Over W) (o : Nat), x.w.cell? ⟨b, o, none⟩ = w.cell? ⟨b, o, none⟩ :=
  fun x o => (x.lies.cell (p := ⟨b, o, none⟩) (Nat.lt_of_lt_of_le hb hW.size)).trans (hW.cell (p := ⟨b, o, none⟩) hb)
theorem draw_of {f : FuncId} {args : Array Value} {W : World} {v : Value} (x : Over W) (h : Calls P f args x.w fun e w' => e = .returned v ∧ Below x.w.heap.size x.w w') :
    Calls P f args x.w fun e w' => e = .returned v ∧ ∃ y : Over W, w' = y.w :=
  h.mono fun e w' ⟨he, hb⟩ => ⟨he, ⟨w', x.lies.trans (hb.mono x.lies.size)⟩, rfl⟩
theorem draw_of_same {f : FuncId} {args : Array Value} {W : World} {v : Value} (x : Over W) (h : Calls P f args x.w fun e w' => e = .returned v ∧ x.w = w') :
    Calls P f args x.w fun e w' => e = .returned v ∧ ∃ y : Over W, w' = y.w :=
  h.mono fun e w' ⟨he, hb⟩ => ⟨he, x, hb.symm⟩
theorem draw_of_drew {f : FuncId} {args : Array Value} {W : World} {v : Value} (x : Over W) (h : Calls P f args x.w fun e w' => e = .returned v ∧ ∃ n, w' = x.w.drewN n) :
    Calls P f args x.w fun e w' => e = .returned v ∧ ∃ y : Over W, w' = y.w :=
  h.mono fun e w' ⟨he, n, hb⟩ => ⟨he, ⟨w', by rw [hb]; exact below_drewN x.lies n⟩, rfl⟩
theorem blk_cell {W : World} {g : Nat} {cs : Array Value} {T : TypeId} (h : W.heap[g]? = some (.cells cs T)) (o : Nat) : W.cell? ⟨g, o, none⟩ = cs[o]? := cell_of_row W g o cs T (0, 0) h
theorem blk_frozen {W : World} {g : Nat} {cs : Array Value} {T : TypeId} (h : W.heap[g]? = some (.cells cs T)) (o : Nat) : W.frozen? ⟨g, o, none⟩ = false := by simp [World.frozen?, h]
theorem blk_lt {W : World} {g : Nat} {o : Obj} (h : W.heap[g]? = some o) : g < W.heap.size := by
  rcases Nat.lt_or_ge g W.heap.size with hlt | hge
  · exact hlt
  · rw [Array.getElem?_eq_none hge] at h; cases h
end
end
section
open Go.RowKit
set_option linter.unusedVariables false
set_option linter.unusedSimpArgs false

section
variable {P : Program} {ops : Array Oper} {md : Region.Mode}

/-- what an operation lays, and the value that it yields at the new block's number -/
structure New where
  blk : Obj
  val : Nat → Value
def upd (γ : Nat → Nat) (k g : Nat) : Nat → Nat := fun j => if j = k then g else γ j
theorem upd_same (γ : Nat → Nat) (k g : Nat) : upd γ k g k = g := by simp [upd]
theorem upd_other (γ : Nat → Nat) {k j : Nat} (g : Nat) (h : j ≠ k) : upd γ k g j = γ j := by simp [upd, h]
/-- operation i waits for operation k, itself or through others -/
def reachB (md : Region.Mode) (ops : Array Oper) : Nat → Nat → Nat → Bool
  | 0, _, _ => false
  | f + 1, i, k => Region.waitsFor md ops i k || (List.range i).any fun j => Region.waitsFor md ops i j && reachB md ops f j k
theorem reach_listed {n : Nat} {L : Array Bool} (inv : HeadInv md ops n L) : ∀ (f i k : Nat), reachB md ops f i k = true →
    (∀ o, ops[i]? = some o → ∀ e ∈ o.after, Region.binds md e = true → L.getD e.on false = true) → L.getD k false = true
  | 0, i, k, h, _ => by simp [reachB] at h
  | f + 1, i, k, h, hi => by
    have via : ∀ j, Region.waitsFor md ops i j = true → L.getD j false = true := fun j hj => by
      obtain ⟨o, ho, e, he, hb, hon⟩ := Region.waitsFor_spec hj
      have := hi o ho e he hb
      rwa [hon] at this
    simp only [reachB, Bool.or_eq_true, List.any_eq_true, List.mem_range, Bool.and_eq_true] at h
    rcases h with h | ⟨j, _, hj, hr⟩
    · exact via k h
    · exact reach_listed inv f j k hr fun o ho e he hb => inv.closed j o ho (via j hj) e he hb
def guardsB (ops : Array Oper) (n : Nat) : Bool := (List.range n).all fun i => match ops[i]? with
  | none => true
  | some o => o.guard.isNone

/-- what an operation may lean on: the blocks of those new ones that it waits for -/
def preN (md : Region.Mode) (ops : Array Oper) (news : Nat → Option New) (w : World) (i : Nat) (γ : Nat → Nat) (W : World) : Prop :=
  ∀ k nw, reachB md ops 100 i k = true → news k = some nw → w.heap.size ≤ γ k ∧ W.heap[γ k]? = some nw.blk

/-- the text's order, walked once; γ: the new blocks' numbers -/
def wpN (P : Program) (md : Region.Mode) (ops : Array Oper) (news : Nat → Option New) (w : World) (Fin : ((Nat → Nat) → Act) → Prop) : Nat → List Oper → ((Nat → Nat) → Act) → Prop
  | _, [], a => Fin a
  | i, o :: l, a => match news i with
    | some nw => (∀ γ W, (execOp (a γ).eval o).run P W = .ok (.value (nw.val W.heap.size)) (W.alloc nw.blk)) ∧ wpN P md ops news w Fin (i + 1) l (fun γ => (a γ).put o.dst (nw.val (γ i)))
    | none => ∃ v, (∀ γ W, Below w.heap.size w W → preN md ops news w i γ W → o.quietAt P (a γ) (fun W2 => Below W.heap.size W W2) W v) ∧ wpN P md ops news w Fin (i + 1) l (fun γ => (a γ).put o.dst v)

def DepN (ops : Array Oper) (a : (Nat → Nat) → Act) : Prop := ∀ γ k g t, (∀ o, ops[k]? = some o → o.dst ≠ some t) → (a (upd γ k g)).tmps[t]? = (a γ).tmps[t]?

/-- what an operation of the head does, told of the last frame -/
def DoesN (P : Program) (md : Region.Mode) (ops : Array Oper) (news : Nat → Option New) (w : World) (F : (Nat → Nat) → Act) (i : Nat) (o : Oper) : Prop :=
  match news i with
  | some nw => (∀ γ W, (execOp (F γ).eval o).run P W = .ok (.value (nw.val W.heap.size)) (W.alloc nw.blk)) ∧ ∀ γ d, o.dst = some d → (F γ).tmps[d]? = some (nw.val (γ i))
  | none => ∃ v, (∀ γ W, Below w.heap.size w W → preN md ops news w i γ W → o.quietAt P (F γ) (fun W2 => Below W.heap.size W W2) W v) ∧ ∀ γ d, o.dst = some d → (F γ).tmps[d]? = some v

theorem news_does {n : Nat} {w : World} {news : Nat → Option New} {Fin : ((Nat → Nat) → Act) → Prop} (hsel : ∀ (j : Nat) (o : Oper) cs b, ops[j]? = some o → o.op ≠ .select cs b) (hh : ∀ i, i < n → headB md ops n i = true) :
    ∀ (l : List Oper) (k : Nat) (a : (Nat → Nat) → Act), (∀ j, j < l.length → l[j]? = ops[k + j]?) → k + l.length = n → (∀ γ i, i < n → ∀ o d, ops[i]? = some o → o.dst = some d → d < (a γ).tmps.size) → DepN ops a →
    wpN P md ops news w Fin k l a → ∃ F, Fin F ∧ DepN ops F ∧ (∀ γ, (F γ).tmps.size = (a γ).tmps.size ∧ (F γ).defers = (a γ).defers) ∧
      (∀ γ t, (∀ o ∈ l, o.dst ≠ some t) → (F γ).tmps[t]? = (a γ).tmps[t]?) ∧ ∀ i o, k ≤ i → i < n → ops[i]? = some o → DoesN P md ops news w F i o
  | [], k, a, _, hk, _, hdep, h => ⟨a, h, hdep, fun _ => ⟨rfl, rfl⟩, fun _ _ _ => rfl, fun i o hi hin _ => by simp at hk; omega⟩
  | o :: l, k, a, hl, hk, hsz, hdep, h => by
    have h0 : ops[k]? = some o := by simpa using (hl 0 (by simp)).symm
    have hkn : k < n := by simp at hk; omega
    obtain ⟨oi, hoi, hlow, hj⟩ := headB_spec (hh k hkn)
    obtain rfl : o = oi := Option.some.inj (h0.symm.trans hoi)
    have later : ∀ o' ∈ l, ∃ j, k < j ∧ j < n ∧ ops[j]? = some o' := fun o' ho' => by
      obtain ⟨j, hjl, hje⟩ := List.getElem_of_mem ho'
      refine ⟨k + (j + 1), by omega, by simp at hk; omega, ?_⟩
      rw [← hl (j + 1) (by simp; omega), ← hje]
      simp [List.getElem?_eq_getElem hjl]
    -- the rest of the walk, whatever the value
    have rest : ∀ a' : (Nat → Nat) → Act, (∀ γ, ∃ v, a' γ = (a γ).put o.dst v) → DepN ops a' → wpN P md ops news w Fin (k + 1) l a' →
        ∃ F, Fin F ∧ DepN ops F ∧ (∀ γ, (F γ).tmps.size = (a γ).tmps.size ∧ (F γ).defers = (a γ).defers) ∧ (∀ γ t, (∀ o' ∈ l, o'.dst ≠ some t) → (F γ).tmps[t]? = (a' γ).tmps[t]?) ∧
          (∀ γ t, (∀ o' ∈ o :: l, o'.dst ≠ some t) → (F γ).tmps[t]? = (a γ).tmps[t]?) ∧ (∀ i o, k + 1 ≤ i → i < n → ops[i]? = some o → DoesN P md ops news w F i o) ∧
          (∀ γ, ∀ t ∈ o.looksAt ops, (a γ).tmps[t]? = (F γ).tmps[t]?) ∧ (∀ γ d v, o.dst = some d → a' γ = (a γ).put o.dst v → (F γ).tmps[d]? = some v) := fun a' hput hdep' hw => by
      have hs : ∀ γ, (a' γ).tmps.size = (a γ).tmps.size ∧ (a' γ).defers = (a γ).defers := fun γ => by
        obtain ⟨v, hv⟩ := hput γ
        rw [hv]; exact ⟨put_size .., put_defs ..⟩
      obtain ⟨F, f1, f2, f3, f4, f5⟩ := news_does hsel hh l (k + 1) a' (fun j hj' => by have := hl (j + 1) (by simp; omega); simpa [Nat.add_assoc, Nat.add_comm 1 j] using this) (by simp at hk; omega)
        (fun γ i hi o' d ho' hd => by rw [(hs γ).1]; exact hsz γ i hi o' d ho' hd) hdep' hw
      have hoff : ∀ γ t, (∀ o' ∈ o :: l, o'.dst ≠ some t) → (F γ).tmps[t]? = (a γ).tmps[t]? := fun γ t ht => by
        rw [f4 γ t fun o' ho' => ht o' (List.mem_cons_of_mem _ ho')]
        obtain ⟨v, hv⟩ := hput γ
        rw [hv, put_at, if_neg (fun hh => ht o (List.mem_cons_self ..) hh.1)]
      refine ⟨F, f1, f2, fun γ => ⟨(f3 γ).1.trans (hs γ).1, (f3 γ).2.trans (hs γ).2⟩, f4, hoff, f5, fun γ t ht => ?_, fun γ d v hd hv => ?_⟩
      · refine (hoff γ t fun o' ho' hd => ?_).symm
        have : ∃ j, k ≤ j ∧ j < n ∧ ops[j]? = some o' := by
          rcases List.mem_cons.1 ho' with rfl | ho'
          · exact ⟨k, Nat.le_refl _, hkn, h0⟩
          · obtain ⟨j, h1, h2, h3⟩ := later o' ho'
            exact ⟨j, by omega, h2, h3⟩
        obtain ⟨j, hkj, hjn, hjo⟩ := this
        obtain ⟨oj, hoj, h3⟩ := hj j hjn
        obtain rfl : o' = oj := Option.some.inj (hjo.symm.trans hoj)
        obtain ⟨ow, how, e, he, hb, hon⟩ := Region.waitsFor_spec ((h3 t hd).1 ht)
        obtain rfl : o = ow := Option.some.inj (h0.symm.trans how)
        have := hlow e he hb
        omega
      · rw [f4 γ d fun o' ho' hd' => ?_, hv, put_at, if_pos ⟨hd, hsz γ k hkn o d h0 hd⟩]
        obtain ⟨j, h1, h2, h3⟩ := later o' ho'
        obtain ⟨oj, hoj, h4⟩ := hj j h2
        obtain rfl : o' = oj := Option.some.inj (h3.symm.trans hoj)
        exact (h4 d hd').2 (by omega) hd
    unfold wpN at h
    split at h
    · rename_i nw hnw
      obtain ⟨hrun, hw⟩ := h
      have hdep' : DepN ops (fun γ => (a γ).put o.dst (nw.val (γ k))) := fun γ k' g t ht => by
        show ((a (upd γ k' g)).put o.dst (nw.val (upd γ k' g k))).tmps[t]? = ((a γ).put o.dst (nw.val (γ k))).tmps[t]?
        rw [put_at, put_at, hdep γ k' g t ht]
        by_cases hc : o.dst = some t
        · have hkk : k ≠ k' := fun e => by subst e; exact ht o h0 hc
          rw [upd_other γ g hkk, if_pos ⟨hc, hsz _ k hkn o t h0 hc⟩, if_pos ⟨hc, hsz _ k hkn o t h0 hc⟩]
        · rw [if_neg (fun hh => hc hh.1), if_neg (fun hh => hc hh.1)]
      obtain ⟨F, f1, f2, f3, f4, f5, f6, f7, f8⟩ := rest _ (fun γ => ⟨_, rfl⟩) hdep' hw
      refine ⟨F, f1, f2, f3, f5, fun i oi hi hin hoi2 => ?_⟩
      by_cases hik : i = k
      · subst hik
        obtain rfl : o = oi := Option.some.inj (h0.symm.trans hoi2)
        unfold DoesN
        rw [hnw]
        refine ⟨fun γ W => ?_, fun γ d hd => f8 γ d _ hd rfl⟩
        rw [← (same_exec (hsel i o · · h0) (f7 γ)).1]
        exact hrun γ W
      · exact f6 i oi (by omega) hin hoi2
    · rename_i hnw
      obtain ⟨v, hq, hw⟩ := h
      have hdep' : DepN ops (fun γ => (a γ).put o.dst v) := fun γ k' g t ht => by
        show ((a (upd γ k' g)).put o.dst v).tmps[t]? = ((a γ).put o.dst v).tmps[t]?
        rw [put_at, put_at, hdep γ k' g t ht]
        by_cases hc : o.dst = some t
        · rw [if_pos ⟨hc, hsz _ k hkn o t h0 hc⟩, if_pos ⟨hc, hsz _ k hkn o t h0 hc⟩]
        · rw [if_neg (fun hh => hc hh.1), if_neg (fun hh => hc hh.1)]
      obtain ⟨F, f1, f2, f3, f4, f5, f6, f7, f8⟩ := rest _ (fun γ => ⟨_, rfl⟩) hdep' hw
      refine ⟨F, f1, f2, f3, f5, fun i oi hi hin hoi2 => ?_⟩
      by_cases hik : i = k
      · subst hik
        obtain rfl : o = oi := Option.some.inj (h0.symm.trans hoi2)
        unfold DoesN
        rw [hnw]
        refine ⟨v, fun γ W hW hpre => ?_, fun γ d hd => f8 γ d _ hd rfl⟩
        have := hq γ W hW hpre
        unfold Oper.quietAt at this ⊢
        rwa [← (same_exec (hsel i o · · h0) (f7 γ)).1]
      · exact f6 i oi (by omega) hin hoi2

/-- where a walk in any order stands -/
structure StandsN (md : Region.Mode) (ops : Array Oper) (n : Nat) (w : World) (news : Nat → Option New) (a0 : Act) (F : (Nat → Nat) → Act) (γ : Nat → Nat) (L : Array Bool) (a : Act) (W : World) : Prop where
  inv : HeadInv md ops n L
  defs : a.defers = a0.defers
  size : a.tmps.size = a0.tmps.size
  on : ∀ i o t, i < n → L.getD i false = true → ops[i]? = some o → o.dst = some t → a.tmps[t]? = (F γ).tmps[t]?
  off : ∀ t, (∀ i o, i < n → L.getD i false = true → ops[i]? = some o → o.dst ≠ some t) → a.tmps[t]? = a0.tmps[t]?
  below : Below w.heap.size w W
  laid : ∀ k nw, k < n → L.getD k false = true → news k = some nw → w.heap.size ≤ γ k ∧ W.heap[γ k]? = some nw.blk

theorem reach_lt {n : Nat} (hlow : ∀ i, i < n → ∀ j, Region.waitsFor md ops i j = true → j < i) : ∀ (f i k : Nat), i < n → reachB md ops f i k = true → k < i
  | 0, i, k, _, h => by simp [reachB] at h
  | f + 1, i, k, hi, h => by
    simp only [reachB, Bool.or_eq_true, List.any_eq_true, List.mem_range, Bool.and_eq_true] at h
    rcases h with h | ⟨j, hj, hw, hr⟩
    · exact hlow i hi k h
    · have := reach_lt hlow f j k (by omega) hr
      omega

theorem news_any {Q : Exit → Act → World → Prop} {n : Nat} {w : World} {news : Nat → Option New} {a0 : Act} {F : (Nat → Nat) → Act}
    (hB : drawnB md ops n = true) (hG : guardsB ops n = true) (hD : dstB ops n a0.tmps.size = true) (hdep : DepN ops F) (hFs : ∀ γ, (F γ).tmps.size = a0.tmps.size ∧ (F γ).defers = a0.defers)
    (hFoff : ∀ γ t, (∀ i o, i < n → ops[i]? = some o → o.dst ≠ some t) → (F γ).tmps[t]? = a0.tmps[t]?)
    (does : ∀ i o, i < n → ops[i]? = some o → DoesN P md ops news w F i o)
    (h2 : ∀ γ W, Below w.heap.size w W → (∀ k nw, k < n → news k = some nw → w.heap.size ≤ γ k ∧ W.heap[γ k]? = some nw.blk) → wpList P ops Q (ops.toList.drop n) (F γ) W) :
    ∀ (c : Nat) (γ : Nat → Nat) (L : Array Bool) (a : Act) (W : World), cntOff L n = c → StandsN md ops n w news a0 F γ L a W → wpAny P md ops Q (c + (ops.size - n)) L a W := by
  simp only [drawnB, Bool.and_eq_true, decide_eq_true_eq, List.all_eq_true, List.mem_range] at hB
  obtain ⟨⟨⟨⟨⟨hsel0, hms⟩, hsink⟩, hchain⟩, hseq⟩, hheads⟩ := hB
  have hsel := Region.noSelect_spec hsel0
  have hsz : ∀ i, i < n → ∀ o t, ops[i]? = some o → o.dst = some t → t < a0.tmps.size := fun i hi o t ho ht => by
    have := List.all_eq_true.1 hD i (List.mem_range.2 hi)
    simpa [ho, ht] using this
  have hlowW : ∀ i, i < n → ∀ j, Region.waitsFor md ops i j = true → j < i := fun i hi j hj => by
    obtain ⟨o, ho, e, he, hb, hon⟩ := Region.waitsFor_spec hj
    obtain ⟨o', ho', hlow, _⟩ := headB_spec (hheads i hi)
    obtain rfl : o = o' := Option.some.inj (ho.symm.trans ho')
    have := hlow e he hb
    omega
  intro c
  induction c with
  | zero =>
    intro γ L a W hc st
    have hall := cnt_zero hc
    have hL : L = firstOn ops.size n := by
      apply Array.ext
      · rw [st.inv.size]; simp [firstOn]
      · intro i h3 h4
        by_cases him : i < n
        · have := hall i him
          simp [h3] at this
          simp [firstOn, him, this]
        · have := st.inv.tail i (by omega) (by rw [← st.inv.size]; exact h3)
          simp [h3] at this
          simp [firstOn, him, this]
    have hdl : (ops.toList.drop n).length = ops.size - n := by simp
    have haF : a = F γ := by
      have htm : a.tmps = (F γ).tmps := by
        apply Array.ext_getElem?
        intro t
        by_cases hex : ∃ i o, i < n ∧ ops[i]? = some o ∧ o.dst = some t
        · obtain ⟨i, o', hi, ho', ht⟩ := hex
          exact st.on i o' t hi (hall i hi) ho' ht
        · rw [st.off t fun i o' hi _ ho' ht => hex ⟨i, o', hi, ho', ht⟩, hFoff γ t fun i o' hi ho' ht => hex ⟨i, o', hi, ho', ht⟩]
      have hdef : a.defers = (F γ).defers := by rw [st.defs, (hFs γ).2]
      cases a
      generalize F γ = f at *
      cases f
      simp_all
    subst haF
    rw [Nat.zero_add, ← hdl]
    exact wpAny_of_seq (ops.toList.drop n) n L (F γ) W (fun j => by simp [List.getElem?_drop]) (by rw [hdl, hL]; exact hseq) (h2 γ W st.below fun k nw hk hn => st.laid k nw hk (hall k hk) hn)
  | succ c ih =>
    intro γ L a W hc st
    rw [show c + 1 + (ops.size - n) = (c + (ops.size - n)) + 1 by omega]
    obtain ⟨i0, hi0, hoff0⟩ := cnt_off (L := L) (m := n) (by omega)
    have hun0 : L.getD i0 true = false := getD_in (by rw [st.inv.size]; omega) hoff0
    refine ⟨fun hno => ?_, fun i hi => ?_⟩
    · exfalso
      have : ∀ k, k < n → L.getD k false = true := by
        intro k
        induction k using Nat.strongRecOn with
        | _ k ihk =>
          intro hk
          rcases hkl : L.getD k false with _ | _
          · obtain ⟨o, ho, hlow, _⟩ := headB_spec (hheads k hk)
            have : k ∈ Region.ready md ops L := mem_ready.2 ⟨getD_in (by rw [st.inv.size]; omega) hkl, o, ho, fun e he hb => ihk e.on (hlow e he hb) (by have := hlow e he hb; omega)⟩
            rw [hno] at this
            cases this
          · rfl
      rw [this i0 hi0] at hoff0
      cases hoff0
    · have him : i < n := by
        rcases Nat.lt_or_ge i n with h' | h'
        · exact h'
        · exact absurd hi (tail_waits hsink hchain hms st.inv _ i0 rfl hi0 hun0 i h')
      obtain ⟨hui, o, ho, hedges⟩ := mem_ready.1 hi
      have hcnt : cntOff (L.setIfInBounds i true) n = c := by have := cnt_set hui him; omega
      have hinv := st.inv.set hi him
      obtain ⟨o', ho', hlow, hj⟩ := headB_spec (hheads i him)
      obtain rfl : o = o' := Option.some.inj (ho.symm.trans ho')
      have hguard : o.guard = none := by
        have := List.all_eq_true.1 hG i (List.mem_range.2 him)
        simpa [ho] using this
      have hw : Region.wanted o (yielded ops a.tmps) = true := by simp [Region.wanted, hguard]
      have hnoti : L.getD i false = false := getD_both hui
      unfold wpOp
      simp only [ho]
      rw [if_pos hw]
      have hlook : ∀ t ∈ o.looksAt ops, a.tmps[t]? = (F γ).tmps[t]? := fun t ht => by
        by_cases hex : ∃ j oj, j < n ∧ ops[j]? = some oj ∧ oj.dst = some t
        · obtain ⟨j, oj, hjm, hoj, hjt⟩ := hex
          obtain ⟨oj', hoj', h3⟩ := hj j hjm
          obtain rfl : oj = oj' := Option.some.inj (hoj.symm.trans hoj')
          obtain ⟨ow, how, e, he, hb, hon⟩ := Region.waitsFor_spec ((h3 t hjt).1 ht)
          obtain rfl : o = ow := Option.some.inj (ho.symm.trans how)
          have h5 := hedges e he hb
          rw [hon] at h5
          exact st.on j oj t hjm h5 hoj hjt
        · rw [st.off t fun j oj hjm _ hoj hjt => hex ⟨j, oj, hjm, hoj, hjt⟩, hFoff γ t fun j oj hjn hoj hjt => hex ⟨j, oj, hjn, hoj, hjt⟩]
      obtain ⟨s1, s2⟩ := same_exec (hsel i o · · ho) hlook
      have hDo := does i o him ho
      -- the walk goes on
      have next : ∀ (γ' : Nat → Nat) (v : Value) (W2 : World), (∀ t, o.dst ≠ some t → (F γ').tmps[t]? = (F γ).tmps[t]?) → (∀ t, o.dst = some t → (F γ').tmps[t]? = some v) → Below w.heap.size w W2 →
          (∀ k nw, k < n → (L.setIfInBounds i true).getD k false = true → news k = some nw → w.heap.size ≤ γ' k ∧ W2.heap[γ' k]? = some nw.blk) → StandsN md ops n w news a0 F γ' (L.setIfInBounds i true) (a.put o.dst v) W2 := fun γ' v W2 hsame hv hW2 hlaid =>
        { inv := hinv
          defs := by rw [put_defs]; exact st.defs
          size := by rw [put_size]; exact st.size
          on := fun k ok t hk hkl hok hkt => by
            rw [put_at]
            by_cases hot : o.dst = some t
            · rw [if_pos ⟨hot, by rw [st.size]; exact hsz i him o t ho hot⟩, hv t hot]
            · rw [if_neg (fun hh => hot hh.1), hsame t hot]
              rcases set_listed hkl with rfl | hkl
              · rw [ho] at hok
                obtain rfl := Option.some.inj hok
                exact absurd hkt hot
              · exact st.on k ok t hk hkl hok hkt
          off := fun t ht => by
            have hot : o.dst ≠ some t := ht i o him (by have : i < L.size := by rw [st.inv.size]; omega
                                                        simp [this]) ho
            rw [put_at, if_neg (fun hh => hot hh.1)]
            exact st.off t fun k ok hk hkl hok => ht k ok hk (getD_set_true hkl) hok
          below := hW2
          laid := hlaid }
      unfold DoesN at hDo
      split at hDo
      · rename_i nw hnw
        obtain ⟨hrun, hslot⟩ := hDo
        refine .inl ?_
        unfold Oper.wp
        rw [s1, hrun γ W]
        refine ih (upd γ i W.heap.size) _ _ _ hcnt (next (upd γ i W.heap.size) (nw.val W.heap.size) _ (fun t ht => hdep γ i W.heap.size t fun o2 ho2 => by rw [ho] at ho2; obtain rfl := Option.some.inj ho2; exact ht)
          (fun t ht => by rw [hslot _ t ht, upd_same]) (st.below.alloc st.below.size _) fun k nw' hk hkl hn => ?_)
        rcases set_listed hkl with rfl | hkl2
        · rw [hnw] at hn
          obtain rfl := Option.some.inj hn
          rw [upd_same]
          exact ⟨st.below.size, heap_alloc_new W _⟩
        · have hki : k ≠ i := fun e => by subst e; rw [hnoti] at hkl2; cases hkl2
          rw [upd_other γ _ hki]
          obtain ⟨h3, h4⟩ := st.laid k nw' hk hkl2 hn
          exact ⟨h3, (heap_alloc_old W _ (blk_lt' h4)).trans h4⟩
      · rename_i hnw
        obtain ⟨v, hq, hslot⟩ := hDo
        have hpre : preN md ops news w i γ W := fun k nw hr hn => by
          have hki := reach_lt hlowW 100 i k him hr
          exact st.laid k nw (by omega) (reach_listed st.inv 100 i k hr fun o2 ho2 e he hb => by rw [ho] at ho2; obtain rfl := Option.some.inj ho2; exact hedges e he hb) hn
        refine .inl (wp_of_at (v := v) ?_ fun W2 hW2 => ih γ _ _ _ hcnt (next γ v W2 (fun _ _ => rfl) (fun t ht => hslot γ t ht) (st.below.trans (hW2.mono st.below.size)) fun k nw hk hkl hn => ?_))
        · have := hq γ W st.below hpre
          unfold Oper.quietAt at this ⊢
          rwa [s1]
        · rcases set_listed hkl with rfl | hkl
          · rw [hnw] at hn; cases hn
          · obtain ⟨h3, h4⟩ := st.laid k nw hk hkl hn
            exact ⟨h3, (hW2.block _ (blk_lt' h4)).trans h4⟩

/-- **A DRAWN REGION THAT LAYS NEW BLOCKS AMONG QUIET CALLS**: its head (n operations, none guarded) walked once, the rest in sequence. -/
theorem wp_news {id n : Nat} {Q : Exit → Act → World → Prop} {w : World} {a : Act} {l : List Oper} (news : Nat → Option New) (hm : P.follows .mixedOrders = true)
    (hB : drawnB .any l.toArray n = true) (hG : guardsB l.toArray n = true) (hD : dstB l.toArray n a.tmps.size = true)
    (h : wpN P .any l.toArray news w (fun F => ∀ γ W, Below w.heap.size w W → (∀ k nw, k < n → news k = some nw → w.heap.size ≤ γ k ∧ W.heap[γ k]? = some nw.blk) → wpList P l.toArray Q (l.drop n) (F γ) W) 0 (l.take n) (fun _ => a)) :
    (Code.region id l.toArray true).wp P Q a w := by
  refine wp_region_any hm ?_
  have hB' := hB
  simp only [drawnB, Bool.and_eq_true, decide_eq_true_eq, List.all_eq_true, List.mem_range] at hB'
  obtain ⟨⟨⟨⟨⟨hsel0, hms⟩, _⟩, _⟩, _⟩, hheads⟩ := hB'
  have hsel := Region.noSelect_spec hsel0
  have hlen : (l.take n).length = n := by simp at hms ⊢; omega
  have htake : ∀ j, j < (l.take n).length → (l.take n)[j]? = l.toArray[0 + j]? := fun j hj => by
    rw [hlen] at hj
    simp [List.getElem?_take, hj]
  obtain ⟨F, f1, f2, f3, f4, f5⟩ := news_does (md := .any) (ops := l.toArray) (n := n) (fun j o cs b hj => hsel j o cs b hj) (fun i hi => hheads i hi) (l.take n) 0 (fun _ => a) htake (by rw [hlen]; omega)
    (fun γ i hi o d ho hd => by have := List.all_eq_true.1 hD i (List.mem_range.2 hi); simpa [ho, hd] using this) (fun _ _ _ _ _ => rfl) h
  have := news_any (P := P) (Q := Q) (a0 := a) hB hG hD f2 f3 (fun γ t ht => f4 γ t fun o ho => by
      obtain ⟨j, hj, hje⟩ := List.getElem_of_mem ho
      have h3 := htake j hj
      rw [List.getElem?_eq_getElem hj, hje] at h3
      exact ht j o (by rw [hlen] at hj; exact hj) (by simpa using h3.symm))
    (fun i o hi ho => f5 i o (Nat.zero_le _) hi ho) (fun γ W hW hl => by simpa using f1 γ W hW hl) n (fun _ => 0) (Array.replicate l.toArray.size false) a w.drew (cnt_all _ _)
    { inv := ⟨by simp, fun j oj _ hl => (by rw [getD_replicate_false] at hl; cases hl), fun t _ ht => getD_in (by simpa using ht) (getD_replicate_false _ _)⟩
      defs := rfl, size := rfl
      on := fun i o t _ hl => by rw [getD_replicate_false] at hl; cases hl
      off := fun _ _ => rfl
      below := (Below.refl _ _).drew
      laid := fun k nw _ hl => by rw [getD_replicate_false] at hl; cases hl }
  rwa [show n + (l.toArray.size - n) = l.toArray.size by omega] at this
end
end
section
open Go.RowKit
set_option linter.unusedVariables false
set_option linter.unusedSimpArgs false

section
variable {P : Program} {ops : Array Oper} {md : Region.Mode}

/-- what is known of a value that an operation yields; it stays true when memory is added -/
structure St where
  ok : Value → World → Prop
  keep : ∀ v W W2, ok v W → Below W.heap.size W W2 → ok v W2
  fresh : Bool := false
/-- a pointer to a block that is laid between two worlds -/
def NewBlk (u : Value) (W W2 : World) : Prop := ∃ g, u = .pointer (some ⟨g, 0, none⟩) ∧ W.heap.size ≤ g ∧ g < W2.heap.size
/-- what is known of an open operation's value -/
def St.new (s : St) (W : World) (u : Value) (W2 : World) : Prop := s.ok u W2 ∧ (s.fresh = true → NewBlk u W W2)
def updV (γ : Nat → Value) (k : Nat) (v : Value) : Nat → Value := fun j => if j = k then v else γ j
theorem updV_same (γ : Nat → Value) (k : Nat) (v : Value) : updV γ k v k = v := by simp [updV]
theorem updV_other (γ : Nat → Value) {k j : Nat} (v : Value) (h : j ≠ k) : updV γ k v j = γ j := by simp [updV, h]

def preS (md : Region.Mode) (ops : Array Oper) (G : List (Nat × St)) (i : Nat) (γ : Nat → Value) (W : World) : Prop := ∀ x ∈ G, reachB md ops 100 i x.1 = true → x.2.ok (γ x.1) W
def openUpon (P : Program) (Φ : Value → World → Prop) (W : World) : Result Next → Prop
  | .ok (.value u) w' => Φ u w' ∧ Below W.heap.size W w'
  | .ok (.enter f args) w' => w' = W ∧ Calls P f args W fun e w'' => ∃ v, e = .returned v ∧ Φ v w'' ∧ Below W.heap.size W w''
  | _ => False
def openAt (P : Program) (o : Oper) (a : Act) (Φ : Value → World → Prop) (W : World) : Prop := openUpon P Φ W ((execOp a.eval o).run P W)
def locS (md : Region.Mode) (ops : Array Oper) (i : Nat) (v : (Nat → Value) → Value) : Prop := ∀ γ k g, reachB md ops 100 i k = false → v (updV γ k g) = v γ

/-- the text's order, walked once; γ: the values of the open operations -/
def wpS (P : Program) (md : Region.Mode) (ops : Array Oper) (w : World) (Fin : ((Nat → Value) → Act) → List (Nat × St) → Prop) : Nat → List Oper → ((Nat → Value) → Act) → List (Nat × St) → Prop
  | _, [], a, G => Fin a G
  | i, o :: l, a, G =>
    (∃ v : (Nat → Value) → Value, (∀ γ W, Below w.heap.size w W → preS md ops G i γ W → Region.wanted o (yielded ops (a γ).tmps) = true ∧ o.quiet P (a γ) (fun W2 => ∃ x : Over W, W2 = x.w) (fun b => b = (a γ).put o.dst (v γ))) ∧ locS md ops i v ∧ wpS P md ops w Fin (i + 1) l (fun γ => (a γ).put o.dst (v γ)) G) ∨
    ((∀ γ, Region.wanted o (yielded ops (a γ).tmps) = false) ∧ wpS P md ops w Fin (i + 1) l (fun γ => (a γ).put o.dst undef) G) ∨
    (∃ s : St, (∀ γ W, Below w.heap.size w W → preS md ops G i γ W → Region.wanted o (yielded ops (a γ).tmps) = true ∧ openAt P o (a γ) (s.new W) W) ∧ wpS P md ops w Fin (i + 1) l (fun γ => (a γ).put o.dst (γ i)) (G ++ [(i, s)]))

section steps
variable {w : World} {Fin : ((Nat → Value) → Act) → List (Nat × St) → Prop} {i : Nat} {o : Oper} {l : List Oper} {a : (Nat → Value) → Act} {G : List (Nat × St)}
theorem wpS_quiet {v : (Nat → Value) → Value} (h1 : ∀ γ W, Below w.heap.size w W → preS md ops G i γ W → Region.wanted o (yielded ops (a γ).tmps) = true ∧ o.quiet P (a γ) (fun W2 => ∃ x : Over W, W2 = x.w) (fun b => b = (a γ).put o.dst (v γ)))
    (h2 : locS md ops i v) (h3 : wpS P md ops w Fin (i + 1) l (fun γ => (a γ).put o.dst (v γ)) G) : wpS P md ops w Fin i (o :: l) a G := by
  unfold wpS; exact .inl ⟨v, h1, h2, h3⟩
theorem wpS_skip (h1 : ∀ γ, Region.wanted o (yielded ops (a γ).tmps) = false) (h3 : wpS P md ops w Fin (i + 1) l (fun γ => (a γ).put o.dst undef) G) : wpS P md ops w Fin i (o :: l) a G := by
  unfold wpS; exact .inr (.inl ⟨h1, h3⟩)
theorem wpS_open (s : St) (h1 : ∀ γ W, Below w.heap.size w W → preS md ops G i γ W → Region.wanted o (yielded ops (a γ).tmps) = true ∧ openAt P o (a γ) (s.new W) W)
    (h3 : wpS P md ops w Fin (i + 1) l (fun γ => (a γ).put o.dst (γ i)) (G ++ [(i, s)])) : wpS P md ops w Fin i (o :: l) a G := by
  unfold wpS; exact .inr (.inr ⟨s, h1, h3⟩)
theorem wpS_end (h : Fin a G) : wpS P md ops w Fin i [] a G := by
  unfold wpS; exact h
theorem locS_const (v : Value) : locS md ops i (fun _ => v) := fun _ _ _ _ => rfl
end steps

/-- slot t does not hang on the value of operation k -/
def DepS (md : Region.Mode) (ops : Array Oper) (a : (Nat → Value) → Act) : Prop := ∀ γ k g t, (∀ j oj, ops[j]? = some oj → oj.dst = some t → j ≠ k ∧ reachB md ops 100 j k = false) → (a (updV γ k g)).tmps[t]? = (a γ).tmps[t]?

/-- what an operation of the head does, told of the last frame -/
def DoesS (P : Program) (md : Region.Mode) (ops : Array Oper) (G : List (Nat × St)) (w : World) (F : (Nat → Value) → Act) (i : Nat) (o : Oper) : Prop :=
  ((∀ γ W, Below w.heap.size w W → preS md ops G i γ W → Region.wanted o (yielded ops (F γ).tmps) = true ∧ ∃ v, o.quietAt P (F γ) (fun W2 => Below W.heap.size W W2) W v ∧ ∀ d, o.dst = some d → (F γ).tmps[d]? = some v) ∧ (∀ s, (i, s) ∉ G)) ∨
  ((∀ γ, Region.wanted o (yielded ops (F γ).tmps) = false) ∧ (∀ s, (i, s) ∉ G) ∧ ∀ γ d, o.dst = some d → (F γ).tmps[d]? = some undef) ∨
  (∃ s : St, (∀ γ W, Below w.heap.size w W → preS md ops G i γ W → Region.wanted o (yielded ops (F γ).tmps) = true ∧ openAt P o (F γ) (s.new W) W) ∧ (i, s) ∈ G ∧ (∀ s', (i, s') ∈ G → s' = s) ∧ ∀ γ d, o.dst = some d → (F γ).tmps[d]? = some (γ i))

theorem openAt_same {o : Oper} {a b : Act} {Φ : Value → World → Prop} {W : World} (h : execOp a.eval o = execOp b.eval o) : openAt P o a Φ W ↔ openAt P o b Φ W := by
  unfold openAt; rw [h]
theorem quietAt_same {o : Oper} {a b : Act} {C : World → Prop} {W : World} {v : Value} (h : execOp a.eval o = execOp b.eval o) : o.quietAt P a C W v ↔ o.quietAt P b C W v := by
  unfold Oper.quietAt; rw [h]

theorem s_does {n : Nat} {w : World} {Fin : ((Nat → Value) → Act) → List (Nat × St) → Prop} (hsel : ∀ (j : Nat) (o : Oper) cs b, ops[j]? = some o → o.op ≠ .select cs b) (hh : ∀ i, i < n → headB md ops n i = true) :
    ∀ (l : List Oper) (k : Nat) (a : (Nat → Value) → Act) (G : List (Nat × St)), (∀ j, j < l.length → l[j]? = ops[k + j]?) → k + l.length = n → (∀ γ i, i < n → ∀ o d, ops[i]? = some o → o.dst = some d → d < (a γ).tmps.size) → DepS md ops a → (∀ x ∈ G, x.1 < k) →
    wpS P md ops w Fin k l a G → ∃ F G', Fin F G' ∧ DepS md ops F ∧ (∀ γ, (F γ).tmps.size = (a γ).tmps.size ∧ (F γ).defers = (a γ).defers) ∧
      (∀ γ t, (∀ o ∈ l, o.dst ≠ some t) → (F γ).tmps[t]? = (a γ).tmps[t]?) ∧ (∀ x ∈ G, x ∈ G') ∧ (∀ x ∈ G', x ∈ G ∨ k ≤ x.1) ∧ (∀ x ∈ G', x.1 < n) ∧ ∀ i o, k ≤ i → i < n → ops[i]? = some o → DoesS P md ops G' w F i o
  | [], k, a, G, _, hk, _, hdep, hG, h => ⟨a, G, h, hdep, fun _ => ⟨rfl, rfl⟩, fun _ _ _ => rfl, fun x hx => hx, fun x hx => .inl hx, fun x hx => by simp at hk; have := hG x hx; omega, fun i o hi hin _ => by simp at hk; omega⟩
  | o :: l, k, a, G, hl, hk, hsz, hdep, hG, h => by
    have h0 : ops[k]? = some o := by simpa using (hl 0 (by simp)).symm
    have hkn : k < n := by simp at hk; omega
    obtain ⟨oi, hoi, hlow, hj⟩ := headB_spec (hh k hkn)
    obtain rfl : o = oi := Option.some.inj (h0.symm.trans hoi)
    have later : ∀ o' ∈ l, ∃ j, k < j ∧ j < n ∧ ops[j]? = some o' := fun o' ho' => by
      obtain ⟨j, hjl, hje⟩ := List.getElem_of_mem ho'
      refine ⟨k + (j + 1), by omega, by simp at hk; omega, ?_⟩
      rw [← hl (j + 1) (by simp; omega), ← hje]
      simp [List.getElem?_eq_getElem hjl]
    have rest : ∀ (a' : (Nat → Value) → Act) (G1 : List (Nat × St)), (∀ γ, ∃ v, a' γ = (a γ).put o.dst v) → DepS md ops a' → (∀ x ∈ G1, x.1 < k + 1) → wpS P md ops w Fin (k + 1) l a' G1 →
        ∃ F G', Fin F G' ∧ DepS md ops F ∧ (∀ γ, (F γ).tmps.size = (a γ).tmps.size ∧ (F γ).defers = (a γ).defers) ∧ 
          (∀ γ t, (∀ o' ∈ o :: l, o'.dst ≠ some t) → (F γ).tmps[t]? = (a γ).tmps[t]?) ∧ (∀ x ∈ G1, x ∈ G') ∧ (∀ x ∈ G', x ∈ G1 ∨ k + 1 ≤ x.1) ∧ (∀ x ∈ G', x.1 < n) ∧ (∀ i o, k + 1 ≤ i → i < n → ops[i]? = some o → DoesS P md ops G' w F i o) ∧
          (∀ γ, ∀ t ∈ o.looksAt ops, (a γ).tmps[t]? = (F γ).tmps[t]?) ∧ (∀ γ d v, o.dst = some d → a' γ = (a γ).put o.dst v → (F γ).tmps[d]? = some v) := fun a' G1 hput hdep' hG1 hw => by
      have hs : ∀ γ, (a' γ).tmps.size = (a γ).tmps.size ∧ (a' γ).defers = (a γ).defers := fun γ => by
        obtain ⟨v, hv⟩ := hput γ
        rw [hv]; exact ⟨put_size .., put_defs ..⟩
      obtain ⟨F, G', f1, f2, f3, f4, g1, g2, g3, f5⟩ := s_does hsel hh l (k + 1) a' G1 (fun j hj' => by have := hl (j + 1) (by simp; omega); simpa [Nat.add_assoc, Nat.add_comm 1 j] using this) (by simp at hk; omega)
        (fun γ i hi o' d ho' hd => by rw [(hs γ).1]; exact hsz γ i hi o' d ho' hd) hdep' hG1 hw
      have hoff : ∀ γ t, (∀ o' ∈ o :: l, o'.dst ≠ some t) → (F γ).tmps[t]? = (a γ).tmps[t]? := fun γ t ht => by
        rw [f4 γ t fun o' ho' => ht o' (List.mem_cons_of_mem _ ho')]
        obtain ⟨v, hv⟩ := hput γ
        rw [hv, put_at, if_neg (fun hh => ht o (List.mem_cons_self ..) hh.1)]
      refine ⟨F, G', f1, f2, fun γ => ⟨(f3 γ).1.trans (hs γ).1, (f3 γ).2.trans (hs γ).2⟩, hoff, g1, g2, g3, f5, fun γ t ht => ?_, fun γ d v hd hv => ?_⟩
      · refine (hoff γ t fun o' ho' hd => ?_).symm
        have : ∃ j, k ≤ j ∧ j < n ∧ ops[j]? = some o' := by
          rcases List.mem_cons.1 ho' with rfl | ho'
          · exact ⟨k, Nat.le_refl _, hkn, h0⟩
          · obtain ⟨j, h1, h2, h3⟩ := later o' ho'
            exact ⟨j, by omega, h2, h3⟩
        obtain ⟨j, hkj, hjn, hjo⟩ := this
        obtain ⟨oj, hoj, h3⟩ := hj j hjn
        obtain rfl : o' = oj := Option.some.inj (hjo.symm.trans hoj)
        obtain ⟨ow, how, e, he, hb, hon⟩ := Region.waitsFor_spec ((h3 t hd).1 ht)
        obtain rfl : o = ow := Option.some.inj (h0.symm.trans how)
        have := hlow e he hb
        omega
      · rw [f4 γ d fun o' ho' hd' => ?_, hv, put_at, if_pos ⟨hd, hsz γ k hkn o d h0 hd⟩]
        obtain ⟨j, h1, h2, h3⟩ := later o' ho'
        obtain ⟨oj, hoj, h4⟩ := hj j h2
        obtain rfl : o' = oj := Option.some.inj (h3.symm.trans hoj)
        exact (h4 d hd').2 (by omega) hd
    have hpre : ∀ (G1 G' : List (Nat × St)) γ W, (∀ x ∈ G1, x ∈ G') → preS md ops G' k γ W → preS md ops G1 k γ W := fun G1 G' γ W hsub hp x hx hr => hp x (hsub x hx) hr
    unfold wpS at h
    rcases h with ⟨v, hq, hloc, hw⟩ | ⟨hno, hw⟩ | ⟨s, hq, hw⟩
    · have hdep' : DepS md ops (fun γ => (a γ).put o.dst (v γ)) := fun γ k' g t ht => by
        show ((a (updV γ k' g)).put o.dst (v (updV γ k' g))).tmps[t]? = ((a γ).put o.dst (v γ)).tmps[t]?
        rw [put_at, put_at, hdep γ k' g t ht]
        by_cases hc : o.dst = some t
        · rw [if_pos ⟨hc, hsz _ k hkn o t h0 hc⟩, if_pos ⟨hc, hsz _ k hkn o t h0 hc⟩, hloc γ k' g (ht k o h0 hc).2]
        · rw [if_neg (fun hh => hc hh.1), if_neg (fun hh => hc hh.1)]
      obtain ⟨F, G', f1, f2, f3, f5, g1, g2, g3, f6, f7, f8⟩ := rest _ G (fun γ => ⟨_, rfl⟩) hdep' (fun x hx => by have := hG x hx; omega) hw
      refine ⟨F, G', f1, f2, f3, f5, g1, fun x hx => (g2 x hx).imp id (fun h => by omega), g3, fun i oi hi hin hoi2 => ?_⟩
      by_cases hik : i = k
      · subst hik
        obtain rfl : o = oi := Option.some.inj (h0.symm.trans hoi2)
        refine .inl ⟨fun γ W hW hp => ?_, fun s hs => ?_⟩
        · obtain ⟨h1, u, h2, h3⟩ := hq γ W hW (hpre _ _ γ W g1 hp)
          obtain ⟨s1, s2⟩ := same_exec (hsel i o · · h0) (f7 γ)
          have h4 := h2 W ⟨⟨W, Below.refl _ _⟩, rfl⟩
          have hc : (fun W2 => ∃ x : Over W, W2 = x.w) = (fun W2 => Below W.heap.size W W2) := funext fun W2 => propext ⟨fun ⟨x, hx⟩ => hx ▸ x.lies, fun h => ⟨⟨W2, h⟩, rfl⟩⟩
          rw [hc] at h4
          refine ⟨by rw [← s2]; exact h1, u, (quietAt_same s1).1 h4, fun d hd => ?_⟩
          have h5 : ((a γ).put o.dst u).tmps[d]? = ((a γ).put o.dst (v γ)).tmps[d]? := by rw [h3]
          rw [put_at, put_at, if_pos ⟨hd, hsz γ i hkn o d h0 hd⟩, if_pos ⟨hd, hsz γ i hkn o d h0 hd⟩] at h5
          rw [f8 γ d _ hd rfl, ← h5]
        · rcases g2 _ hs with h | h
          · have := hG _ h; simp at this
          · simp at h; omega
      · exact f6 i oi (by omega) hin hoi2
    · have hdep' : DepS md ops (fun γ => (a γ).put o.dst undef) := fun γ k' g t ht => by
        show ((a (updV γ k' g)).put o.dst undef).tmps[t]? = ((a γ).put o.dst undef).tmps[t]?
        rw [put_at, put_at, hdep γ k' g t ht]
        by_cases hc : o.dst = some t
        · rw [if_pos ⟨hc, hsz _ k hkn o t h0 hc⟩, if_pos ⟨hc, hsz _ k hkn o t h0 hc⟩]
        · rw [if_neg (fun hh => hc hh.1), if_neg (fun hh => hc hh.1)]
      obtain ⟨F, G', f1, f2, f3, f5, g1, g2, g3, f6, f7, f8⟩ := rest _ G (fun γ => ⟨_, rfl⟩) hdep' (fun x hx => by have := hG x hx; omega) hw
      refine ⟨F, G', f1, f2, f3, f5, g1, fun x hx => (g2 x hx).imp id (fun h => by omega), g3, fun i oi hi hin hoi2 => ?_⟩
      by_cases hik : i = k
      · subst hik
        obtain rfl : o = oi := Option.some.inj (h0.symm.trans hoi2)
        refine .inr (.inl ⟨fun γ => ?_, fun s hs => ?_, fun γ d hd => f8 γ d _ hd rfl⟩)
        · rw [← (same_exec (hsel i o · · h0) (f7 γ)).2]; exact hno γ
        · rcases g2 _ hs with h | h
          · have := hG _ h; simp at this
          · simp at h; omega
      · exact f6 i oi (by omega) hin hoi2
    · have hdep' : DepS md ops (fun γ => (a γ).put o.dst (γ k)) := fun γ k' g t ht => by
        show ((a (updV γ k' g)).put o.dst (updV γ k' g k)).tmps[t]? = ((a γ).put o.dst (γ k)).tmps[t]?
        rw [put_at, put_at, hdep γ k' g t ht]
        by_cases hc : o.dst = some t
        · rw [if_pos ⟨hc, hsz _ k hkn o t h0 hc⟩, if_pos ⟨hc, hsz _ k hkn o t h0 hc⟩, updV_other γ g (ht k o h0 hc).1]
        · rw [if_neg (fun hh => hc hh.1), if_neg (fun hh => hc hh.1)]
      obtain ⟨F, G', f1, f2, f3, f5, g1, g2, g3, f6, f7, f8⟩ := rest _ (G ++ [(k, s)]) (fun γ => ⟨_, rfl⟩) hdep' (fun x hx => by
        rcases List.mem_append.1 hx with h | h
        · have := hG x h; omega
        · simp at h; subst h; simp) hw
      have hks : ∀ s', (k, s') ∈ G' → s' = s := fun s' hs => by
        rcases g2 _ hs with h | h
        · rcases List.mem_append.1 h with h | h
          · have := hG _ h; simp at this
          · simpa using h
        · simp at h; omega
      refine ⟨F, G', f1, f2, f3, f5, fun x hx => g1 x (by simp [hx]), fun x hx => ?_, g3, fun i oi hi hin hoi2 => ?_⟩
      · rcases g2 x hx with h | h
        · rcases List.mem_append.1 h with h | h
          · exact .inl h
          · simp at h; subst h; right; simp
        · right; omega
      · by_cases hik : i = k
        · subst hik
          obtain rfl : o = oi := Option.some.inj (h0.symm.trans hoi2)
          refine .inr (.inr ⟨s, fun γ W hW hp => ?_, g1 _ (by simp), hks, fun γ d hd => f8 γ d _ hd rfl⟩)
          obtain ⟨h1, h2⟩ := hq γ W hW (fun x hx hr => hp x (g1 x (by simp [hx])) hr)
          obtain ⟨s1, s2⟩ := same_exec (hsel i o · · h0) (f7 γ)
          exact ⟨by rw [← s2]; exact h1, (openAt_same s1).1 h2⟩
        · exact f6 i oi (by omega) hin hoi2

/-- where a walk in any order stands -/
structure StandsS (md : Region.Mode) (ops : Array Oper) (n : Nat) (w : World) (G : List (Nat × St)) (a0 : Act) (F : (Nat → Value) → Act) (γ : Nat → Value) (L : Array Bool) (a : Act) (W : World) : Prop where
  inv : HeadInv md ops n L
  defs : a.defers = a0.defers
  size : a.tmps.size = a0.tmps.size
  on : ∀ i o t, i < n → L.getD i false = true → ops[i]? = some o → o.dst = some t → a.tmps[t]? = (F γ).tmps[t]?
  off : ∀ t, (∀ i o, i < n → L.getD i false = true → ops[i]? = some o → o.dst ≠ some t) → a.tmps[t]? = a0.tmps[t]?
  below : Below w.heap.size w W
  laid : ∀ x ∈ G, L.getD x.1 false = true → x.2.ok (γ x.1) W
  box : ∀ x ∈ G, x.2.fresh = true → L.getD x.1 false = true → ∃ g, γ x.1 = .pointer (some ⟨g, 0, none⟩) ∧ g < W.heap.size
  apart : ∀ x ∈ G, ∀ y ∈ G, x.2.fresh = true → y.2.fresh = true → L.getD x.1 false = true → L.getD y.1 false = true → x.1 ≠ y.1 → γ x.1 ≠ γ y.1

theorem wp_of_open {o : Oper} {a : Act} {W : World} {Φ : Value → World → Prop} {K : Act → World → Prop} {Q : Exit → Act → World → Prop} (h : openAt P o a Φ W)
    (hK : ∀ v W2, Φ v W2 → Below W.heap.size W W2 → K (a.put o.dst v) W2) : o.wp P a W K Q := by
  unfold openAt at h
  unfold Oper.wp
  generalize (execOp a.eval o).run P W = r at *
  cases r with
  | ok x w' =>
    cases x <;> simp only [openUpon] at h <;> simp only [Oper.upon]
    case value u => exact hK _ _ h.1 h.2
    case enter f args =>
      obtain ⟨e1, hc⟩ := h
      subst e1
      exact hc.mono fun e w'' ⟨v, he, h1, h2⟩ => by subst he; exact hK _ _ h1 h2
  | halt x w' => simp only [openUpon] at h

theorem s_any {Q : Exit → Act → World → Prop} {n : Nat} {w : World} {G : List (Nat × St)} {a0 : Act} {F : (Nat → Value) → Act}
    (hB : drawnB md ops n = true) (hD : dstB ops n a0.tmps.size = true) (hdep : DepS md ops F) (hFs : ∀ γ, (F γ).tmps.size = a0.tmps.size ∧ (F γ).defers = a0.defers)
    (hFoff : ∀ γ t, (∀ i o, i < n → ops[i]? = some o → o.dst ≠ some t) → (F γ).tmps[t]? = a0.tmps[t]?) (hGn : ∀ x ∈ G, x.1 < n) (htail : ∀ j oj t, n ≤ j → ops[j]? = some oj → oj.dst = some t → ∀ i oi, i < n → ops[i]? = some oi → oi.dst ≠ some t)
    (does : ∀ i o, i < n → ops[i]? = some o → DoesS P md ops G w F i o)
    (h2 : ∀ γ W, Below w.heap.size w W → (∀ x ∈ G, x.2.ok (γ x.1) W) → (∀ x ∈ G, ∀ y ∈ G, x.2.fresh = true → y.2.fresh = true → x.1 ≠ y.1 → γ x.1 ≠ γ y.1) → wpList P ops Q (ops.toList.drop n) (F γ) W) :
    ∀ (c : Nat) (γ : Nat → Value) (L : Array Bool) (a : Act) (W : World), cntOff L n = c → StandsS md ops n w G a0 F γ L a W → wpAny P md ops Q (c + (ops.size - n)) L a W := by
  simp only [drawnB, Bool.and_eq_true, decide_eq_true_eq, List.all_eq_true, List.mem_range] at hB
  obtain ⟨⟨⟨⟨⟨hsel0, hms⟩, hsink⟩, hchain⟩, hseq⟩, hheads⟩ := hB
  have hsel := Region.noSelect_spec hsel0
  have hsz : ∀ i, i < n → ∀ o t, ops[i]? = some o → o.dst = some t → t < a0.tmps.size := fun i hi o t ho ht => by
    have := List.all_eq_true.1 hD i (List.mem_range.2 hi)
    simpa [ho, ht] using this
  have hlowW : ∀ i, i < n → ∀ j, Region.waitsFor md ops i j = true → j < i := fun i hi j hj => by
    obtain ⟨o, ho, e, he, hb, hon⟩ := Region.waitsFor_spec hj
    obtain ⟨o', ho', hlow, _⟩ := headB_spec (hheads i hi)
    obtain rfl : o = o' := Option.some.inj (ho.symm.trans ho')
    have := hlow e he hb
    omega
  intro c
  induction c with
  | zero =>
    intro γ L a W hc st
    have hall := cnt_zero hc
    have hL : L = firstOn ops.size n := by
      apply Array.ext
      · rw [st.inv.size]; simp [firstOn]
      · intro i h3 h4
        by_cases him : i < n
        · have := hall i him
          simp [h3] at this
          simp [firstOn, him, this]
        · have := st.inv.tail i (by omega) (by rw [← st.inv.size]; exact h3)
          simp [h3] at this
          simp [firstOn, him, this]
    have hdl : (ops.toList.drop n).length = ops.size - n := by simp
    have haF : a = F γ := by
      have htm : a.tmps = (F γ).tmps := by
        apply Array.ext_getElem?
        intro t
        by_cases hex : ∃ i o, i < n ∧ ops[i]? = some o ∧ o.dst = some t
        · obtain ⟨i, o', hi, ho', ht⟩ := hex
          exact st.on i o' t hi (hall i hi) ho' ht
        · rw [st.off t fun i o' hi _ ho' ht => hex ⟨i, o', hi, ho', ht⟩, hFoff γ t fun i o' hi ho' ht => hex ⟨i, o', hi, ho', ht⟩]
      have hdef : a.defers = (F γ).defers := by rw [st.defs, (hFs γ).2]
      cases a
      generalize F γ = f at *
      cases f
      simp_all
    subst haF
    rw [Nat.zero_add, ← hdl]
    exact wpAny_of_seq (ops.toList.drop n) n L (F γ) W (fun j => by simp [List.getElem?_drop]) (by rw [hdl, hL]; exact hseq) (h2 γ W st.below (fun x hx => st.laid x hx (hall x.1 (hGn x hx))) fun x hx y hy fx fy hne => st.apart x hx y hy fx fy (hall x.1 (hGn x hx)) (hall y.1 (hGn y hy)) hne)
  | succ c ih =>
    intro γ L a W hc st
    rw [show c + 1 + (ops.size - n) = (c + (ops.size - n)) + 1 by omega]
    obtain ⟨i0, hi0, hoff0⟩ := cnt_off (L := L) (m := n) (by omega)
    have hun0 : L.getD i0 true = false := getD_in (by rw [st.inv.size]; omega) hoff0
    refine ⟨fun hno => ?_, fun i hi => ?_⟩
    · exfalso
      have : ∀ k, k < n → L.getD k false = true := by
        intro k
        induction k using Nat.strongRecOn with
        | _ k ihk =>
          intro hk
          rcases hkl : L.getD k false with _ | _
          · obtain ⟨o, ho, hlow, _⟩ := headB_spec (hheads k hk)
            have : k ∈ Region.ready md ops L := mem_ready.2 ⟨getD_in (by rw [st.inv.size]; omega) hkl, o, ho, fun e he hb => ihk e.on (hlow e he hb) (by have := hlow e he hb; omega)⟩
            rw [hno] at this
            cases this
          · rfl
      rw [this i0 hi0] at hoff0
      cases hoff0
    · have him : i < n := by
        rcases Nat.lt_or_ge i n with h' | h'
        · exact h'
        · exact absurd hi (tail_waits hsink hchain hms st.inv _ i0 rfl hi0 hun0 i h')
      obtain ⟨hui, o, ho, hedges⟩ := mem_ready.1 hi
      have hcnt : cntOff (L.setIfInBounds i true) n = c := by have := cnt_set hui him; omega
      have hinv := st.inv.set hi him
      obtain ⟨o', ho', hlow, hj⟩ := headB_spec (hheads i him)
      obtain rfl : o = o' := Option.some.inj (ho.symm.trans ho')
      have hnoti : L.getD i false = false := getD_both hui
      unfold wpOp
      simp only [ho]
      have hlook : ∀ t ∈ o.looksAt ops, a.tmps[t]? = (F γ).tmps[t]? := fun t ht => by
        by_cases hex : ∃ j oj, j < n ∧ ops[j]? = some oj ∧ oj.dst = some t
        · obtain ⟨j, oj, hjm, hoj, hjt⟩ := hex
          obtain ⟨oj', hoj', h3⟩ := hj j hjm
          obtain rfl : oj = oj' := Option.some.inj (hoj.symm.trans hoj')
          obtain ⟨ow, how, e, he, hb, hon⟩ := Region.waitsFor_spec ((h3 t hjt).1 ht)
          obtain rfl : o = ow := Option.some.inj (ho.symm.trans how)
          have h5 := hedges e he hb
          rw [hon] at h5
          exact st.on j oj t hjm h5 hoj hjt
        · rw [st.off t fun j oj hjm _ hoj hjt => hex ⟨j, oj, hjm, hoj, hjt⟩, hFoff γ t fun j oj hjn hoj hjt => hex ⟨j, oj, hjn, hoj, hjt⟩]
      obtain ⟨s1, s2⟩ := same_exec (hsel i o · · ho) hlook
      have hDo := does i o him ho
      have hreach : ∀ k, reachB md ops 100 i k = true → L.getD k false = true := fun k hr => reach_listed st.inv 100 i k hr fun o2 ho2 e he hb => by rw [ho] at ho2; obtain rfl := Option.some.inj ho2; exact hedges e he hb
      have hpre : preS md ops G i γ W := fun x hx hr => st.laid x hx (hreach x.1 hr)
      -- the walk goes on
      have next : ∀ (γ' : Nat → Value) (v : Value) (W2 : World), (∀ k ok t, k < n → L.getD k false = true → ops[k]? = some ok → ok.dst = some t → (F γ').tmps[t]? = (F γ).tmps[t]?) → (∀ t, o.dst = some t → (F γ').tmps[t]? = some v) → Below W.heap.size W W2 →
          (∀ x ∈ G, L.getD x.1 false = true → γ' x.1 = γ x.1) → (∀ x ∈ G, x.1 = i → x.2.new W (γ' i) W2) → StandsS md ops n w G a0 F γ' (L.setIfInBounds i true) (a.put o.dst v) W2 := fun γ' v W2 hsame hv hW2 hold hnew =>
        { inv := hinv
          defs := by rw [put_defs]; exact st.defs
          size := by rw [put_size]; exact st.size
          on := fun k ok t hk hkl hok hkt => by
            rw [put_at]
            by_cases hot : o.dst = some t
            · rw [if_pos ⟨hot, by rw [st.size]; exact hsz i him o t ho hot⟩, hv t hot]
            · rw [if_neg (fun hh => hot hh.1)]
              rcases set_listed hkl with rfl | hkl
              · rw [ho] at hok
                obtain rfl := Option.some.inj hok
                exact absurd hkt hot
              · rw [hsame k ok t hk hkl hok hkt]; exact st.on k ok t hk hkl hok hkt
          off := fun t ht => by
            have hot : o.dst ≠ some t := ht i o him (by have : i < L.size := by rw [st.inv.size]; omega
                                                        simp [this]) ho
            rw [put_at, if_neg (fun hh => hot hh.1)]
            exact st.off t fun k ok hk hkl hok => ht k ok hk (getD_set_true hkl) hok
          below := st.below.trans (hW2.mono st.below.size)
          laid := fun x hx hxl => by
            rcases set_listed hxl with hxi | hxl
            · rw [hxi]; exact (hnew x hx hxi).1
            · rw [hold x hx hxl]; exact x.2.keep _ _ _ (st.laid x hx hxl) hW2
          box := fun x hx fx hxl => by
            rcases set_listed hxl with hxi | hxl
            · obtain ⟨g, h1, h2, h3⟩ := (hnew x hx hxi).2 fx
              exact ⟨g, by rw [hxi]; exact h1, h3⟩
            · obtain ⟨g, h1, h2⟩ := st.box x hx fx hxl
              exact ⟨g, by rw [hold x hx hxl]; exact h1, Nat.lt_of_lt_of_le h2 hW2.size⟩
          apart := fun x hx y hy fx fy hxl hyl hne => by
            rcases set_listed hxl with hxi | hxl
            · rcases set_listed hyl with hyi | hyl
              · exact absurd (hxi.trans hyi.symm) hne
              · obtain ⟨g, h1, h2, h3⟩ := (hnew x hx hxi).2 fx
                obtain ⟨g', h4, h5⟩ := st.box y hy fy hyl
                rw [hxi, h1, hold y hy hyl, h4]
                intro e
                simp only [Value.pointer.injEq, Option.some.injEq, Addr.mk.injEq, and_true] at e
                omega
            · rcases set_listed hyl with hyi | hyl
              · obtain ⟨g, h1, h2, h3⟩ := (hnew y hy hyi).2 fy
                obtain ⟨g', h4, h5⟩ := st.box x hx fx hxl
                rw [hyi, h1, hold x hx hxl, h4]
                intro e
                simp only [Value.pointer.injEq, Option.some.injEq, Addr.mk.injEq, and_true] at e
                omega
              · rw [hold x hx hxl, hold y hy hyl]
                exact st.apart x hx y hy fx fy hxl hyl hne }
      rcases hDo with ⟨hq, hnone⟩ | ⟨hno, hnone, hslot⟩ | ⟨s, hq, hmem, huni, hslot⟩
      · obtain ⟨hw, v, hqq, hslot⟩ := hq γ W st.below hpre
        rw [s2, if_pos hw]
        refine .inl (wp_of_at (v := v) ((quietAt_same s1).2 hqq) fun W2 hW2 => ih γ _ _ _ hcnt (next γ v W2 (fun _ _ _ _ _ _ _ => rfl) (fun t ht => hslot t ht) hW2 (fun _ _ _ => rfl) fun x hx hxi => ?_))
        obtain ⟨x1, x2⟩ := x
        simp at hxi; subst hxi
        exact absurd hx (hnone x2)
      · rw [s2, if_neg (by rw [hno γ]; exact Bool.false_ne_true)]
        refine ih γ _ _ _ hcnt (next γ undef W (fun _ _ _ _ _ _ _ => rfl) (fun t ht => hslot γ t ht) (Below.refl _ _) (fun _ _ _ => rfl) fun x hx hxi => ?_)
        obtain ⟨x1, x2⟩ := x
        simp at hxi; subst hxi
        exact absurd hx (hnone x2)
      · obtain ⟨hw, hqq⟩ := hq γ W st.below hpre
        rw [s2, if_pos hw]
        refine .inl (wp_of_open ((openAt_same s1).2 hqq) fun v W2 hv hW2 => ih (updV γ i v) _ _ _ hcnt (next (updV γ i v) v W2 (fun k ok t hk hkl hok hkt => ?_) (fun t ht => by rw [hslot _ t ht, updV_same]) hW2 (fun x hx hxl => updV_other γ v fun e => by rw [e, hnoti] at hxl; cases hxl) fun x hx hxi => ?_))
        · refine hdep γ i v t fun j oj hoj hjt => ?_
          have hjn : j < n := by
            rcases Nat.lt_or_ge j n with h' | h'
            · exact h'
            · exact absurd hkt (htail j oj t h' hoj hjt k ok hk hok)
          have hjk : j = k := by
            obtain ⟨oj', hoj', _, h3⟩ := headB_spec (hheads j hjn)
            obtain rfl : oj = oj' := Option.some.inj (hoj.symm.trans hoj')
            obtain ⟨ok', hok', h4⟩ := h3 k hk
            obtain rfl : ok = ok' := Option.some.inj (hok.symm.trans hok')
            rcases Nat.decEq k j with hne | heq
            · exact absurd hjt ((h4 t hkt).2 hne)
            · exact heq.symm
          subst hjk
          refine ⟨fun e => (by subst e; rw [hnoti] at hkl; cases hkl), ?_⟩
          rcases hr : reachB md ops 100 j i with _ | _
          · rfl
          · exfalso
            have := reach_listed st.inv 100 j i hr fun o2 ho2 e he hb => st.inv.closed j o2 ho2 hkl e he hb
            rw [hnoti] at this; cases this
        · obtain ⟨x1, x2⟩ := x
          simp at hxi; subst hxi
          rw [updV_same, huni x2 hx]; exact hv

/-- the tail writes no slot of the head -/
def tailB (ops : Array Oper) (n : Nat) : Bool := (List.range ops.size).all fun j => decide (j < n) || match ops[j]? with
  | none => true
  | some oj => match oj.dst with
    | none => true
    | some t => (List.range n).all fun i => match ops[i]? with
      | none => true
      | some oi => oi.dst != some t
theorem tailB_spec {n : Nat} (h : tailB ops n = true) : ∀ j oj t, n ≤ j → ops[j]? = some oj → oj.dst = some t → ∀ i oi, i < n → ops[i]? = some oi → oi.dst ≠ some t := by
  intro j oj t hj hoj ht i oi hi hoi
  have hjs : j < ops.size := by
    rcases Nat.lt_or_ge j ops.size with h' | h'
    · exact h'
    · rw [Array.getElem?_eq_none h'] at hoj; cases hoj
  have h1 := List.all_eq_true.1 h j (List.mem_range.2 hjs)
  rw [hoj] at h1
  simp only [ht, Bool.or_eq_true, decide_eq_true_eq] at h1
  rcases h1 with h1 | h1
  · omega
  · have h2 := List.all_eq_true.1 h1 i (List.mem_range.2 hi)
    rw [hoi] at h2
    simpa using h2

/-- **A DRAWN REGION WITH OPEN VALUES**: its head (n operations) walked once in the text's order, the rest in sequence. -/
theorem wp_open {id n : Nat} {Q : Exit → Act → World → Prop} {w : World} {a : Act} {l : List Oper} (hm : P.follows .mixedOrders = true)
    (hB : drawnB .any l.toArray n = true) (hT : tailB l.toArray n = true) (hD : dstB l.toArray n a.tmps.size = true)
    (h : wpS P .any l.toArray w (fun F G => ∀ γ W, Below w.heap.size w W → (∀ x ∈ G, x.2.ok (γ x.1) W) → (∀ x ∈ G, ∀ y ∈ G, x.2.fresh = true → y.2.fresh = true → x.1 ≠ y.1 → γ x.1 ≠ γ y.1) → wpList P l.toArray Q (l.drop n) (F γ) W) 0 (l.take n) (fun _ => a) []) :
    (Code.region id l.toArray true).wp P Q a w := by
  refine wp_region_any hm ?_
  have hB' := hB
  simp only [drawnB, Bool.and_eq_true, decide_eq_true_eq, List.all_eq_true, List.mem_range] at hB'
  obtain ⟨⟨⟨⟨⟨hsel0, hms⟩, _⟩, _⟩, _⟩, hheads⟩ := hB'
  have hsel := Region.noSelect_spec hsel0
  have hlen : (l.take n).length = n := by simp at hms ⊢; omega
  have htake : ∀ j, j < (l.take n).length → (l.take n)[j]? = l.toArray[0 + j]? := fun j hj => by
    rw [hlen] at hj
    simp [List.getElem?_take, hj]
  obtain ⟨F, G, f1, f2, f3, f4, g1, g2, g3, f5⟩ := s_does (md := .any) (ops := l.toArray) (n := n) (fun j o cs b hj => hsel j o cs b hj) (fun i hi => hheads i hi) (l.take n) 0 (fun _ => a) [] htake (by rw [hlen]; omega)
    (fun γ i hi o d ho hd => by have := List.all_eq_true.1 hD i (List.mem_range.2 hi); simpa [ho, hd] using this) (fun _ _ _ _ _ => rfl) (fun x hx => by cases hx) h
  have := s_any (P := P) (Q := Q) (a0 := a) hB hD f2 f3 (fun γ t ht => f4 γ t fun o ho => by
      obtain ⟨j, hj, hje⟩ := List.getElem_of_mem ho
      have h3 := htake j hj
      rw [List.getElem?_eq_getElem hj, hje] at h3
      exact ht j o (by rw [hlen] at hj; exact hj) (by simpa using h3.symm)) g3 (tailB_spec hT)
    (fun i o hi ho => f5 i o (Nat.zero_le _) hi ho) (fun γ W hW hl ha => by have := f1 γ W hW hl ha; simpa using this) n (fun _ => undef) (Array.replicate l.toArray.size false) a w.drew (cnt_all _ _)
    { inv := ⟨by simp, fun j oj _ hl => (by rw [getD_replicate_false] at hl; cases hl), fun t _ ht => getD_in (by simpa using ht) (getD_replicate_false _ _)⟩
      defs := rfl, size := rfl
      on := fun i o t _ hl => by rw [getD_replicate_false] at hl; cases hl
      off := fun _ _ => rfl
      below := (Below.refl _ _).drew
      laid := fun x _ hl => by rw [getD_replicate_false] at hl; cases hl
      box := fun x _ _ hl => by rw [getD_replicate_false] at hl; cases hl
      apart := fun x _ _ _ _ _ hl => by rw [getD_replicate_false] at hl; cases hl }
  rwa [show n + (l.toArray.size - n) = l.toArray.size by omega] at this

theorem plainNew {f : FuncId} {args : Array Value} {W : World} {s : St} (h : s.fresh = false) (hc : Calls P f args W fun e w'' => ∃ v, e = .returned v ∧ s.ok v w'' ∧ Below W.heap.size W w'') : Calls P f args W fun e w'' => ∃ v, e = .returned v ∧ s.new W v w'' ∧ Below W.heap.size W w'' :=
  hc.mono fun e w'' ⟨v, h1, h2, h3⟩ => ⟨v, h1, ⟨h2, fun e => by rw [h] at e; cases e⟩, h3⟩
/-- a slice that has just been laid, known cell by cell -/
def newRow (w0 : World) (cs : Array Value) (T : TypeId) (n : Nat) : St where
  ok v W := ∃ g, v = .slice (some ⟨g, 0, none⟩) n n ∧ w0.heap.size ≤ g ∧ W.heap[g]? = some (.cells cs T (0, 0))
  keep v W W2 h hb := by
    obtain ⟨g, h1, h2, h3⟩ := h
    exact ⟨g, h1, h2, (hb.block g (blk_lt' h3)).trans h3⟩
/-- a variable that has just been laid -/
def newBox (w0 : World) (cs : Array Value) (T : TypeId) : St where
  ok v W := ∃ g, v = .pointer (some ⟨g, 0, none⟩) ∧ w0.heap.size ≤ g ∧ W.heap[g]? = some (.cells cs T (0, 0))
  keep v W W2 h hb := by
    obtain ⟨g, h1, h2, h3⟩ := h
    exact ⟨g, h1, h2, (hb.block g (blk_lt' h3)).trans h3⟩
  fresh := true
end
end
end Go.Proofs.Ytijpfnkhaldfeaa
