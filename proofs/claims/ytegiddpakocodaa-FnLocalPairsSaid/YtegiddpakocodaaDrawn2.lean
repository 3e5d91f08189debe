/- A region that draws its order and lays several new blocks among quiet calls, walked once in the text's order. Own theorem over the model's words for any order. -/
import Derived.Test.YtegiddpakocodaaDrawn
namespace Go.Proofs.Ytegiddpakocodaa
open Go.RowKit
set_option linter.unusedVariables false
set_option linter.unusedSimpArgs false

section
variable {P : Program} {ops : Array Oper} {md : Region.Mode}

/-- what an operation lays, and the value that it yields at the new block's number -/
structure New where
  blk : Obj
  val : Nat → Value
def upd (γ : Nat → Nat) (k g : Nat) : Nat → Nat := fun j => if j = k then g else γ j
theorem upd_same (γ : Nat → Nat) (k g : Nat) : upd γ k g k = g := by simp [upd]
theorem upd_other (γ : Nat → Nat) {k j : Nat} (g : Nat) (h : j ≠ k) : upd γ k g j = γ j := by simp [upd, h]
/-- operation i waits for operation k, itself or through others -/
def reachB (md : Region.Mode) (ops : Array Oper) : Nat → Nat → Nat → Bool
  | 0, _, _ => false
  | f + 1, i, k => Region.waitsFor md ops i k || (List.range i).any fun j => Region.waitsFor md ops i j && reachB md ops f j k
theorem reach_listed {n : Nat} {L : Array Bool} (inv : HeadInv md ops n L) : ∀ (f i k : Nat), reachB md ops f i k = true →
    (∀ o, ops[i]? = some o → ∀ e ∈ o.after, Region.binds md e = true → L.getD e.on false = true) → L.getD k false = true
  | 0, i, k, h, _ => by simp [reachB] at h
  | f + 1, i, k, h, hi => by
    have via : ∀ j, Region.waitsFor md ops i j = true → L.getD j false = true := fun j hj => by
      obtain ⟨o, ho, e, he, hb, hon⟩ := Region.waitsFor_spec hj
      have := hi o ho e he hb
      rwa [hon] at this
    simp only [reachB, Bool.or_eq_true, List.any_eq_true, List.mem_range, Bool.and_eq_true] at h
    rcases h with h | ⟨j, _, hj, hr⟩
    · exact via k h
    · exact reach_listed inv f j k hr fun o ho e he hb => inv.closed j o ho (via j hj) e he hb
def guardsB (ops : Array Oper) (n : Nat) : Bool := (List.range n).all fun i => match ops[i]? with
  | none => true
  | some o => o.guard.isNone

/-- what an operation may lean on: the blocks of those new ones that it waits for -/
def preN (md : Region.Mode) (ops : Array Oper) (news : Nat → Option New) (w : World) (i : Nat) (γ : Nat → Nat) (W : World) : Prop :=
  ∀ k nw, reachB md ops 100 i k = true → news k = some nw → w.heap.size ≤ γ k ∧ W.heap[γ k]? = some nw.blk

/-- the text's order, walked once; γ: the new blocks' numbers -/
def wpN (P : Program) (md : Region.Mode) (ops : Array Oper) (news : Nat → Option New) (w : World) (Fin : ((Nat → Nat) → Act) → Prop) : Nat → List Oper → ((Nat → Nat) → Act) → Prop
  | _, [], a => Fin a
  | i, o :: l, a => match news i with
    | some nw => (∀ γ W, (execOp (a γ).eval o).run P W = .ok (.value (nw.val W.heap.size)) (W.alloc nw.blk)) ∧ wpN P md ops news w Fin (i + 1) l (fun γ => (a γ).put o.dst (nw.val (γ i)))
    | none => ∃ v, (∀ γ W, Below w.heap.size w W → preN md ops news w i γ W → o.quietAt P (a γ) (fun W2 => Below W.heap.size W W2) W v) ∧ wpN P md ops news w Fin (i + 1) l (fun γ => (a γ).put o.dst v)

def DepN (ops : Array Oper) (a : (Nat → Nat) → Act) : Prop := ∀ γ k g t, (∀ o, ops[k]? = some o → o.dst ≠ some t) → (a (upd γ k g)).tmps[t]? = (a γ).tmps[t]?

/-- what an operation of the head does, told of the last frame -/
def DoesN (P : Program) (md : Region.Mode) (ops : Array Oper) (news : Nat → Option New) (w : World) (F : (Nat → Nat) → Act) (i : Nat) (o : Oper) : Prop :=
  match news i with
  | some nw => (∀ γ W, (execOp (F γ).eval o).run P W = .ok (.value (nw.val W.heap.size)) (W.alloc nw.blk)) ∧ ∀ γ d, o.dst = some d → (F γ).tmps[d]? = some (nw.val (γ i))
  | none => ∃ v, (∀ γ W, Below w.heap.size w W → preN md ops news w i γ W → o.quietAt P (F γ) (fun W2 => Below W.heap.size W W2) W v) ∧ ∀ γ d, o.dst = some d → (F γ).tmps[d]? = some v

theorem news_does {n : Nat} {w : World} {news : Nat → Option New} {Fin : ((Nat → Nat) → Act) → Prop} (hsel : ∀ (j : Nat) (o : Oper) cs b, ops[j]? = some o → o.op ≠ .select cs b) (hh : ∀ i, i < n → headB md ops n i = true) :
    ∀ (l : List Oper) (k : Nat) (a : (Nat → Nat) → Act), (∀ j, j < l.length → l[j]? = ops[k + j]?) → k + l.length = n → (∀ γ i, i < n → ∀ o d, ops[i]? = some o → o.dst = some d → d < (a γ).tmps.size) → DepN ops a →
    wpN P md ops news w Fin k l a → ∃ F, Fin F ∧ DepN ops F ∧ (∀ γ, (F γ).tmps.size = (a γ).tmps.size ∧ (F γ).defers = (a γ).defers) ∧
      (∀ γ t, (∀ o ∈ l, o.dst ≠ some t) → (F γ).tmps[t]? = (a γ).tmps[t]?) ∧ ∀ i o, k ≤ i → i < n → ops[i]? = some o → DoesN P md ops news w F i o
  | [], k, a, _, hk, _, hdep, h => ⟨a, h, hdep, fun _ => ⟨rfl, rfl⟩, fun _ _ _ => rfl, fun i o hi hin _ => by simp at hk; omega⟩
  | o :: l, k, a, hl, hk, hsz, hdep, h => by
    have h0 : ops[k]? = some o := by simpa using (hl 0 (by simp)).symm
    have hkn : k < n := by simp at hk; omega
    obtain ⟨oi, hoi, hlow, hj⟩ := headB_spec (hh k hkn)
    obtain rfl : o = oi := Option.some.inj (h0.symm.trans hoi)
    have later : ∀ o' ∈ l, ∃ j, k < j ∧ j < n ∧ ops[j]? = some o' := fun o' ho' => by
      obtain ⟨j, hjl, hje⟩ := List.getElem_of_mem ho'
      refine ⟨k + (j + 1), by omega, by simp at hk; omega, ?_⟩
      rw [← hl (j + 1) (by simp; omega), ← hje]
      simp [List.getElem?_eq_getElem hjl]
    -- the rest of the walk, whatever the value
    have rest : ∀ a' : (Nat → Nat) → Act, (∀ γ, ∃ v, a' γ = (a γ).put o.dst v) → DepN ops a' → wpN P md ops news w Fin (k + 1) l a' →
        ∃ F, Fin F ∧ DepN ops F ∧ (∀ γ, (F γ).tmps.size = (a γ).tmps.size ∧ (F γ).defers = (a γ).defers) ∧ (∀ γ t, (∀ o' ∈ l, o'.dst ≠ some t) → (F γ).tmps[t]? = (a' γ).tmps[t]?) ∧
          (∀ γ t, (∀ o' ∈ o :: l, o'.dst ≠ some t) → (F γ).tmps[t]? = (a γ).tmps[t]?) ∧ (∀ i o, k + 1 ≤ i → i < n → ops[i]? = some o → DoesN P md ops news w F i o) ∧
          (∀ γ, ∀ t ∈ o.looksAt ops, (a γ).tmps[t]? = (F γ).tmps[t]?) ∧ (∀ γ d v, o.dst = some d → a' γ = (a γ).put o.dst v → (F γ).tmps[d]? = some v) := fun a' hput hdep' hw => by
      have hs : ∀ γ, (a' γ).tmps.size = (a γ).tmps.size ∧ (a' γ).defers = (a γ).defers := fun γ => by
        obtain ⟨v, hv⟩ := hput γ
        rw [hv]; exact ⟨put_size .., put_defs ..⟩
      obtain ⟨F, f1, f2, f3, f4, f5⟩ := news_does hsel hh l (k + 1) a' (fun j hj' => by have := hl (j + 1) (by simp; omega); simpa [Nat.add_assoc, Nat.add_comm 1 j] using this) (by simp at hk; omega)
        (fun γ i hi o' d ho' hd => by rw [(hs γ).1]; exact hsz γ i hi o' d ho' hd) hdep' hw
      have hoff : ∀ γ t, (∀ o' ∈ o :: l, o'.dst ≠ some t) → (F γ).tmps[t]? = (a γ).tmps[t]? := fun γ t ht => by
        rw [f4 γ t fun o' ho' => ht o' (List.mem_cons_of_mem _ ho')]
        obtain ⟨v, hv⟩ := hput γ
        rw [hv, put_at, if_neg (fun hh => ht o (List.mem_cons_self ..) hh.1)]
      refine ⟨F, f1, f2, fun γ => ⟨(f3 γ).1.trans (hs γ).1, (f3 γ).2.trans (hs γ).2⟩, f4, hoff, f5, fun γ t ht => ?_, fun γ d v hd hv => ?_⟩
      · refine (hoff γ t fun o' ho' hd => ?_).symm
        have : ∃ j, k ≤ j ∧ j < n ∧ ops[j]? = some o' := by
          rcases List.mem_cons.1 ho' with rfl | ho'
          · exact ⟨k, Nat.le_refl _, hkn, h0⟩
          · obtain ⟨j, h1, h2, h3⟩ := later o' ho'
            exact ⟨j, by omega, h2, h3⟩
        obtain ⟨j, hkj, hjn, hjo⟩ := this
        obtain ⟨oj, hoj, h3⟩ := hj j hjn
        obtain rfl : o' = oj := Option.some.inj (hjo.symm.trans hoj)
        obtain ⟨ow, how, e, he, hb, hon⟩ := Region.waitsFor_spec ((h3 t hd).1 ht)
        obtain rfl : o = ow := Option.some.inj (h0.symm.trans how)
        have := hlow e he hb
        omega
      · rw [f4 γ d fun o' ho' hd' => ?_, hv, put_at, if_pos ⟨hd, hsz γ k hkn o d h0 hd⟩]
        obtain ⟨j, h1, h2, h3⟩ := later o' ho'
        obtain ⟨oj, hoj, h4⟩ := hj j h2
        obtain rfl : o' = oj := Option.some.inj (h3.symm.trans hoj)
        exact (h4 d hd').2 (by omega) hd
    unfold wpN at h
    split at h
    · rename_i nw hnw
      obtain ⟨hrun, hw⟩ := h
      have hdep' : DepN ops (fun γ => (a γ).put o.dst (nw.val (γ k))) := fun γ k' g t ht => by
        show ((a (upd γ k' g)).put o.dst (nw.val (upd γ k' g k))).tmps[t]? = ((a γ).put o.dst (nw.val (γ k))).tmps[t]?
        rw [put_at, put_at, hdep γ k' g t ht]
        by_cases hc : o.dst = some t
        · have hkk : k ≠ k' := fun e => by subst e; exact ht o h0 hc
          rw [upd_other γ g hkk, if_pos ⟨hc, hsz _ k hkn o t h0 hc⟩, if_pos ⟨hc, hsz _ k hkn o t h0 hc⟩]
        · rw [if_neg (fun hh => hc hh.1), if_neg (fun hh => hc hh.1)]
      obtain ⟨F, f1, f2, f3, f4, f5, f6, f7, f8⟩ := rest _ (fun γ => ⟨_, rfl⟩) hdep' hw
      refine ⟨F, f1, f2, f3, f5, fun i oi hi hin hoi2 => ?_⟩
      by_cases hik : i = k
      · subst hik
        obtain rfl : o = oi := Option.some.inj (h0.symm.trans hoi2)
        unfold DoesN
        rw [hnw]
        refine ⟨fun γ W => ?_, fun γ d hd => f8 γ d _ hd rfl⟩
        rw [← (same_exec (hsel i o · · h0) (f7 γ)).1]
        exact hrun γ W
      · exact f6 i oi (by omega) hin hoi2
    · rename_i hnw
      obtain ⟨v, hq, hw⟩ := h
      have hdep' : DepN ops (fun γ => (a γ).put o.dst v) := fun γ k' g t ht => by
        show ((a (upd γ k' g)).put o.dst v).tmps[t]? = ((a γ).put o.dst v).tmps[t]?
        rw [put_at, put_at, hdep γ k' g t ht]
        by_cases hc : o.dst = some t
        · rw [if_pos ⟨hc, hsz _ k hkn o t h0 hc⟩, if_pos ⟨hc, hsz _ k hkn o t h0 hc⟩]
        · rw [if_neg (fun hh => hc hh.1), if_neg (fun hh => hc hh.1)]
      obtain ⟨F, f1, f2, f3, f4, f5, f6, f7, f8⟩ := rest _ (fun γ => ⟨_, rfl⟩) hdep' hw
      refine ⟨F, f1, f2, f3, f5, fun i oi hi hin hoi2 => ?_⟩
      by_cases hik : i = k
      · subst hik
        obtain rfl : o = oi := Option.some.inj (h0.symm.trans hoi2)
        unfold DoesN
        rw [hnw]
        refine ⟨v, fun γ W hW hpre => ?_, fun γ d hd => f8 γ d _ hd rfl⟩
        have := hq γ W hW hpre
        unfold Oper.quietAt at this ⊢
        rwa [← (same_exec (hsel i o · · h0) (f7 γ)).1]
      · exact f6 i oi (by omega) hin hoi2

/-- where a walk in any order stands -/
structure StandsN (md : Region.Mode) (ops : Array Oper) (n : Nat) (w : World) (news : Nat → Option New) (a0 : Act) (F : (Nat → Nat) → Act) (γ : Nat → Nat) (L : Array Bool) (a : Act) (W : World) : Prop where
  inv : HeadInv md ops n L
  defs : a.defers = a0.defers
  size : a.tmps.size = a0.tmps.size
  on : ∀ i o t, i < n → L.getD i false = true → ops[i]? = some o → o.dst = some t → a.tmps[t]? = (F γ).tmps[t]?
  off : ∀ t, (∀ i o, i < n → L.getD i false = true → ops[i]? = some o → o.dst ≠ some t) → a.tmps[t]? = a0.tmps[t]?
  below : Below w.heap.size w W
  laid : ∀ k nw, k < n → L.getD k false = true → news k = some nw → w.heap.size ≤ γ k ∧ W.heap[γ k]? = some nw.blk

theorem reach_lt {n : Nat} (hlow : ∀ i, i < n → ∀ j, Region.waitsFor md ops i j = true → j < i) : ∀ (f i k : Nat), i < n → reachB md ops f i k = true → k < i
  | 0, i, k, _, h => by simp [reachB] at h
  | f + 1, i, k, hi, h => by
    simp only [reachB, Bool.or_eq_true, List.any_eq_true, List.mem_range, Bool.and_eq_true] at h
    rcases h with h | ⟨j, hj, hw, hr⟩
    · exact hlow i hi k h
    · have := reach_lt hlow f j k (by omega) hr
      omega

theorem news_any {Q : Exit → Act → World → Prop} {n : Nat} {w : World} {news : Nat → Option New} {a0 : Act} {F : (Nat → Nat) → Act}
    (hB : drawnB md ops n = true) (hG : guardsB ops n = true) (hD : dstB ops n a0.tmps.size = true) (hdep : DepN ops F) (hFs : ∀ γ, (F γ).tmps.size = a0.tmps.size ∧ (F γ).defers = a0.defers)
    (hFoff : ∀ γ t, (∀ i o, i < n → ops[i]? = some o → o.dst ≠ some t) → (F γ).tmps[t]? = a0.tmps[t]?)
    (does : ∀ i o, i < n → ops[i]? = some o → DoesN P md ops news w F i o)
    (h2 : ∀ γ W, Below w.heap.size w W → (∀ k nw, k < n → news k = some nw → w.heap.size ≤ γ k ∧ W.heap[γ k]? = some nw.blk) → wpList P ops Q (ops.toList.drop n) (F γ) W) :
    ∀ (c : Nat) (γ : Nat → Nat) (L : Array Bool) (a : Act) (W : World), cntOff L n = c → StandsN md ops n w news a0 F γ L a W → wpAny P md ops Q (c + (ops.size - n)) L a W := by
  simp only [drawnB, Bool.and_eq_true, decide_eq_true_eq, List.all_eq_true, List.mem_range] at hB
  obtain ⟨⟨⟨⟨⟨hsel0, hms⟩, hsink⟩, hchain⟩, hseq⟩, hheads⟩ := hB
  have hsel := Region.noSelect_spec hsel0
  have hsz : ∀ i, i < n → ∀ o t, ops[i]? = some o → o.dst = some t → t < a0.tmps.size := fun i hi o t ho ht => by
    have := List.all_eq_true.1 hD i (List.mem_range.2 hi)
    simpa [ho, ht] using this
  have hlowW : ∀ i, i < n → ∀ j, Region.waitsFor md ops i j = true → j < i := fun i hi j hj => by
    obtain ⟨o, ho, e, he, hb, hon⟩ := Region.waitsFor_spec hj
    obtain ⟨o', ho', hlow, _⟩ := headB_spec (hheads i hi)
    obtain rfl : o = o' := Option.some.inj (ho.symm.trans ho')
    have := hlow e he hb
    omega
  intro c
  induction c with
  | zero =>
    intro γ L a W hc st
    have hall := cnt_zero hc
    have hL : L = firstOn ops.size n := by
      apply Array.ext
      · rw [st.inv.size]; simp [firstOn]
      · intro i h3 h4
        by_cases him : i < n
        · have := hall i him
          simp [h3] at this
          simp [firstOn, him, this]
        · have := st.inv.tail i (by omega) (by rw [← st.inv.size]; exact h3)
          simp [h3] at this
          simp [firstOn, him, this]
    have hdl : (ops.toList.drop n).length = ops.size - n := by simp
    have haF : a = F γ := by
      have htm : a.tmps = (F γ).tmps := by
        apply Array.ext_getElem?
        intro t
        by_cases hex : ∃ i o, i < n ∧ ops[i]? = some o ∧ o.dst = some t
        · obtain ⟨i, o', hi, ho', ht⟩ := hex
          exact st.on i o' t hi (hall i hi) ho' ht
        · rw [st.off t fun i o' hi _ ho' ht => hex ⟨i, o', hi, ho', ht⟩, hFoff γ t fun i o' hi ho' ht => hex ⟨i, o', hi, ho', ht⟩]
      have hdef : a.defers = (F γ).defers := by rw [st.defs, (hFs γ).2]
      cases a
      generalize F γ = f at *
      cases f
      simp_all
    subst haF
    rw [Nat.zero_add, ← hdl]
    exact wpAny_of_seq (ops.toList.drop n) n L (F γ) W (fun j => by simp [List.getElem?_drop]) (by rw [hdl, hL]; exact hseq) (h2 γ W st.below fun k nw hk hn => st.laid k nw hk (hall k hk) hn)
  | succ c ih =>
    intro γ L a W hc st
    rw [show c + 1 + (ops.size - n) = (c + (ops.size - n)) + 1 by omega]
    obtain ⟨i0, hi0, hoff0⟩ := cnt_off (L := L) (m := n) (by omega)
    have hun0 : L.getD i0 true = false := getD_in (by rw [st.inv.size]; omega) hoff0
    refine ⟨fun hno => ?_, fun i hi => ?_⟩
    · exfalso
      have : ∀ k, k < n → L.getD k false = true := by
        intro k
        induction k using Nat.strongRecOn with
        | _ k ihk =>
          intro hk
          rcases hkl : L.getD k false with _ | _
          · obtain ⟨o, ho, hlow, _⟩ := headB_spec (hheads k hk)
            have : k ∈ Region.ready md ops L := mem_ready.2 ⟨getD_in (by rw [st.inv.size]; omega) hkl, o, ho, fun e he hb => ihk e.on (hlow e he hb) (by have := hlow e he hb; omega)⟩
            rw [hno] at this
            cases this
          · rfl
      rw [this i0 hi0] at hoff0
      cases hoff0
    · have him : i < n := by
        rcases Nat.lt_or_ge i n with h' | h'
        · exact h'
        · exact absurd hi (tail_waits hsink hchain hms st.inv _ i0 rfl hi0 hun0 i h')
      obtain ⟨hui, o, ho, hedges⟩ := mem_ready.1 hi
      have hcnt : cntOff (L.setIfInBounds i true) n = c := by have := cnt_set hui him; omega
      have hinv := st.inv.set hi him
      obtain ⟨o', ho', hlow, hj⟩ := headB_spec (hheads i him)
      obtain rfl : o = o' := Option.some.inj (ho.symm.trans ho')
      have hguard : o.guard = none := by
        have := List.all_eq_true.1 hG i (List.mem_range.2 him)
        simpa [ho] using this
      have hw : Region.wanted o (yielded ops a.tmps) = true := by simp [Region.wanted, hguard]
      have hnoti : L.getD i false = false := getD_both hui
      unfold wpOp
      simp only [ho]
      rw [if_pos hw]
      have hlook : ∀ t ∈ o.looksAt ops, a.tmps[t]? = (F γ).tmps[t]? := fun t ht => by
        by_cases hex : ∃ j oj, j < n ∧ ops[j]? = some oj ∧ oj.dst = some t
        · obtain ⟨j, oj, hjm, hoj, hjt⟩ := hex
          obtain ⟨oj', hoj', h3⟩ := hj j hjm
          obtain rfl : oj = oj' := Option.some.inj (hoj.symm.trans hoj')
          obtain ⟨ow, how, e, he, hb, hon⟩ := Region.waitsFor_spec ((h3 t hjt).1 ht)
          obtain rfl : o = ow := Option.some.inj (ho.symm.trans how)
          have h5 := hedges e he hb
          rw [hon] at h5
          exact st.on j oj t hjm h5 hoj hjt
        · rw [st.off t fun j oj hjm _ hoj hjt => hex ⟨j, oj, hjm, hoj, hjt⟩, hFoff γ t fun j oj hjn hoj hjt => hex ⟨j, oj, hjn, hoj, hjt⟩]
      obtain ⟨s1, s2⟩ := same_exec (hsel i o · · ho) hlook
      have hDo := does i o him ho
      -- the walk goes on
      have next : ∀ (γ' : Nat → Nat) (v : Value) (W2 : World), (∀ t, o.dst ≠ some t → (F γ').tmps[t]? = (F γ).tmps[t]?) → (∀ t, o.dst = some t → (F γ').tmps[t]? = some v) → Below w.heap.size w W2 →
          (∀ k nw, k < n → (L.setIfInBounds i true).getD k false = true → news k = some nw → w.heap.size ≤ γ' k ∧ W2.heap[γ' k]? = some nw.blk) → StandsN md ops n w news a0 F γ' (L.setIfInBounds i true) (a.put o.dst v) W2 := fun γ' v W2 hsame hv hW2 hlaid =>
        { inv := hinv
          defs := by rw [put_defs]; exact st.defs
          size := by rw [put_size]; exact st.size
          on := fun k ok t hk hkl hok hkt => by
            rw [put_at]
            by_cases hot : o.dst = some t
            · rw [if_pos ⟨hot, by rw [st.size]; exact hsz i him o t ho hot⟩, hv t hot]
            · rw [if_neg (fun hh => hot hh.1), hsame t hot]
              rcases set_listed hkl with rfl | hkl
              · rw [ho] at hok
                obtain rfl := Option.some.inj hok
                exact absurd hkt hot
              · exact st.on k ok t hk hkl hok hkt
          off := fun t ht => by
            have hot : o.dst ≠ some t := ht i o him (by have : i < L.size := by rw [st.inv.size]; omega
                                                        simp [this]) ho
            rw [put_at, if_neg (fun hh => hot hh.1)]
            exact st.off t fun k ok hk hkl hok => ht k ok hk (getD_set_true hkl) hok
          below := hW2
          laid := hlaid }
      unfold DoesN at hDo
      split at hDo
      · rename_i nw hnw
        obtain ⟨hrun, hslot⟩ := hDo
        refine .inl ?_
        unfold Oper.wp
        rw [s1, hrun γ W]
        refine ih (upd γ i W.heap.size) _ _ _ hcnt (next (upd γ i W.heap.size) (nw.val W.heap.size) _ (fun t ht => hdep γ i W.heap.size t fun o2 ho2 => by rw [ho] at ho2; obtain rfl := Option.some.inj ho2; exact ht)
          (fun t ht => by rw [hslot _ t ht, upd_same]) (st.below.alloc st.below.size _) fun k nw' hk hkl hn => ?_)
        rcases set_listed hkl with rfl | hkl2
        · rw [hnw] at hn
          obtain rfl := Option.some.inj hn
          rw [upd_same]
          exact ⟨st.below.size, heap_alloc_new W _⟩
        · have hki : k ≠ i := fun e => by subst e; rw [hnoti] at hkl2; cases hkl2
          rw [upd_other γ _ hki]
          obtain ⟨h3, h4⟩ := st.laid k nw' hk hkl2 hn
          exact ⟨h3, (heap_alloc_old W _ (blk_lt' h4)).trans h4⟩
      · rename_i hnw
        obtain ⟨v, hq, hslot⟩ := hDo
        have hpre : preN md ops news w i γ W := fun k nw hr hn => by
          have hki := reach_lt hlowW 100 i k him hr
          exact st.laid k nw (by omega) (reach_listed st.inv 100 i k hr fun o2 ho2 e he hb => by rw [ho] at ho2; obtain rfl := Option.some.inj ho2; exact hedges e he hb) hn
        refine .inl (wp_of_at (v := v) ?_ fun W2 hW2 => ih γ _ _ _ hcnt (next γ v W2 (fun _ _ => rfl) (fun t ht => hslot γ t ht) (st.below.trans (hW2.mono st.below.size)) fun k nw hk hkl hn => ?_))
        · have := hq γ W st.below hpre
          unfold Oper.quietAt at this ⊢
          rwa [s1]
        · rcases set_listed hkl with rfl | hkl
          · rw [hnw] at hn; cases hn
          · obtain ⟨h3, h4⟩ := st.laid k nw hk hkl hn
            exact ⟨h3, (hW2.block _ (blk_lt' h4)).trans h4⟩

/-- **A DRAWN REGION THAT LAYS NEW BLOCKS AMONG QUIET CALLS**: its head (n operations, none guarded) walked once, the rest in sequence. -/
theorem wp_news {id n : Nat} {Q : Exit → Act → World → Prop} {w : World} {a : Act} {l : List Oper} (news : Nat → Option New) (hm : P.follows .mixedOrders = true)
    (hB : drawnB .any l.toArray n = true) (hG : guardsB l.toArray n = true) (hD : dstB l.toArray n a.tmps.size = true)
    (h : wpN P .any l.toArray news w (fun F => ∀ γ W, Below w.heap.size w W → (∀ k nw, k < n → news k = some nw → w.heap.size ≤ γ k ∧ W.heap[γ k]? = some nw.blk) → wpList P l.toArray Q (l.drop n) (F γ) W) 0 (l.take n) (fun _ => a)) :
    (Code.region id l.toArray true).wp P Q a w := by
  refine wp_region_any hm ?_
  have hB' := hB
  simp only [drawnB, Bool.and_eq_true, decide_eq_true_eq, List.all_eq_true, List.mem_range] at hB'
  obtain ⟨⟨⟨⟨⟨hsel0, hms⟩, _⟩, _⟩, _⟩, hheads⟩ := hB'
  have hsel := Region.noSelect_spec hsel0
  have hlen : (l.take n).length = n := by simp at hms ⊢; omega
  have htake : ∀ j, j < (l.take n).length → (l.take n)[j]? = l.toArray[0 + j]? := fun j hj => by
    rw [hlen] at hj
    simp [List.getElem?_take, hj]
  obtain ⟨F, f1, f2, f3, f4, f5⟩ := news_does (md := .any) (ops := l.toArray) (n := n) (fun j o cs b hj => hsel j o cs b hj) (fun i hi => hheads i hi) (l.take n) 0 (fun _ => a) htake (by rw [hlen]; omega)
    (fun γ i hi o d ho hd => by have := List.all_eq_true.1 hD i (List.mem_range.2 hi); simpa [ho, hd] using this) (fun _ _ _ _ _ => rfl) h
  have := news_any (P := P) (Q := Q) (a0 := a) hB hG hD f2 f3 (fun γ t ht => f4 γ t fun o ho => by
      obtain ⟨j, hj, hje⟩ := List.getElem_of_mem ho
      have h3 := htake j hj
      rw [List.getElem?_eq_getElem hj, hje] at h3
      exact ht j o (by rw [hlen] at hj; exact hj) (by simpa using h3.symm))
    (fun i o hi ho => f5 i o (Nat.zero_le _) hi ho) (fun γ W hW hl => by simpa using f1 γ W hW hl) n (fun _ => 0) (Array.replicate l.toArray.size false) a w.drew (cnt_all _ _)
    { inv := ⟨by simp, fun j oj _ hl => (by rw [getD_replicate_false] at hl; cases hl), fun t _ ht => getD_in (by simpa using ht) (getD_replicate_false _ _)⟩
      defs := rfl, size := rfl
      on := fun i o t _ hl => by rw [getD_replicate_false] at hl; cases hl
      off := fun _ _ => rfl
      below := (Below.refl _ _).drew
      laid := fun k nw _ hl => by rw [getD_replicate_false] at hl; cases hl }
  rwa [show n + (l.toArray.size - n) = l.toArray.size by omega] at this
end
end Go.Proofs.Ytegiddpakocodaa
