/- A region that draws its order and whose calls may write what a relation between worlds allows (a cursor's block): walked once in the text's order. Own theorem over the model's words for any order. -/
import Derived.Test.YtegiddpakocodaaDrawn4
namespace Go.Proofs.Ytegiddpakocodaa
open Go.RowKit
set_option linter.unusedVariables false
set_option linter.unusedSimpArgs false

/-- what calls may do between two worlds -/
structure Rel where
  r : Nat → World → World → Prop
  below : ∀ {a b : World}, Below a.heap.size a b → r 0 a b
  trans : ∀ {j k : Nat} {a b c : World}, r j a b → r k b c → r (j + k) a c
  mono : ∀ {j k : Nat} {a b : World}, j ≤ k → r j a b → r k a b
  size : ∀ {k : Nat} {a b : World}, r k a b → a.heap.size ≤ b.heap.size

section
variable {R : Rel} {K B : Nat} {P : Program} {ops : Array Oper} {md : Region.Mode}

/-- what is known of a value that an operation yields; it stays true when the world goes on -/
structure Sr (R : Rel) where
  ok : Value → World → Prop
  keep : ∀ v W W2 k, ok v W → R.r k W W2 → ok v W2
  fresh : Bool := false
/-- what is known of an open operation's value -/
def Sr.new (s : Sr R) (W : World) (u : Value) (W2 : World) : Prop := s.ok u W2 ∧ (s.fresh = true → NewBlk u W W2)
def preR (md : Region.Mode) (ops : Array Oper) (G : List (Nat × Sr R)) (i : Nat) (γ : Nat → Value) (W : World) : Prop := ∀ x ∈ G, reachB md ops 100 i x.1 = true → x.2.ok (γ x.1) W
def openUponR (R : Rel) (K : Nat) (P : Program) (Φ : Value → World → Prop) (W : World) : Result Next → Prop
  | .ok (.value u) w' => Φ u w' ∧ R.r K W w'
  | .ok (.enter f args) w' => w' = W ∧ Calls P f args W fun e w'' => ∃ v, e = .returned v ∧ Φ v w'' ∧ R.r K W w''
  | _ => False
def openAtR (R : Rel) (K : Nat) (P : Program) (o : Oper) (a : Act) (Φ : Value → World → Prop) (W : World) : Prop := openUponR R K P Φ W ((execOp a.eval o).run P W)
/-- the text's order, walked once; γ: the values of the open operations -/
def wpR (K B : Nat) (P : Program) (md : Region.Mode) (ops : Array Oper) (w : World) (Fin : ((Nat → Value) → Act) → List (Nat × Sr R) → Prop) : Nat → List Oper → ((Nat → Value) → Act) → List (Nat × Sr R) → Prop
  | _, [], a, G => Fin a G
  | i, o :: l, a, G =>
    (∃ v : (Nat → Value) → Value, (∀ γ W, R.r B w W → preR md ops G i γ W → Region.wanted o (yielded ops (a γ).tmps) = true ∧ o.quiet P (a γ) (fun W2 => ∃ x : Over W, W2 = x.w) (fun b => b = (a γ).put o.dst (v γ))) ∧ locS md ops i v ∧ wpR K B P md ops w Fin (i + 1) l (fun γ => (a γ).put o.dst (v γ)) G) ∨
    ((∀ γ, Region.wanted o (yielded ops (a γ).tmps) = false) ∧ wpR K B P md ops w Fin (i + 1) l (fun γ => (a γ).put o.dst undef) G) ∨
    (∃ s : Sr R, (∀ γ W, R.r B w W → preR md ops G i γ W → Region.wanted o (yielded ops (a γ).tmps) = true ∧ openAtR R K P o (a γ) (s.new W) W) ∧ wpR K B P md ops w Fin (i + 1) l (fun γ => (a γ).put o.dst (γ i)) (G ++ [(i, s)]))

section steps
variable {w : World} {Fin : ((Nat → Value) → Act) → List (Nat × Sr R) → Prop} {i : Nat} {o : Oper} {l : List Oper} {a : (Nat → Value) → Act} {G : List (Nat × Sr R)}
theorem wpR_quiet {v : (Nat → Value) → Value} (h1 : ∀ γ W, R.r B w W → preR md ops G i γ W → Region.wanted o (yielded ops (a γ).tmps) = true ∧ o.quiet P (a γ) (fun W2 => ∃ x : Over W, W2 = x.w) (fun b => b = (a γ).put o.dst (v γ)))
    (h2 : locS md ops i v) (h3 : wpR K B P md ops w Fin (i + 1) l (fun γ => (a γ).put o.dst (v γ)) G) : wpR K B P md ops w Fin i (o :: l) a G := by
  unfold wpR; exact .inl ⟨v, h1, h2, h3⟩
theorem wpR_skip (h1 : ∀ γ, Region.wanted o (yielded ops (a γ).tmps) = false) (h3 : wpR K B P md ops w Fin (i + 1) l (fun γ => (a γ).put o.dst undef) G) : wpR K B P md ops w Fin i (o :: l) a G := by
  unfold wpR; exact .inr (.inl ⟨h1, h3⟩)
theorem wpR_open (s : Sr R) (h1 : ∀ γ W, R.r B w W → preR md ops G i γ W → Region.wanted o (yielded ops (a γ).tmps) = true ∧ openAtR R K P o (a γ) (s.new W) W)
    (h3 : wpR K B P md ops w Fin (i + 1) l (fun γ => (a γ).put o.dst (γ i)) (G ++ [(i, s)])) : wpR K B P md ops w Fin i (o :: l) a G := by
  unfold wpR; exact .inr (.inr ⟨s, h1, h3⟩)
theorem wpR_end (h : Fin a G) : wpR K B P md ops w Fin i [] a G := by
  unfold wpR; exact h
end steps

/-- what an operation of the head does, told of the last frame -/
def DoesR (K B : Nat) (P : Program) (md : Region.Mode) (ops : Array Oper) (G : List (Nat × Sr R)) (w : World) (F : (Nat → Value) → Act) (i : Nat) (o : Oper) : Prop :=
  ((∀ γ W, R.r B w W → preR md ops G i γ W → Region.wanted o (yielded ops (F γ).tmps) = true ∧ ∃ v, o.quietAt P (F γ) (fun W2 => Below W.heap.size W W2) W v ∧ ∀ d, o.dst = some d → (F γ).tmps[d]? = some v) ∧ (∀ s, (i, s) ∉ G)) ∨
  ((∀ γ, Region.wanted o (yielded ops (F γ).tmps) = false) ∧ (∀ s, (i, s) ∉ G) ∧ ∀ γ d, o.dst = some d → (F γ).tmps[d]? = some undef) ∨
  (∃ s : Sr R, (∀ γ W, R.r B w W → preR md ops G i γ W → Region.wanted o (yielded ops (F γ).tmps) = true ∧ openAtR R K P o (F γ) (s.new W) W) ∧ (i, s) ∈ G ∧ (∀ s', (i, s') ∈ G → s' = s) ∧ ∀ γ d, o.dst = some d → (F γ).tmps[d]? = some (γ i))

theorem openAtR_same {o : Oper} {a b : Act} {Φ : Value → World → Prop} {W : World} (h : execOp a.eval o = execOp b.eval o) : openAtR R K P o a Φ W ↔ openAtR R K P o b Φ W := by
  unfold openAtR; rw [h]
theorem r_does {n : Nat} {w : World} {Fin : ((Nat → Value) → Act) → List (Nat × Sr R) → Prop} (hsel : ∀ (j : Nat) (o : Oper) cs b, ops[j]? = some o → o.op ≠ .select cs b) (hh : ∀ i, i < n → headB md ops n i = true) :
    ∀ (l : List Oper) (k : Nat) (a : (Nat → Value) → Act) (G : List (Nat × Sr R)), (∀ j, j < l.length → l[j]? = ops[k + j]?) → k + l.length = n → (∀ γ i, i < n → ∀ o d, ops[i]? = some o → o.dst = some d → d < (a γ).tmps.size) → DepS md ops a → (∀ x ∈ G, x.1 < k) →
    wpR K B P md ops w Fin k l a G → ∃ F G', Fin F G' ∧ DepS md ops F ∧ (∀ γ, (F γ).tmps.size = (a γ).tmps.size ∧ (F γ).defers = (a γ).defers) ∧
      (∀ γ t, (∀ o ∈ l, o.dst ≠ some t) → (F γ).tmps[t]? = (a γ).tmps[t]?) ∧ (∀ x ∈ G, x ∈ G') ∧ (∀ x ∈ G', x ∈ G ∨ k ≤ x.1) ∧ (∀ x ∈ G', x.1 < n) ∧ ∀ i o, k ≤ i → i < n → ops[i]? = some o → DoesR K B P md ops G' w F i o
  | [], k, a, G, _, hk, _, hdep, hG, h => ⟨a, G, h, hdep, fun _ => ⟨rfl, rfl⟩, fun _ _ _ => rfl, fun x hx => hx, fun x hx => .inl hx, fun x hx => by simp at hk; have := hG x hx; omega, fun i o hi hin _ => by simp at hk; omega⟩
  | o :: l, k, a, G, hl, hk, hsz, hdep, hG, h => by
    have h0 : ops[k]? = some o := by simpa using (hl 0 (by simp)).symm
    have hkn : k < n := by simp at hk; omega
    obtain ⟨oi, hoi, hlow, hj⟩ := headB_spec (hh k hkn)
    obtain rfl : o = oi := Option.some.inj (h0.symm.trans hoi)
    have later : ∀ o' ∈ l, ∃ j, k < j ∧ j < n ∧ ops[j]? = some o' := fun o' ho' => by
      obtain ⟨j, hjl, hje⟩ := List.getElem_of_mem ho'
      refine ⟨k + (j + 1), by omega, by simp at hk; omega, ?_⟩
      rw [← hl (j + 1) (by simp; omega), ← hje]
      simp [List.getElem?_eq_getElem hjl]
    have rest : ∀ (a' : (Nat → Value) → Act) (G1 : List (Nat × Sr R)), (∀ γ, ∃ v, a' γ = (a γ).put o.dst v) → DepS md ops a' → (∀ x ∈ G1, x.1 < k + 1) → wpR K B P md ops w Fin (k + 1) l a' G1 →
        ∃ F G', Fin F G' ∧ DepS md ops F ∧ (∀ γ, (F γ).tmps.size = (a γ).tmps.size ∧ (F γ).defers = (a γ).defers) ∧ 
          (∀ γ t, (∀ o' ∈ o :: l, o'.dst ≠ some t) → (F γ).tmps[t]? = (a γ).tmps[t]?) ∧ (∀ x ∈ G1, x ∈ G') ∧ (∀ x ∈ G', x ∈ G1 ∨ k + 1 ≤ x.1) ∧ (∀ x ∈ G', x.1 < n) ∧ (∀ i o, k + 1 ≤ i → i < n → ops[i]? = some o → DoesR K B P md ops G' w F i o) ∧
          (∀ γ, ∀ t ∈ o.looksAt ops, (a γ).tmps[t]? = (F γ).tmps[t]?) ∧ (∀ γ d v, o.dst = some d → a' γ = (a γ).put o.dst v → (F γ).tmps[d]? = some v) := fun a' G1 hput hdep' hG1 hw => by
      have hs : ∀ γ, (a' γ).tmps.size = (a γ).tmps.size ∧ (a' γ).defers = (a γ).defers := fun γ => by
        obtain ⟨v, hv⟩ := hput γ
        rw [hv]; exact ⟨put_size .., put_defs ..⟩
      obtain ⟨F, G', f1, f2, f3, f4, g1, g2, g3, f5⟩ := r_does hsel hh l (k + 1) a' G1 (fun j hj' => by have := hl (j + 1) (by simp; omega); simpa [Nat.add_assoc, Nat.add_comm 1 j] using this) (by simp at hk; omega)
        (fun γ i hi o' d ho' hd => by rw [(hs γ).1]; exact hsz γ i hi o' d ho' hd) hdep' hG1 hw
      have hoff : ∀ γ t, (∀ o' ∈ o :: l, o'.dst ≠ some t) → (F γ).tmps[t]? = (a γ).tmps[t]? := fun γ t ht => by
        rw [f4 γ t fun o' ho' => ht o' (List.mem_cons_of_mem _ ho')]
        obtain ⟨v, hv⟩ := hput γ
        rw [hv, put_at, if_neg (fun hh => ht o (List.mem_cons_self ..) hh.1)]
      refine ⟨F, G', f1, f2, fun γ => ⟨(f3 γ).1.trans (hs γ).1, (f3 γ).2.trans (hs γ).2⟩, hoff, g1, g2, g3, f5, fun γ t ht => ?_, fun γ d v hd hv => ?_⟩
      · refine (hoff γ t fun o' ho' hd => ?_).symm
        have : ∃ j, k ≤ j ∧ j < n ∧ ops[j]? = some o' := by
          rcases List.mem_cons.1 ho' with rfl | ho'
          · exact ⟨k, Nat.le_refl _, hkn, h0⟩
          · obtain ⟨j, h1, h2, h3⟩ := later o' ho'
            exact ⟨j, by omega, h2, h3⟩
        obtain ⟨j, hkj, hjn, hjo⟩ := this
        obtain ⟨oj, hoj, h3⟩ := hj j hjn
        obtain rfl : o' = oj := Option.some.inj (hjo.symm.trans hoj)
        obtain ⟨ow, how, e, he, hb, hon⟩ := Region.waitsFor_spec ((h3 t hd).1 ht)
        obtain rfl : o = ow := Option.some.inj (h0.symm.trans how)
        have := hlow e he hb
        omega
      · rw [f4 γ d fun o' ho' hd' => ?_, hv, put_at, if_pos ⟨hd, hsz γ k hkn o d h0 hd⟩]
        obtain ⟨j, h1, h2, h3⟩ := later o' ho'
        obtain ⟨oj, hoj, h4⟩ := hj j h2
        obtain rfl : o' = oj := Option.some.inj (h3.symm.trans hoj)
        exact (h4 d hd').2 (by omega) hd
    have hpre : ∀ (G1 G' : List (Nat × Sr R)) γ W, (∀ x ∈ G1, x ∈ G') → preR md ops G' k γ W → preR md ops G1 k γ W := fun G1 G' γ W hsub hp x hx hr => hp x (hsub x hx) hr
    unfold wpR at h
    rcases h with ⟨v, hq, hloc, hw⟩ | ⟨hno, hw⟩ | ⟨s, hq, hw⟩
    · have hdep' : DepS md ops (fun γ => (a γ).put o.dst (v γ)) := fun γ k' g t ht => by
        show ((a (updV γ k' g)).put o.dst (v (updV γ k' g))).tmps[t]? = ((a γ).put o.dst (v γ)).tmps[t]?
        rw [put_at, put_at, hdep γ k' g t ht]
        by_cases hc : o.dst = some t
        · rw [if_pos ⟨hc, hsz _ k hkn o t h0 hc⟩, if_pos ⟨hc, hsz _ k hkn o t h0 hc⟩, hloc γ k' g (ht k o h0 hc).2]
        · rw [if_neg (fun hh => hc hh.1), if_neg (fun hh => hc hh.1)]
      obtain ⟨F, G', f1, f2, f3, f5, g1, g2, g3, f6, f7, f8⟩ := rest _ G (fun γ => ⟨_, rfl⟩) hdep' (fun x hx => by have := hG x hx; omega) hw
      refine ⟨F, G', f1, f2, f3, f5, g1, fun x hx => (g2 x hx).imp id (fun h => by omega), g3, fun i oi hi hin hoi2 => ?_⟩
      by_cases hik : i = k
      · subst hik
        obtain rfl : o = oi := Option.some.inj (h0.symm.trans hoi2)
        refine .inl ⟨fun γ W hW hp => ?_, fun s hs => ?_⟩
        · obtain ⟨h1, u, h2, h3⟩ := hq γ W hW (hpre _ _ γ W g1 hp)
          obtain ⟨s1, s2⟩ := same_exec (hsel i o · · h0) (f7 γ)
          have h4 := h2 W ⟨⟨W, Below.refl _ _⟩, rfl⟩
          have hc : (fun W2 => ∃ x : Over W, W2 = x.w) = (fun W2 => Below W.heap.size W W2) := funext fun W2 => propext ⟨fun ⟨x, hx⟩ => hx ▸ x.lies, fun h => ⟨⟨W2, h⟩, rfl⟩⟩
          rw [hc] at h4
          refine ⟨by rw [← s2]; exact h1, u, (quietAt_same s1).1 h4, fun d hd => ?_⟩
          have h5 : ((a γ).put o.dst u).tmps[d]? = ((a γ).put o.dst (v γ)).tmps[d]? := by rw [h3]
          rw [put_at, put_at, if_pos ⟨hd, hsz γ i hkn o d h0 hd⟩, if_pos ⟨hd, hsz γ i hkn o d h0 hd⟩] at h5
          rw [f8 γ d _ hd rfl, ← h5]
        · rcases g2 _ hs with h | h
          · have := hG _ h; simp at this
          · simp at h; omega
      · exact f6 i oi (by omega) hin hoi2
    · have hdep' : DepS md ops (fun γ => (a γ).put o.dst undef) := fun γ k' g t ht => by
        show ((a (updV γ k' g)).put o.dst undef).tmps[t]? = ((a γ).put o.dst undef).tmps[t]?
        rw [put_at, put_at, hdep γ k' g t ht]
        by_cases hc : o.dst = some t
        · rw [if_pos ⟨hc, hsz _ k hkn o t h0 hc⟩, if_pos ⟨hc, hsz _ k hkn o t h0 hc⟩]
        · rw [if_neg (fun hh => hc hh.1), if_neg (fun hh => hc hh.1)]
      obtain ⟨F, G', f1, f2, f3, f5, g1, g2, g3, f6, f7, f8⟩ := rest _ G (fun γ => ⟨_, rfl⟩) hdep' (fun x hx => by have := hG x hx; omega) hw
      refine ⟨F, G', f1, f2, f3, f5, g1, fun x hx => (g2 x hx).imp id (fun h => by omega), g3, fun i oi hi hin hoi2 => ?_⟩
      by_cases hik : i = k
      · subst hik
        obtain rfl : o = oi := Option.some.inj (h0.symm.trans hoi2)
        refine .inr (.inl ⟨fun γ => ?_, fun s hs => ?_, fun γ d hd => f8 γ d _ hd rfl⟩)
        · rw [← (same_exec (hsel i o · · h0) (f7 γ)).2]; exact hno γ
        · rcases g2 _ hs with h | h
          · have := hG _ h; simp at this
          · simp at h; omega
      · exact f6 i oi (by omega) hin hoi2
    · have hdep' : DepS md ops (fun γ => (a γ).put o.dst (γ k)) := fun γ k' g t ht => by
        show ((a (updV γ k' g)).put o.dst (updV γ k' g k)).tmps[t]? = ((a γ).put o.dst (γ k)).tmps[t]?
        rw [put_at, put_at, hdep γ k' g t ht]
        by_cases hc : o.dst = some t
        · rw [if_pos ⟨hc, hsz _ k hkn o t h0 hc⟩, if_pos ⟨hc, hsz _ k hkn o t h0 hc⟩, updV_other γ g (ht k o h0 hc).1]
        · rw [if_neg (fun hh => hc hh.1), if_neg (fun hh => hc hh.1)]
      obtain ⟨F, G', f1, f2, f3, f5, g1, g2, g3, f6, f7, f8⟩ := rest _ (G ++ [(k, s)]) (fun γ => ⟨_, rfl⟩) hdep' (fun x hx => by
        rcases List.mem_append.1 hx with h | h
        · have := hG x h; omega
        · simp at h; subst h; simp) hw
      have hks : ∀ s', (k, s') ∈ G' → s' = s := fun s' hs => by
        rcases g2 _ hs with h | h
        · rcases List.mem_append.1 h with h | h
          · have := hG _ h; simp at this
          · simpa using h
        · simp at h; omega
      refine ⟨F, G', f1, f2, f3, f5, fun x hx => g1 x (by simp [hx]), fun x hx => ?_, g3, fun i oi hi hin hoi2 => ?_⟩
      · rcases g2 x hx with h | h
        · rcases List.mem_append.1 h with h | h
          · exact .inl h
          · simp at h; subst h; right; simp
        · right; omega
      · by_cases hik : i = k
        · subst hik
          obtain rfl : o = oi := Option.some.inj (h0.symm.trans hoi2)
          refine .inr (.inr ⟨s, fun γ W hW hp => ?_, g1 _ (by simp), hks, fun γ d hd => f8 γ d _ hd rfl⟩)
          obtain ⟨h1, h2⟩ := hq γ W hW (fun x hx hr => hp x (g1 x (by simp [hx])) hr)
          obtain ⟨s1, s2⟩ := same_exec (hsel i o · · h0) (f7 γ)
          exact ⟨by rw [← s2]; exact h1, (openAtR_same s1).1 h2⟩
        · exact f6 i oi (by omega) hin hoi2

/-- where a walk in any order stands -/
structure StandsR (K : Nat) (md : Region.Mode) (ops : Array Oper) (n : Nat) (w : World) (G : List (Nat × Sr R)) (a0 : Act) (F : (Nat → Value) → Act) (γ : Nat → Value) (L : Array Bool) (a : Act) (W : World) : Prop where
  inv : HeadInv md ops n L
  defs : a.defers = a0.defers
  size : a.tmps.size = a0.tmps.size
  on : ∀ i o t, i < n → L.getD i false = true → ops[i]? = some o → o.dst = some t → a.tmps[t]? = (F γ).tmps[t]?
  off : ∀ t, (∀ i o, i < n → L.getD i false = true → ops[i]? = some o → o.dst ≠ some t) → a.tmps[t]? = a0.tmps[t]?
  below : ∃ j, j + cntOff L n ≤ n ∧ R.r (K * j) w W
  laid : ∀ x ∈ G, L.getD x.1 false = true → x.2.ok (γ x.1) W
  box : ∀ x ∈ G, x.2.fresh = true → L.getD x.1 false = true → ∃ g, γ x.1 = .pointer (some ⟨g, 0, none⟩) ∧ g < W.heap.size
  apart : ∀ x ∈ G, ∀ y ∈ G, x.2.fresh = true → y.2.fresh = true → L.getD x.1 false = true → L.getD y.1 false = true → x.1 ≠ y.1 → γ x.1 ≠ γ y.1

theorem wp_of_openR {o : Oper} {a : Act} {W : World} {Φ : Value → World → Prop} {C : Act → World → Prop} {Q : Exit → Act → World → Prop} (h : openAtR R K P o a Φ W)
    (hK : ∀ v W2, Φ v W2 → R.r K W W2 → C (a.put o.dst v) W2) : o.wp P a W C Q := by
  unfold openAtR at h
  unfold Oper.wp
  generalize (execOp a.eval o).run P W = r at *
  cases r with
  | ok x w' =>
    cases x <;> simp only [openUponR] at h <;> simp only [Oper.upon]
    case value u => exact hK _ _ h.1 h.2
    case enter f args =>
      obtain ⟨e1, hc⟩ := h
      subst e1
      exact hc.mono fun e w'' ⟨v, he, h1, h2⟩ => by subst he; exact hK _ _ h1 h2
  | halt x w' => simp only [openUponR] at h

theorem r_any {Q : Exit → Act → World → Prop} {n : Nat} (hKB : K * n ≤ B) {w : World} {G : List (Nat × Sr R)} {a0 : Act} {F : (Nat → Value) → Act}
    (hB : drawnB md ops n = true) (hD : dstB ops n a0.tmps.size = true) (hdep : DepS md ops F) (hFs : ∀ γ, (F γ).tmps.size = a0.tmps.size ∧ (F γ).defers = a0.defers)
    (hFoff : ∀ γ t, (∀ i o, i < n → ops[i]? = some o → o.dst ≠ some t) → (F γ).tmps[t]? = a0.tmps[t]?) (hGn : ∀ x ∈ G, x.1 < n) (htail : ∀ j oj t, n ≤ j → ops[j]? = some oj → oj.dst = some t → ∀ i oi, i < n → ops[i]? = some oi → oi.dst ≠ some t)
    (does : ∀ i o, i < n → ops[i]? = some o → DoesR K B P md ops G w F i o)
    (h2 : ∀ γ W, R.r B w W → (∀ x ∈ G, x.2.ok (γ x.1) W) → (∀ x ∈ G, ∀ y ∈ G, x.2.fresh = true → y.2.fresh = true → x.1 ≠ y.1 → γ x.1 ≠ γ y.1) → wpList P ops Q (ops.toList.drop n) (F γ) W) :
    ∀ (c : Nat) (γ : Nat → Value) (L : Array Bool) (a : Act) (W : World), cntOff L n = c → StandsR K md ops n w G a0 F γ L a W → wpAny P md ops Q (c + (ops.size - n)) L a W := by
  simp only [drawnB, Bool.and_eq_true, decide_eq_true_eq, List.all_eq_true, List.mem_range] at hB
  obtain ⟨⟨⟨⟨⟨hsel0, hms⟩, hsink⟩, hchain⟩, hseq⟩, hheads⟩ := hB
  have hsel := Region.noSelect_spec hsel0
  have hsz : ∀ i, i < n → ∀ o t, ops[i]? = some o → o.dst = some t → t < a0.tmps.size := fun i hi o t ho ht => by
    have := List.all_eq_true.1 hD i (List.mem_range.2 hi)
    simpa [ho, ht] using this
  have hlowW : ∀ i, i < n → ∀ j, Region.waitsFor md ops i j = true → j < i := fun i hi j hj => by
    obtain ⟨o, ho, e, he, hb, hon⟩ := Region.waitsFor_spec hj
    obtain ⟨o', ho', hlow, _⟩ := headB_spec (hheads i hi)
    obtain rfl : o = o' := Option.some.inj (ho.symm.trans ho')
    have := hlow e he hb
    omega
  intro c
  induction c with
  | zero =>
    intro γ L a W hc st
    have hBW : R.r B w W := by
      obtain ⟨j, h1, h2⟩ := st.below
      exact R.mono (Nat.le_trans (Nat.mul_le_mul_left K (by omega)) hKB) h2
    have hall := cnt_zero hc
    have hL : L = firstOn ops.size n := by
      apply Array.ext
      · rw [st.inv.size]; simp [firstOn]
      · intro i h3 h4
        by_cases him : i < n
        · have := hall i him
          simp [h3] at this
          simp [firstOn, him, this]
        · have := st.inv.tail i (by omega) (by rw [← st.inv.size]; exact h3)
          simp [h3] at this
          simp [firstOn, him, this]
    have hdl : (ops.toList.drop n).length = ops.size - n := by simp
    have haF : a = F γ := by
      have htm : a.tmps = (F γ).tmps := by
        apply Array.ext_getElem?
        intro t
        by_cases hex : ∃ i o, i < n ∧ ops[i]? = some o ∧ o.dst = some t
        · obtain ⟨i, o', hi, ho', ht⟩ := hex
          exact st.on i o' t hi (hall i hi) ho' ht
        · rw [st.off t fun i o' hi _ ho' ht => hex ⟨i, o', hi, ho', ht⟩, hFoff γ t fun i o' hi ho' ht => hex ⟨i, o', hi, ho', ht⟩]
      have hdef : a.defers = (F γ).defers := by rw [st.defs, (hFs γ).2]
      cases a
      generalize F γ = f at *
      cases f
      simp_all
    subst haF
    rw [Nat.zero_add, ← hdl]
    exact wpAny_of_seq (ops.toList.drop n) n L (F γ) W (fun j => by simp [List.getElem?_drop]) (by rw [hdl, hL]; exact hseq) (h2 γ W hBW (fun x hx => st.laid x hx (hall x.1 (hGn x hx))) fun x hx y hy fx fy hne => st.apart x hx y hy fx fy (hall x.1 (hGn x hx)) (hall y.1 (hGn y hy)) hne)
  | succ c ih =>
    intro γ L a W hc st
    have hBW : R.r B w W := by
      obtain ⟨j, h1, h2⟩ := st.below
      exact R.mono (Nat.le_trans (Nat.mul_le_mul_left K (by omega)) hKB) h2
    rw [show c + 1 + (ops.size - n) = (c + (ops.size - n)) + 1 by omega]
    obtain ⟨i0, hi0, hoff0⟩ := cnt_off (L := L) (m := n) (by omega)
    have hun0 : L.getD i0 true = false := getD_in (by rw [st.inv.size]; omega) hoff0
    refine ⟨fun hno => ?_, fun i hi => ?_⟩
    · exfalso
      have : ∀ k, k < n → L.getD k false = true := by
        intro k
        induction k using Nat.strongRecOn with
        | _ k ihk =>
          intro hk
          rcases hkl : L.getD k false with _ | _
          · obtain ⟨o, ho, hlow, _⟩ := headB_spec (hheads k hk)
            have : k ∈ Region.ready md ops L := mem_ready.2 ⟨getD_in (by rw [st.inv.size]; omega) hkl, o, ho, fun e he hb => ihk e.on (hlow e he hb) (by have := hlow e he hb; omega)⟩
            rw [hno] at this
            cases this
          · rfl
      rw [this i0 hi0] at hoff0
      cases hoff0
    · have him : i < n := by
        rcases Nat.lt_or_ge i n with h' | h'
        · exact h'
        · exact absurd hi (tail_waits hsink hchain hms st.inv _ i0 rfl hi0 hun0 i h')
      obtain ⟨hui, o, ho, hedges⟩ := mem_ready.1 hi
      have hcnt : cntOff (L.setIfInBounds i true) n = c := by have := cnt_set hui him; omega
      have hinv := st.inv.set hi him
      obtain ⟨o', ho', hlow, hj⟩ := headB_spec (hheads i him)
      obtain rfl : o = o' := Option.some.inj (ho.symm.trans ho')
      have hnoti : L.getD i false = false := getD_both hui
      unfold wpOp
      simp only [ho]
      have hlook : ∀ t ∈ o.looksAt ops, a.tmps[t]? = (F γ).tmps[t]? := fun t ht => by
        by_cases hex : ∃ j oj, j < n ∧ ops[j]? = some oj ∧ oj.dst = some t
        · obtain ⟨j, oj, hjm, hoj, hjt⟩ := hex
          obtain ⟨oj', hoj', h3⟩ := hj j hjm
          obtain rfl : oj = oj' := Option.some.inj (hoj.symm.trans hoj')
          obtain ⟨ow, how, e, he, hb, hon⟩ := Region.waitsFor_spec ((h3 t hjt).1 ht)
          obtain rfl : o = ow := Option.some.inj (ho.symm.trans how)
          have h5 := hedges e he hb
          rw [hon] at h5
          exact st.on j oj t hjm h5 hoj hjt
        · rw [st.off t fun j oj hjm _ hoj hjt => hex ⟨j, oj, hjm, hoj, hjt⟩, hFoff γ t fun j oj hjn hoj hjt => hex ⟨j, oj, hjn, hoj, hjt⟩]
      obtain ⟨s1, s2⟩ := same_exec (hsel i o · · ho) hlook
      have hDo := does i o him ho
      have hreach : ∀ k, reachB md ops 100 i k = true → L.getD k false = true := fun k hr => reach_listed st.inv 100 i k hr fun o2 ho2 e he hb => by rw [ho] at ho2; obtain rfl := Option.some.inj ho2; exact hedges e he hb
      have hpre : preR md ops G i γ W := fun x hx hr => st.laid x hx (hreach x.1 hr)
      -- the walk goes on
      have next : ∀ (γ' : Nat → Value) (v : Value) (W2 : World), (∀ k ok t, k < n → L.getD k false = true → ops[k]? = some ok → ok.dst = some t → (F γ').tmps[t]? = (F γ).tmps[t]?) → (∀ t, o.dst = some t → (F γ').tmps[t]? = some v) → R.r K W W2 →
          (∀ x ∈ G, L.getD x.1 false = true → γ' x.1 = γ x.1) → (∀ x ∈ G, x.1 = i → x.2.new W (γ' i) W2) → StandsR K md ops n w G a0 F γ' (L.setIfInBounds i true) (a.put o.dst v) W2 := fun γ' v W2 hsame hv hW2 hold hnew =>
        { inv := hinv
          defs := by rw [put_defs]; exact st.defs
          size := by rw [put_size]; exact st.size
          on := fun k ok t hk hkl hok hkt => by
            rw [put_at]
            by_cases hot : o.dst = some t
            · rw [if_pos ⟨hot, by rw [st.size]; exact hsz i him o t ho hot⟩, hv t hot]
            · rw [if_neg (fun hh => hot hh.1)]
              rcases set_listed hkl with rfl | hkl
              · rw [ho] at hok
                obtain rfl := Option.some.inj hok
                exact absurd hkt hot
              · rw [hsame k ok t hk hkl hok hkt]; exact st.on k ok t hk hkl hok hkt
          off := fun t ht => by
            have hot : o.dst ≠ some t := ht i o him (by have : i < L.size := by rw [st.inv.size]; omega
                                                        simp [this]) ho
            rw [put_at, if_neg (fun hh => hot hh.1)]
            exact st.off t fun k ok hk hkl hok => ht k ok hk (getD_set_true hkl) hok
          below := (by
            obtain ⟨j, h1, h2⟩ := st.below
            exact ⟨j + 1, by omega, R.trans h2 hW2⟩)
          laid := fun x hx hxl => by
            rcases set_listed hxl with hxi | hxl
            · rw [hxi]; exact (hnew x hx hxi).1
            · rw [hold x hx hxl]; exact x.2.keep _ _ _ _ (st.laid x hx hxl) hW2
          box := fun x hx fx hxl => by
            rcases set_listed hxl with hxi | hxl
            · obtain ⟨g, h1, h2, h3⟩ := (hnew x hx hxi).2 fx
              exact ⟨g, by rw [hxi]; exact h1, h3⟩
            · obtain ⟨g, h1, h2⟩ := st.box x hx fx hxl
              exact ⟨g, by rw [hold x hx hxl]; exact h1, Nat.lt_of_lt_of_le h2 (R.size hW2)⟩
          apart := fun x hx y hy fx fy hxl hyl hne => by
            rcases set_listed hxl with hxi | hxl
            · rcases set_listed hyl with hyi | hyl
              · exact absurd (hxi.trans hyi.symm) hne
              · obtain ⟨g, h1, h2, h3⟩ := (hnew x hx hxi).2 fx
                obtain ⟨g', h4, h5⟩ := st.box y hy fy hyl
                rw [hxi, h1, hold y hy hyl, h4]
                intro e
                simp only [Value.pointer.injEq, Option.some.injEq, Addr.mk.injEq, and_true] at e
                omega
            · rcases set_listed hyl with hyi | hyl
              · obtain ⟨g, h1, h2, h3⟩ := (hnew y hy hyi).2 fy
                obtain ⟨g', h4, h5⟩ := st.box x hx fx hxl
                rw [hyi, h1, hold x hx hxl, h4]
                intro e
                simp only [Value.pointer.injEq, Option.some.injEq, Addr.mk.injEq, and_true] at e
                omega
              · rw [hold x hx hxl, hold y hy hyl]
                exact st.apart x hx y hy fx fy hxl hyl hne }
      rcases hDo with ⟨hq, hnone⟩ | ⟨hno, hnone, hslot⟩ | ⟨s, hq, hmem, huni, hslot⟩
      · obtain ⟨hw, v, hqq, hslot⟩ := hq γ W hBW hpre
        rw [s2, if_pos hw]
        refine .inl (wp_of_at (v := v) ((quietAt_same s1).2 hqq) fun W2 hW2 => ih γ _ _ _ hcnt (next γ v W2 (fun _ _ _ _ _ _ _ => rfl) (fun t ht => hslot t ht) (R.mono (Nat.zero_le _) (R.below hW2)) (fun _ _ _ => rfl) fun x hx hxi => ?_))
        obtain ⟨x1, x2⟩ := x
        simp at hxi; subst hxi
        exact absurd hx (hnone x2)
      · rw [s2, if_neg (by rw [hno γ]; exact Bool.false_ne_true)]
        refine ih γ _ _ _ hcnt (next γ undef W (fun _ _ _ _ _ _ _ => rfl) (fun t ht => hslot γ t ht) (R.mono (Nat.zero_le _) (R.below (Below.refl _ _))) (fun _ _ _ => rfl) fun x hx hxi => ?_)
        obtain ⟨x1, x2⟩ := x
        simp at hxi; subst hxi
        exact absurd hx (hnone x2)
      · obtain ⟨hw, hqq⟩ := hq γ W hBW hpre
        rw [s2, if_pos hw]
        refine .inl (wp_of_openR ((openAtR_same s1).2 hqq) fun v W2 hv hW2 => ih (updV γ i v) _ _ _ hcnt (next (updV γ i v) v W2 (fun k ok t hk hkl hok hkt => ?_) (fun t ht => by rw [hslot _ t ht, updV_same]) hW2 (fun x hx hxl => updV_other γ v fun e => by rw [e, hnoti] at hxl; cases hxl) fun x hx hxi => ?_))
        · refine hdep γ i v t fun j oj hoj hjt => ?_
          have hjn : j < n := by
            rcases Nat.lt_or_ge j n with h' | h'
            · exact h'
            · exact absurd hkt (htail j oj t h' hoj hjt k ok hk hok)
          have hjk : j = k := by
            obtain ⟨oj', hoj', _, h3⟩ := headB_spec (hheads j hjn)
            obtain rfl : oj = oj' := Option.some.inj (hoj.symm.trans hoj')
            obtain ⟨ok', hok', h4⟩ := h3 k hk
            obtain rfl : ok = ok' := Option.some.inj (hok.symm.trans hok')
            rcases Nat.decEq k j with hne | heq
            · exact absurd hjt ((h4 t hkt).2 hne)
            · exact heq.symm
          subst hjk
          refine ⟨fun e => (by subst e; rw [hnoti] at hkl; cases hkl), ?_⟩
          rcases hr : reachB md ops 100 j i with _ | _
          · rfl
          · exfalso
            have := reach_listed st.inv 100 j i hr fun o2 ho2 e he hb => st.inv.closed j o2 ho2 hkl e he hb
            rw [hnoti] at this; cases this
        · obtain ⟨x1, x2⟩ := x
          simp at hxi; subst hxi
          rw [updV_same, huni x2 hx]; exact hv

/-- **A DRAWN REGION WITH OPEN VALUES**: its head (n operations) walked once in the text's order, the rest in sequence. -/
theorem wp_openR (R : Rel) (K B : Nat) {id n : Nat} {Q : Exit → Act → World → Prop} {w : World} {a : Act} {l : List Oper} (hKB : K * n ≤ B) (hm : P.follows .mixedOrders = true)
    (hB : drawnB .any l.toArray n = true) (hT : tailB l.toArray n = true) (hD : dstB l.toArray n a.tmps.size = true)
    (h : wpR (R := R) K B P .any l.toArray w (fun F G => ∀ γ W, R.r B w W → (∀ x ∈ G, x.2.ok (γ x.1) W) → (∀ x ∈ G, ∀ y ∈ G, x.2.fresh = true → y.2.fresh = true → x.1 ≠ y.1 → γ x.1 ≠ γ y.1) → wpList P l.toArray Q (l.drop n) (F γ) W) 0 (l.take n) (fun _ => a) []) :
    (Code.region id l.toArray true).wp P Q a w := by
  refine wp_region_any hm ?_
  have hB' := hB
  simp only [drawnB, Bool.and_eq_true, decide_eq_true_eq, List.all_eq_true, List.mem_range] at hB'
  obtain ⟨⟨⟨⟨⟨hsel0, hms⟩, _⟩, _⟩, _⟩, hheads⟩ := hB'
  have hsel := Region.noSelect_spec hsel0
  have hlen : (l.take n).length = n := by simp at hms ⊢; omega
  have htake : ∀ j, j < (l.take n).length → (l.take n)[j]? = l.toArray[0 + j]? := fun j hj => by
    rw [hlen] at hj
    simp [List.getElem?_take, hj]
  obtain ⟨F, G, f1, f2, f3, f4, g1, g2, g3, f5⟩ := r_does (md := .any) (ops := l.toArray) (n := n) (fun j o cs b hj => hsel j o cs b hj) (fun i hi => hheads i hi) (l.take n) 0 (fun _ => a) [] htake (by rw [hlen]; omega)
    (fun γ i hi o d ho hd => by have := List.all_eq_true.1 hD i (List.mem_range.2 hi); simpa [ho, hd] using this) (fun _ _ _ _ _ => rfl) (fun x hx => by cases hx) h
  have := r_any (P := P) (Q := Q) (a0 := a) hKB hB hD f2 f3 (fun γ t ht => f4 γ t fun o ho => by
      obtain ⟨j, hj, hje⟩ := List.getElem_of_mem ho
      have h3 := htake j hj
      rw [List.getElem?_eq_getElem hj, hje] at h3
      exact ht j o (by rw [hlen] at hj; exact hj) (by simpa using h3.symm)) g3 (tailB_spec hT)
    (fun i o hi ho => f5 i o (Nat.zero_le _) hi ho) (fun γ W hW hl ha => by have := f1 γ W hW hl ha; simpa using this) n (fun _ => undef) (Array.replicate l.toArray.size false) a w.drew (cnt_all _ _)
    { inv := ⟨by simp, fun j oj _ hl => (by rw [getD_replicate_false] at hl; cases hl), fun t _ ht => getD_in (by simpa using ht) (getD_replicate_false _ _)⟩
      defs := rfl, size := rfl
      on := fun i o t _ hl => by rw [getD_replicate_false] at hl; cases hl
      off := fun _ _ => rfl
      below := ⟨0, by simp [cnt_all], R.mono (Nat.zero_le _) (R.below ((Below.refl _ _).drew))⟩
      laid := fun x _ hl => by rw [getD_replicate_false] at hl; cases hl
      box := fun x _ _ hl => by rw [getD_replicate_false] at hl; cases hl
      apart := fun x _ _ _ _ _ hl => by rw [getD_replicate_false] at hl; cases hl }
  rwa [show n + (l.toArray.size - n) = l.toArray.size by omega] at this

theorem plainNewR {f : FuncId} {args : Array Value} {W : World} {s : Sr R} (h : s.fresh = false) (hc : Calls P f args W fun e w'' => ∃ v, e = .returned v ∧ s.ok v w'' ∧ R.r K W w'') : Calls P f args W fun e w'' => ∃ v, e = .returned v ∧ s.new W v w'' ∧ R.r K W w'' :=
  hc.mono fun e w'' ⟨v, h1, h2, h3⟩ => ⟨v, h1, ⟨h2, fun e => by rw [h] at e; cases e⟩, h3⟩
end
end Go.Proofs.Ytegiddpakocodaa
