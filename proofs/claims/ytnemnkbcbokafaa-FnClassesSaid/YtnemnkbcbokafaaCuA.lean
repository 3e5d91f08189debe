/- Parts: A cursor in memory: a block that holds a slice of bytes, a place and a seed; what calls of its methods may do to memory. No program in sight, The cursor's small methods: next, pick, one, among. -/
import Derived.Test.YtnemnkbcbokafaaDrA
import Derived.Test.YtnemnkbcbokafaaSl
import Derived.Test.YtnemnkbcbokafaaProg
import Derived.Laws.Bits64b
namespace Go.Proofs.Ytnemnkbcbokafaa
section
open Go.RowKit
set_option linter.unusedVariables false
set_option linter.unusedSimpArgs false

/-- bytes that can be read, apart from the block g -/
def BytA (B g : Nat) (W : World) (s : Option Addr) (n : Nat) : Prop := 0 < n → ∃ b off, s = some ⟨b, off, none⟩ ∧ b < B ∧ b ≠ g ∧ ∀ j, j < n → ∃ x : Int, W.cell? ⟨b, off + j, none⟩ = some (.int .u8 x) ∧ 0 ≤ x ∧ x ≤ 255
/-- the cursor in block g, its place at most M -/
structure CurB (T : TypeId) (B g M : Nat) (W : World) : Prop where
  low : g < B
  size : B ≤ W.heap.size
  blk : ∃ s n c x y, W.heap[g]? = some (.cells #[.slice s n c, .int .i64 x, .int .u64 y] T (0, 0)) ∧ 0 ≤ x ∧ x ≤ (M : Int) ∧ BytA B g W s n ∧ n ≤ maxLen
theorem BytA.keep {B g : Nat} {W W2 : World} {s : Option Addr} {n : Nat} (h : BytA B g W s n) (hk : ∀ i, i < B → i ≠ g → W2.heap[i]? = W.heap[i]?) : BytA B g W2 s n := fun h0 => by
  obtain ⟨b, off, h1, h2, h3, h4⟩ := h h0
  refine ⟨b, off, h1, h2, h3, fun j hj => ?_⟩
  obtain ⟨x, h5, h6⟩ := h4 j hj
  exact ⟨x, (World.cell?_of_block (a := ⟨b, off + j, none⟩) (hk b h2 h3)).trans h5, h6⟩
section
variable {T : TypeId} {B g M : Nat} {W W2 w w1 w2 : World}
theorem CurB.same (h : CurB T B g M W) (hs : W.heap.size ≤ W2.heap.size) (hk : ∀ i, i < B → W2.heap[i]? = W.heap[i]?) : CurB T B g M W2 := by
  obtain ⟨s, n, c, x, y, h1, h2, h3, h4, h5⟩ := h.blk
  exact ⟨h.low, Nat.le_trans h.size hs, s, n, c, x, y, (hk g h.low).trans h1, h2, h3, h4.keep fun i hi _ => hk i hi, h5⟩
theorem CurB.step (hb : Below W.heap.size W W2) (h : CurB T B g M W) : CurB T B g M W2 := h.same hb.size fun i hi => hb.block i (Nat.lt_of_lt_of_le hi h.size)
theorem CurB.alloc (h : CurB T B g M W) (o : Obj) : CurB T B g M (W.alloc o) := h.step ((Below.refl _ _).alloc (Nat.le_refl _) o)
theorem CurB.drew (h : CurB T B g M W) : CurB T B g M W.drew := h.same (Nat.le_refl _) fun _ _ => rfl
theorem CurB.drewN (h : CurB T B g M W) (n : Nat) : CurB T B g M (W.drewN n) := h.same (Nat.le_refl _) fun _ _ => rfl
theorem CurB.set (h : CurB T B g M W) {a : Addr} (ha : B ≤ a.block) (x : Value) : CurB T B g M (W.setCell a x) :=
  h.same (by simp [World.setCell]) fun i hi => Below.heap_setCell W a x i (by omega)
theorem CurB.mono (h : CurB T B g M W) {M' : Nat} (hM : M ≤ M') : CurB T B g M' W := by
  obtain ⟨s, n, c, x, y, h1, h2, h3, h4, h5⟩ := h.blk
  exact ⟨h.low, h.size, s, n, c, x, y, h1, h2, by omega, h4, h5⟩

/-- what calls on the cursor leave: all blocks but its own as they were, its place on by at most k -/
structure CR (T : TypeId) (B g k : Nat) (w w' : World) : Prop where
  os : w'.os = w.os
  tape : w'.tape = w.tape
  output : w'.output = w.output
  size : w.heap.size ≤ w'.heap.size
  block : ∀ i, i < w.heap.size → i ≠ g → w'.heap[i]? = w.heap[i]?
  cur : ∀ M, CurB T B g M w → CurB T B g (M + k) w'
variable {j k : Nat}
theorem CR.refl (w : World) : CR T B g 0 w w := ⟨rfl, rfl, rfl, Nat.le_refl _, fun _ _ _ => rfl, fun _ h => h⟩
theorem CR.of_below (h : Below w.heap.size w w1) : CR T B g 0 w w1 := ⟨h.os, h.tape, h.output, h.size, fun i hi _ => h.block i hi, fun M hc => CurB.step h hc⟩
theorem CR.trans (h : CR T B g j w w1) (h2 : CR T B g k w1 w2) : CR T B g (j + k) w w2 :=
  ⟨h2.os.trans h.os, h2.tape.trans h.tape, h2.output.trans h.output, Nat.le_trans h.size h2.size, fun i hi hg => (h2.block i (Nat.lt_of_lt_of_le hi h.size) hg).trans (h.block i hi hg), fun M hc => by rw [← Nat.add_assoc]; exact h2.cur _ (h.cur _ hc)⟩
theorem CR.mono (hjk : j ≤ k) (h : CR T B g j w w1) : CR T B g k w w1 := ⟨h.os, h.tape, h.output, h.size, h.block, fun M hc => (h.cur M hc).mono (by omega)⟩
theorem CR.fin (h : CR T B g j w w1) (hjk : j ≤ k) : CR T B g k w w1 := h.mono hjk
theorem CR.via (hb : CR T B g k w1 w2) (h : CR T B g j w w1) : CR T B g (j + k) w w2 := h.trans hb
theorem CR.step (hb : Below w1.heap.size w1 w2) (h : CR T B g j w w1) : CR T B g j w w2 := h.trans (CR.of_below hb)
theorem CR.alloc (h : CR T B g j w w1) (o : Obj) : CR T B g j w (w1.alloc o) := CR.step ((Below.refl _ _).alloc (Nat.le_refl _) o) h
theorem CR.drew (h : CR T B g j w w1) : CR T B g j w w1.drew := ⟨h.os, h.tape, h.output, h.size, h.block, fun M hc => (h.cur M hc).drew⟩
theorem CR.drewN (h : CR T B g j w w1) (n : Nat) : CR T B g j w (w1.drewN n) := ⟨h.os, h.tape, h.output, h.size, h.block, fun M hc => (h.cur M hc).drewN n⟩
theorem CR.set (h : CR T B g j w w1) {a : Addr} (ha : w.heap.size ≤ a.block) (x : Value) : CR T B g j w (w1.setCell a x) :=
  ⟨h.os, h.tape, h.output, by have := h.size; simp [World.setCell]; omega, fun i hi hg => (Below.heap_setCell w1 a x i (by omega)).trans (h.block i hi hg), fun M hc => (h.cur M hc).set (by have := hc.size; omega) x⟩
theorem CurB.via (hb : CR T B g k w1 w2) (h : CurB T B g M w1) : CurB T B g (M + k) w2 := hb.cur M h
theorem CR.cell (h : CR T B g k w w1) (b : Nat) (hb : b < w.heap.size) (hg : b ≠ g) : ∀ o, w1.cell? ⟨b, o, none⟩ = w.cell? ⟨b, o, none⟩ := fun o => World.cell?_of_block (h.block b hb hg)
theorem CR.froz (h : CR T B g k w w1) (b : Nat) (hb : b < w.heap.size) (hg : b ≠ g) : ∀ o, w1.frozen? ⟨b, o, none⟩ = w.frozen? ⟨b, o, none⟩ := fun o => World.frozen?_of_block (h.block b hb hg)
theorem curCell' {C : Prop} (h : CR T B g k w w1) (b o : Nat) (hb : b < w.heap.size) (hp : b ≠ g) (c : w1.cell? ⟨b, o, none⟩ = w.cell? ⟨b, o, none⟩ → C) : C := c (h.cell b hb hp o)
theorem curFroz' {C : Prop} (h : CR T B g k w w1) (b : Nat) (hb : b < w.heap.size) (hp : b ≠ g) (c : (∀ o, w1.frozen? ⟨b, o, none⟩ = w.frozen? ⟨b, o, none⟩) → C) : C := c (h.froz b hb hp)
theorem cr_blk (h : CR T B g k w w1) {b : Nat} {X : Obj} (e : w.heap[b]? = some X) (hp : b ≠ g) : w1.heap[b]? = some X := (h.block b (blk_lt' e) hp).trans e
/-- a cursor that the call itself has made: nothing below it has changed -/
theorem cr_below {C : Nat} (hb : CR T B g k w1 w2) (h : Below C w w1) (hC : C ≤ w1.heap.size) (hg : C ≤ g) : Below C w w2 :=
  ⟨hb.os.trans h.os, hb.tape.trans h.tape, hb.output.trans h.output, Nat.le_trans h.size hb.size, fun i hi => (hb.block i (by omega) (by omega)).trans (h.block i hi)⟩
def curRel (T : TypeId) (B g : Nat) : Rel := ⟨fun k a b => CR T B g k a b, CR.of_below, CR.trans, CR.mono, CR.size⟩
/-- a new cursor -/
theorem CurB.new {W : World} {s : Option Addr} {n c : Nat} {y : Int} (h : BytA W.heap.size W.heap.size W s n) (hn : n ≤ maxLen) :
    CurB T (W.heap.size + 1) W.heap.size 0 (W.alloc (.cells #[.slice s n c, .int .i64 0, .int .u64 y] T (0, 0))) := by
  refine ⟨by omega, by simp, s, n, c, 0, y, heap_alloc_new _ _, by omega, by omega, fun h0 => ?_, hn⟩
  obtain ⟨b, off, h1, h2, h3, h4⟩ := h h0
  refine ⟨b, off, h1, by omega, h3, fun j hj => ?_⟩
  obtain ⟨x, h5, h6⟩ := h4 j hj
  exact ⟨x, (World.cell?_of_block (a := ⟨b, off + j, none⟩) (Below.heap_alloc _ _ _ h2)).trans h5, h6⟩
end
/-- bytes of an argument -/
structure ByW (w : World) (s : Option Addr) (n : Nat) : Prop where
  row : 0 < n → ∃ b off, s = some ⟨b, off, none⟩ ∧ b < w.heap.size ∧ ∀ j, j < n → ∃ x : Int, w.cell? ⟨b, off + j, none⟩ = some (.int .u8 x) ∧ 0 ≤ x ∧ x ≤ 255
  max : n ≤ maxLen
theorem ByW.byt {w W : World} {s : Option Addr} {n : Nat} (h : ByW w s n) (hb : Below w.heap.size w W) : BytA W.heap.size W.heap.size W s n := fun h0 => by
  obtain ⟨b, off, h1, h2, h3⟩ := h.row h0
  have := hb.size
  refine ⟨b, off, h1, by omega, by omega, fun j hj => ?_⟩
  obtain ⟨x, h4, h5⟩ := h3 j hj
  exact ⟨x, (hb.cell (p := ⟨b, off + j, none⟩) h2).trans h4, h5⟩
theorem ByW.below {w W : World} {s : Option Addr} {n : Nat} (h : ByW w s n) (hb : Below w.heap.size w W) : ByW W s n := ⟨fun h0 => by
  obtain ⟨b, off, h1, h2, h3⟩ := h.row h0
  have := hb.size
  refine ⟨b, off, h1, by omega, fun j hj => ?_⟩
  obtain ⟨x, h4, h5⟩ := h3 j hj
  exact ⟨x, (hb.cell (p := ⟨b, off + j, none⟩) h2).trans h4, h5⟩, h.max⟩
/-- all values are integers of which p holds -/
def AllInt (p : Int → Prop) : List Value → Prop
  | [] => True
  | v :: l => (∃ x : Int, v = .int .i64 x ∧ p x) ∧ AllInt p l
theorem AllInt.at {p : Int → Prop} : ∀ {l : List Value}, AllInt p l → ∀ j, j < l.length → ∃ x : Int, l[j]? = some (.int .i64 x) ∧ p x
  | [], _, j, hj => by simp at hj
  | v :: l, h, 0, _ => by obtain ⟨⟨x, rfl, hx⟩, _⟩ := h; exact ⟨x, rfl, hx⟩
  | v :: l, h, j + 1, hj => by obtain ⟨x, h1, h2⟩ := AllInt.at h.2 j (by simp at hj; omega); exact ⟨x, by simpa using h1, h2⟩
end
section
open Go.RowKit
set_option linter.unusedVariables false
set_option maxHeartbeats 4000000
set_option linter.unusedSimpArgs false

theorem cur_two {W : World} {g a : Nat} {u0 u1 u2 v1 v2 : Value} {T : TypeId} (h : W.heap[g]? = some (.cells #[u0, u1, u2] T)) : (((W.drewN a).setCell ⟨g, 1, none⟩ v1).setCell ⟨g, 2, none⟩ v2).heap[g]? = some (.cells #[u0, v1, v2] T) := by
  simpa using blk_set (o := 2) (v := v2) (blk_set (o := 1) (v := v1) (W := W.drewN a) h)
theorem cur_dn {W : World} {g k : Nat} {X : Obj} (h : W.heap[g]? = some X) : (W.drewN k).heap[g]? = some X := h
theorem cur_far {W : World} {g g' o : Nat} {v : Value} (hne : g' ≠ g) : (W.setCell ⟨g, o, none⟩ v).heap[g']? = W.heap[g']? := Below.heap_setCell W ⟨g, o, none⟩ v g' hne
theorem CR.write {T : TypeId} {B g : Nat} {w w' : World} {s : Option Addr} {n c : Nat} {x x' y y' : Int} (hk : w.heap[g]? = some (.cells #[.slice s n c, .int .i64 x, .int .u64 y] T (0, 0))) (hk' : w'.heap[g]? = some (.cells #[.slice s n c, .int .i64 x', .int .u64 y'] T (0, 0))) (h0 : 0 ≤ x) (hx : x' = x + 1)
    (hb : ∀ i, i ≠ g → w'.heap[i]? = w.heap[i]?) (hs : w'.heap.size = w.heap.size) (ho : w'.os = w.os) (ht : w'.tape = w.tape) (hp : w'.output = w.output) : CR T B g 1 w w' := by
  refine ⟨ho, ht, hp, by omega, fun i _ hi => hb i hi, fun M hc => ?_⟩
  obtain ⟨s1, n1, c1, x1, y1, e, q0, q1, q2, q3⟩ := hc.blk
  rw [hk] at e
  simp only [Option.some.injEq, Obj.cells.injEq, Array.mk.injEq, List.cons.injEq, Value.slice.injEq, Value.int.injEq, true_and, and_true] at e
  obtain ⟨⟨rfl, rfl, rfl⟩, rfl, rfl⟩ := e
  exact ⟨hc.low, by have := hc.size; omega, s, n, c, x', y', hk', by omega, by omega, q2.keep fun i _ hi => hb i hi, q3⟩
theorem and255 (z : Int) : 0 ≤ wrap64 (bits BinOp.and IntKind.u64 (IntKind.u64.wrap z / 1099511627776) 255) ∧ wrap64 (bits BinOp.and IntKind.u64 (IntKind.u64.wrap z / 1099511627776) 255) ≤ 255 := by
  have h1 : 0 ≤ IntKind.u64.wrap z ∧ IntKind.u64.wrap z < 18446744073709551616 := by rw [IntKind.wrap_u64]; omega
  have h2 : ∃ a : Nat, IntKind.u64.wrap z / 1099511627776 = (a : Int) ∧ a < 18446744073709551616 := ⟨(IntKind.u64.wrap z / 1099511627776).toNat, by omega, by omega⟩
  obtain ⟨a, ha, hl⟩ := h2
  rw [ha, show (255 : Int) = ((255 : Nat) : Int) from rfl, bits_and_u64_nat a 255 hl (by omega)]
  have := Nat.and_le_right (n := a) (m := 255)
  unfold wrap64
  omega
theorem next_any {B g M : Nat} {w : World} (hC : CurB 60 B g M w) (hM : M < 4611686018427387904) : Calls Try.prog 56 #[.pointer (some ⟨g, 0, none⟩)] w fun e w' => ∃ x : Int, e = .returned (.int .i64 x) ∧ (0 ≤ x ∧ x ≤ 255) ∧ CR 60 B g 1 w w' := by
  obtain ⟨s, n, c, x, y, hk, h0, hM', hby, hn⟩ := hC.blk
  have k0 := blk_cell hk 0
  have k1 := blk_cell hk 1
  have k2 := blk_cell hk 2
  have f0 := blk_frozen hk
  simp at k0 k1 k2
  by_cases hx : x < n
  · obtain ⟨b, off, rfl, hb1, hb2, hb⟩ := hby (by omega)
    obtain ⟨v, hv, hv0, hv1⟩ := hb x.toNat (by omega)
    go_enter Try.func56, Try.ntmps56
    go_wp2_with fail
    go_quiet (fail)
    go_wp2_with fail
    go_quiet (fail)
    go_wp2_with fail
    go_quiet (fail)
    go_wp2_with fail
    go_ret
    refine ⟨_, rfl, ⟨by omega, by omega⟩, CR.write hk (x' := x + 1) (cur_dn (cur_two hk)) h0 rfl (fun i hi => (cur_far hi).trans (cur_far hi)) (by simp [World.setCell, World.drewN]) rfl rfl rfl⟩
  · go_enter Try.func56, Try.ntmps56
    go_wp2_with fail
    go_quiet (fail)
    go_wp2_with fail
    go_quiet (fail)
    go_wp2_with fail
    go_ret
    refine ⟨_, rfl, and255 _, CR.write hk (x' := x + 1) (cur_dn (cur_two hk)) h0 rfl (fun i hi => (cur_far hi).trans (cur_far hi)) (by simp [World.setCell, World.drewN]) rfl rfl rfl⟩
theorem pick_any {B g M : Nat} {n : Int} {w : World} (hC : CurB 60 B g M w) (hM : M + 2 < 4611686018427387904) (hn : 1 ≤ n) (hn' : n ≤ 1000000000) :
    Calls Try.prog 28 #[.pointer (some ⟨g, 0, none⟩), .int .i64 n] w fun e w' => ∃ x : Int, e = .returned (.int .i64 x) ∧ (0 ≤ x ∧ x < n) ∧ CR 60 B g 2 w w' := by
  have hBs := hC.size
  have hgl := hC.low
  by_cases h1 : n ≤ 1
  · have tok1 : True := trivial
    have tok2 : True := trivial
    go_enter Try.func28, Try.ntmps28
    go_wp2_with (first | (have _t := tok1; go_at_call 56; refine (next_any (by (repeat' first | (with_reducible first | assumption | apply CurB.alloc | apply CurB.drew | apply CurB.drewN | apply CurB.via (by assumption) | apply CurB.step (by assumption) | apply CurB.set) | go_size | (simp only [World.size_alloc, World.size_setCell, World.size_drew, World.size_drewN']; omega) | omega)) (by omega)).mono ?_; rintro e w1 ⟨x1, rfl, ⟨hx1, hy1⟩, hb1⟩; clear tok1 _t; have hz1 := hb1.size; (try simp only [World.size_alloc, World.size_setCell, World.size_drew, World.size_drewN'] at hz1)) | (have _t := tok2; go_at_call 56; refine (next_any (by (repeat' first | (with_reducible first | assumption | apply CurB.alloc | apply CurB.drew | apply CurB.drewN | apply CurB.via (by assumption) | apply CurB.step (by assumption) | apply CurB.set) | go_size | (simp only [World.size_alloc, World.size_setCell, World.size_drew, World.size_drewN']; omega) | omega)) (by omega)).mono ?_; rintro e w2 ⟨x2, rfl, ⟨hx2, hy2⟩, hb2⟩; clear tok2 _t; have hz2 := hb2.size; (try simp only [World.size_alloc, World.size_setCell, World.size_drew, World.size_drewN'] at hz2)))
    go_ret
    exact ⟨_, rfl, ⟨by omega, by omega⟩, by (apply CR.fin; (focus (repeat' first | (with_reducible first | assumption | exact CR.refl _ | apply CR.alloc | apply CR.drew | apply CR.drewN | apply CR.set | apply CR.via (by assumption) | apply CR.step (by assumption)) | go_size | (simp only [World.size_alloc, World.size_setCell, World.size_drew, World.size_drewN']; omega) | omega)); (first | omega | decide))⟩
  · by_cases h2 : n ≤ 200
    · have tok1 : True := trivial
      have tok2 : True := trivial
      go_enter Try.func28, Try.ntmps28
      go_wp2_with (first | (have _t := tok1; go_at_call 56; refine (next_any (by (repeat' first | (with_reducible first | assumption | apply CurB.alloc | apply CurB.drew | apply CurB.drewN | apply CurB.via (by assumption) | apply CurB.step (by assumption) | apply CurB.set) | go_size | (simp only [World.size_alloc, World.size_setCell, World.size_drew, World.size_drewN']; omega) | omega)) (by omega)).mono ?_; rintro e w1 ⟨x1, rfl, ⟨hx1, hy1⟩, hb1⟩; clear tok1 _t; have hz1 := hb1.size; (try simp only [World.size_alloc, World.size_setCell, World.size_drew, World.size_drewN'] at hz1)) | (have _t := tok2; go_at_call 56; refine (next_any (by (repeat' first | (with_reducible first | assumption | apply CurB.alloc | apply CurB.drew | apply CurB.drewN | apply CurB.via (by assumption) | apply CurB.step (by assumption) | apply CurB.set) | go_size | (simp only [World.size_alloc, World.size_setCell, World.size_drew, World.size_drewN']; omega) | omega)) (by omega)).mono ?_; rintro e w2 ⟨x2, rfl, ⟨hx2, hy2⟩, hb2⟩; clear tok2 _t; have hz2 := hb2.size; (try simp only [World.size_alloc, World.size_setCell, World.size_drew, World.size_drewN'] at hz2)))
      go_ret
      exact ⟨_, rfl, ⟨Int.emod_nonneg _ (by omega), Int.emod_lt_of_pos _ (by omega)⟩, by (apply CR.fin; (focus (repeat' first | (with_reducible first | assumption | exact CR.refl _ | apply CR.alloc | apply CR.drew | apply CR.drewN | apply CR.set | apply CR.via (by assumption) | apply CR.step (by assumption)) | go_size | (simp only [World.size_alloc, World.size_setCell, World.size_drew, World.size_drewN']; omega) | omega)); (first | omega | decide))⟩
    · have tok1 : True := trivial
      have tok2 : True := trivial
      go_enter Try.func28, Try.ntmps28
      go_wp2_with (first | (have _t := tok1; go_at_call 56; refine (next_any (by (repeat' first | (with_reducible first | assumption | apply CurB.alloc | apply CurB.drew | apply CurB.drewN | apply CurB.via (by assumption) | apply CurB.step (by assumption) | apply CurB.set) | go_size | (simp only [World.size_alloc, World.size_setCell, World.size_drew, World.size_drewN']; omega) | omega)) (by omega)).mono ?_; rintro e w1 ⟨x1, rfl, ⟨hx1, hy1⟩, hb1⟩; clear tok1 _t; have hz1 := hb1.size; (try simp only [World.size_alloc, World.size_setCell, World.size_drew, World.size_drewN'] at hz1)) | (have _t := tok2; go_at_call 56; refine (next_any (by (repeat' first | (with_reducible first | assumption | apply CurB.alloc | apply CurB.drew | apply CurB.drewN | apply CurB.via (by assumption) | apply CurB.step (by assumption) | apply CurB.set) | go_size | (simp only [World.size_alloc, World.size_setCell, World.size_drew, World.size_drewN']; omega) | omega)) (by omega)).mono ?_; rintro e w2 ⟨x2, rfl, ⟨hx2, hy2⟩, hb2⟩; clear tok2 _t; have hz2 := hb2.size; (try simp only [World.size_alloc, World.size_setCell, World.size_drew, World.size_drewN'] at hz2)))
      go_ret
      exact ⟨_, rfl, ⟨Int.emod_nonneg _ (by omega), Int.emod_lt_of_pos _ (by omega)⟩, by (apply CR.fin; (focus (repeat' first | (with_reducible first | assumption | exact CR.refl _ | apply CR.alloc | apply CR.drew | apply CR.drewN | apply CR.set | apply CR.via (by assumption) | apply CR.step (by assumption)) | go_size | (simp only [World.size_alloc, World.size_setCell, World.size_drew, World.size_drewN']; omega) | omega)); (first | omega | decide))⟩
theorem one_any {B g M : Nat} {n : Int} {w : World} (hC : CurB 60 B g M w) (hM : M + 2 < 4611686018427387904) (hn : 1 ≤ n) (hn' : n ≤ 1000000000) :
    Calls Try.prog 36 #[.pointer (some ⟨g, 0, none⟩), .int .i64 n] w fun e w' => ∃ x : Bool, e = .returned (.bool x) ∧ CR 60 B g 2 w w' := by
  have hBs := hC.size
  have hgl := hC.low
  have tok1 : True := trivial
  go_enter Try.func36, Try.ntmps36
  go_wp2_with (first | (have _t := tok1; go_at_call 28; refine (pick_any (by (repeat' first | (with_reducible first | assumption | apply CurB.alloc | apply CurB.drew | apply CurB.drewN | apply CurB.via (by assumption) | apply CurB.step (by assumption) | apply CurB.set) | go_size | (simp only [World.size_alloc, World.size_setCell, World.size_drew, World.size_drewN']; omega) | omega)) (by omega) (by omega) (by omega)).mono ?_; rintro e w1 ⟨x1, rfl, ⟨hx1, hy1⟩, hb1⟩; clear tok1 _t; have hz1 := hb1.size; (try simp only [World.size_alloc, World.size_setCell, World.size_drew, World.size_drewN'] at hz1)))
  go_ret
  exact ⟨_, rfl, by (apply CR.fin; (focus (repeat' first | (with_reducible first | assumption | exact CR.refl _ | apply CR.alloc | apply CR.drew | apply CR.drewN | apply CR.set | apply CR.via (by assumption) | apply CR.step (by assumption)) | go_size | (simp only [World.size_alloc, World.size_setCell, World.size_drew, World.size_drewN']; omega) | omega)); (first | omega | decide))⟩
theorem among_any {B g M n g1 : Nat} {T : TypeId} {cs : Array Value} {w : World} (p : Int → Prop) (hC : CurB 60 B g M w) (hM : M + 2 < 4611686018427387904) (hk : w.heap[g1]? = some (.cells cs T (0, 0))) (hB : B ≤ g1) (hs : cs.toList.length = n) (hn : 1 ≤ n) (hn' : n ≤ 1000000) (ha : AllInt p cs.toList) :
    Calls Try.prog 27 #[.pointer (some ⟨g, 0, none⟩), .slice (some ⟨g1, 0, none⟩) n n] w fun e w' => ∃ x : Int, e = .returned (.int .i64 x) ∧ p x ∧ CR 60 B g 2 w w' := by
  have hBs := hC.size
  have hgl := hC.low
  have HA : ∀ {w1 : World}, CR 60 B g 2 w w1 → ∀ j, j < n → ∃ x : Int, w1.cell? ⟨g1, j, none⟩ = some (.int .i64 x) ∧ p x := fun hb j hj => by
    obtain ⟨x, h1, h2⟩ := ha.at j (by omega)
    refine ⟨x, ((hb.cell g1 (blk_lt' hk) (by omega) j).trans (blk_cell hk j)).trans ?_, h2⟩
    simpa using h1
  have tok1 : True := trivial
  go_enter Try.func27, Try.ntmps27
  go_wp2_with (first | (have _t := tok1; go_at_call 28; refine (pick_any (by (repeat' first | (with_reducible first | assumption | apply CurB.alloc | apply CurB.drew | apply CurB.drewN | apply CurB.via (by assumption) | apply CurB.step (by assumption) | apply CurB.set) | go_size | (simp only [World.size_alloc, World.size_setCell, World.size_drew, World.size_drewN']; omega) | omega)) (by omega) (by omega) (by omega)).mono ?_; rintro e w1 ⟨x1, rfl, ⟨hx1, hy1⟩, hb1⟩; clear tok1 _t; have hz1 := hb1.size; (try simp only [World.size_alloc, World.size_setCell, World.size_drew, World.size_drewN'] at hz1); obtain ⟨z, hz, hp⟩ := HA hb1 x1.toNat (by omega)))
  go_ret
  exact ⟨_, rfl, hp, by (apply CR.fin; (focus (repeat' first | (with_reducible first | assumption | exact CR.refl _ | apply CR.alloc | apply CR.drew | apply CR.drewN | apply CR.set | apply CR.via (by assumption) | apply CR.step (by assumption)) | go_size | (simp only [World.size_alloc, World.size_setCell, World.size_drew, World.size_drewN']; omega) | omega)); (first | omega | decide))⟩
end
end Go.Proofs.Ytnemnkbcbokafaa
