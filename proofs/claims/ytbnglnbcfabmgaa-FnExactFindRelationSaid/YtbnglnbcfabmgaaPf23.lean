/- Lemmas and contracts of functions. No condition. -/
import Derived.Test.YtbnglnbcfabmgaaPf11
import Derived.Test.YtbnglnbcfabmgaaPf20
namespace Go.Proofs.Ytbnglnbcfabmgaa
section
open Go.RowKit
set_option linter.unusedVariables false
set_option maxHeartbeats 1000000
set_option maxRecDepth 20000
set_option linter.unusedSimpArgs false
attribute [local go_sem] openAt openUpon
def cmpI (x y : Int) : Int := if x < y then -1 else if y < x then 1 else 0
theorem cmp_lt {x y : Int} (h : x < y) : cmpI x y = -1 := by simp [cmpI, h]
theorem cmp_gt {x y : Int} (h : y < x) : cmpI x y = 1 := by simp [cmpI, h]; omega
theorem cmp_eq {x y : Int} (h : x = y) : cmpI x y = 0 := by subst h; simp [cmpI]
/-- a contract whose value is a slice of digits of the number V -/
def NewD (w : World) (V : Int) (m : Nat) (e : Ending) (w' : World) : Prop := ∃ a n c zs, e = .returned (.slice a n c) ∧ Sx w' a n c zs ∧ Dig zs ∧ val zs = V ∧ n ≤ m ∧ Fr w.heap.size a ∧ Below w.heap.size w w'
def openD (B : Nat) (V : Int) (m : Nat) : St where
 ok v W := ∃ a n c zs, v = .slice a n c ∧ Sx W a n c zs ∧ Dig zs ∧ val zs = V ∧ n ≤ m ∧ Fr B a
 keep v W W2 h hb := by
  obtain ⟨a, n, c, zs, h1, h2, h3⟩ := h
  exact ⟨a, n, c, zs, h1, h2.below hb, h3⟩
def openW (B : Nat) (z : Int) : St where
 ok v W := ∃ b a n c, v = .agg #[.bool b, .slice a n c] ∧ Wx W b a n c z ∧ Fr B a
 keep v W W2 h hb := by
  obtain ⟨b, a, n, c, h1, h2, h3⟩ := h
  exact ⟨b, a, n, c, h1, h2.below hb, h3⟩
theorem open_D {P : Program} {f : FuncId} {args : Array Value} {W : World} {V : Int} {m B : Nat} (h : Calls P f args W (NewD W V m)) (hB : B ≤ W.heap.size) : Calls P f args W fun e w' => ∃ v, e = .returned v ∧ (openD B V m).ok v w' ∧ Below W.heap.size W w' :=
 h.mono fun e w' ⟨a, n, c, zs, h1, h2, h3, h4, h5, h6, h7⟩ => ⟨_, h1, ⟨a, n, c, zs, rfl, h2, h3, h4, h5, h6.mono hB⟩, h7⟩
theorem open_W {P : Program} {f : FuncId} {args : Array Value} {W : World} {z : Int} {B : Nat} (h : Calls P f args W (NewW W z)) (hB : B ≤ W.heap.size) : Calls P f args W fun e w' => ∃ v, e = .returned v ∧ (openW B z).ok v w' ∧ Below W.heap.size W w' :=
 h.mono fun e w' ⟨b, a, n, c, h1, h2, h3, h4⟩ => ⟨_, h1, ⟨b, a, n, c, rfl, h2, h3.mono hB⟩, h4⟩
theorem Wx.ln {W : World} {b : Bool} {a : Option Addr} {n c : Nat} {z : Int} (h : Wx W b a n c z) : n = ln z := h.row.len.symm
end
section
open Go.RowKit
set_option linter.unusedVariables false
set_option linter.unusedSimpArgs false
theorem chk {P : Program} {code : Code} {Q : Exit → Act → World → Prop} {a : Act} {E : World} (F : World → Prop) (h : F E) (k : ∀ W, F W → code.wp P Q a W) : code.wp P Q a E := k E h
theorem bx_set1 {W : World} {g : Nat} {u0 v0 : Value} {T : TypeId} (h : W.heap[g]? = some (.cells #[u0] T)) : (W.setCell ⟨g, 0, none⟩ v0).heap[g]? = some (.cells #[v0] T) := by
  simpa using blk_set (o := 0) (v := v0) h
theorem bx_set2 {W : World} {g : Nat} {u0 u1 v0 v1 : Value} {T : TypeId} (h : W.heap[g]? = some (.cells #[u0, u1] T)) : ((W.setCell ⟨g, 0, none⟩ v0).setCell ⟨g, 1, none⟩ v1).heap[g]? = some (.cells #[v0, v1] T) := by
  simpa using blk_set (o := 1) (v := v1) (blk_set (o := 0) (v := v0) h)
theorem bx_set4 {W : World} {g : Nat} {u0 u1 u2 u3 v0 v1 v2 v3 : Value} {T : TypeId} (h : W.heap[g]? = some (.cells #[u0, u1, u2, u3] T)) :
    ((((W.setCell ⟨g, 0, none⟩ v0).setCell ⟨g, 1, none⟩ v1).setCell ⟨g, 2, none⟩ v2).setCell ⟨g, 3, none⟩ v3).heap[g]? = some (.cells #[v0, v1, v2, v3] T) := by
  simpa using blk_set (o := 3) (v := v3) (blk_set (o := 2) (v := v2) (blk_set (o := 1) (v := v1) (blk_set (o := 0) (v := v0) h)))
theorem bx_far {W : World} {g g' o : Nat} {v : Value} (hne : g' ≠ g) : (W.setCell ⟨g, o, none⟩ v).heap[g']? = W.heap[g']? := Below.heap_setCell W ⟨g, o, none⟩ v g' hne
theorem bx_old {W : World} {g : Nat} {X : Obj} (h : W.heap[g]? = some X) (Y : Obj) : (W.alloc Y).heap[g]? = some X := by
  have hl : g < W.heap.size := by
    rcases Nat.lt_or_ge g W.heap.size with h' | h'
    · exact h'
    · rw [Array.getElem?_eq_none h'] at h; cases h
  rw [heap_alloc_old W Y hl]; exact h
theorem bx_new {W : World} {g : Nat} {X : Obj} (e : W.heap.size = g) : (W.alloc X).heap[g]? = some X := by subst e; exact heap_alloc_new W X
theorem bx_drew {W : World} {g : Nat} {X : Obj} (h : W.heap[g]? = some X) : W.drew.heap[g]? = some X := h
theorem bx_drewN {W : World} {g k : Nat} {X : Obj} (h : W.heap[g]? = some X) : (W.drewN k).heap[g]? = some X := h
def NoInt (cs : Array Value) : Prop := ∀ (o : Nat) (z : Int), cs[o]? ≠ some (.int .i64 z)
theorem SlA.setN {W : World} {a : Option Addr} {zs : List Int} (h : SlA W a zs) {g : Nat} {cs : Array Value} {T : TypeId} (hk : W.heap[g]? = some (.cells cs T)) (hn : NoInt cs) (o : Nat) (v : Value) : SlA (W.setCell ⟨g, o, Option.none⟩ v) a zs := fun h0 => by
  obtain ⟨b, off, h1, h2, h3⟩ := h h0
  have hne : b ≠ g := fun e => by
    subst e
    have := h3 0 h0
    rw [cell_of_row W b (off + 0) cs T (0, 0) hk] at this
    exact hn _ _ this
  refine ⟨b, off, h1, by simpa [World.setCell] using h2, fun j hj => ?_⟩
  rw [← h3 j hj]
  exact World.cell?_of_block (a := ⟨b, off + j, Option.none⟩) (Below.heap_setCell W ⟨g, o, Option.none⟩ v b hne)
theorem Wx.setN {W : World} {b : Bool} {a : Option Addr} {n c : Nat} {z : Int} (h : Wx W b a n c z) {g : Nat} {cs : Array Value} {T : TypeId} (hk : W.heap[g]? = some (.cells cs T)) (hn : NoInt cs) (o : Nat) (v : Value) : Wx (W.setCell ⟨g, o, Option.none⟩ v) b a n c z :=
  ⟨h.neg, ⟨h.row.len, h.row.cap, h.row.max, h.row.nil, h.row.row.setN hk hn o v⟩⟩
theorem noInt2 (b : Bool) (a : Option Addr) (n c : Nat) : NoInt #[.bool b, .slice a n c] := fun o z => by
  match o with
  | 0 => simp
  | 1 => simp
  | k + 2 => simp
theorem noInt4 (b b2 : Bool) (a a2 : Option Addr) (n c n2 c2 : Nat) : NoInt #[.bool b, .slice a n c, .bool b2, .slice a2 n2 c2] := fun o z => by
  match o with
  | 0 => simp
  | 1 => simp
  | 2 => simp
  | 3 => simp
  | k + 4 => simp
theorem Wx.box {W : World} {b : Bool} {a : Option Addr} {n c : Nat} {z : Int} {g : Nat} {b0 b1 : Bool} {a0 a1 : Option Addr} {n0 c0 n1 c1 : Nat} {T : TypeId} (h : Wx W b a n c z) (hk : W.heap[g]? = some (.cells #[.bool b0, .slice a0 n0 c0] T)) :
    Wx ((W.setCell ⟨g, 0, none⟩ (.bool b1)).setCell ⟨g, 1, none⟩ (.slice a1 n1 c1)) b a n c z :=
  (h.setN hk (noInt2 _ _ _ _) 0 _).setN (by simpa using blk_set (o := 0) (v := .bool b1) hk) (noInt2 b1 a0 n0 c0) 1 _
theorem Wx.box4 {W : World} {b : Bool} {a : Option Addr} {n c : Nat} {z : Int} {g : Nat} {b0 b1 b2 b3 : Bool} {a0 a1 a2 a3 : Option Addr} {n0 c0 n1 c1 n2 c2 n3 c3 : Nat} {T : TypeId} (h : Wx W b a n c z) (hk : W.heap[g]? = some (.cells #[.bool b0, .slice a0 n0 c0, .bool b1, .slice a1 n1 c1] T)) :
    Wx ((((W.setCell ⟨g, 0, none⟩ (.bool b2)).setCell ⟨g, 1, none⟩ (.slice a2 n2 c2)).setCell ⟨g, 2, none⟩ (.bool b3)).setCell ⟨g, 3, none⟩ (.slice a3 n3 c3)) b a n c z := by
  have k1 := blk_set (o := 0) (v := .bool b2) hk
  have k2 := blk_set (o := 1) (v := .slice a2 n2 c2) k1
  have k3 := blk_set (o := 2) (v := .bool b3) k2
  simp at k1 k2 k3
  exact (((h.setN hk (noInt4 _ _ _ _ _ _ _ _) 0 _).setN k1 (noInt4 _ _ _ _ _ _ _ _) 1 _).setN k2 (noInt4 _ _ _ _ _ _ _ _) 2 _).setN k3 (noInt4 _ _ _ _ _ _ _ _) 3 _
theorem Wx.alloc {W : World} {b : Bool} {a : Option Addr} {n c : Nat} {z : Int} (h : Wx W b a n c z) (X : Obj) : Wx (W.alloc X) b a n c z := ⟨h.neg, h.row.alloc X⟩
theorem Wx.drew {W : World} {b : Bool} {a : Option Addr} {n c : Nat} {z : Int} (h : Wx W b a n c z) : Wx W.drew b a n c z := ⟨h.neg, h.row.drew⟩
theorem Wx.drewN {W : World} {b : Bool} {a : Option Addr} {n c : Nat} {z : Int} (h : Wx W b a n c z) (k : Nat) : Wx (W.drewN k) b a n c z := h.below (below_drewN (Below.refl _ _) k)
theorem zFa {W : World} {g g' o : Nat} {v : Value} {R : Option Obj} (hne : g' ≠ g) (h : W.heap[g']? = R) : (W.setCell ⟨g, o, none⟩ v).heap[g']? = R := (bx_far hne).trans h
theorem zOl {W : World} {g : Nat} {X Y : Obj} (h : W.heap[g]? = some X) : (W.alloc Y).heap[g]? = some X := bx_old h Y
theorem zWa {W : World} {b : Bool} {a : Option Addr} {n c : Nat} {z : Int} {X : Obj} (h : Wx W b a n c z) : Wx (W.alloc X) b a n c z := h.alloc X
theorem zWn {W : World} {b : Bool} {a : Option Addr} {n c k : Nat} {z : Int} (h : Wx W b a n c z) : Wx (W.drewN k) b a n c z := h.drewN k
theorem bk2 {W : World} {g : Nat} {x y : Value} {T : TypeId} (h : W.heap[g]? = some (.cells #[x, y] T (0, 0))) : W.cell? ⟨g, 0, none⟩ = some x ∧ W.cell? ⟨g, 1, none⟩ = some y ∧ (∀ o, W.frozen? ⟨g, o, none⟩ = false) ∧ g < W.heap.size := ⟨blk_cell h 0, blk_cell h 1, blk_frozen h, blk_lt' h⟩
theorem bk3 {W : World} {g : Nat} {x y z : Value} {T : TypeId} (h : W.heap[g]? = some (.cells #[x, y, z] T (0, 0))) : W.cell? ⟨g, 0, none⟩ = some x ∧ W.cell? ⟨g, 1, none⟩ = some y ∧ W.cell? ⟨g, 2, none⟩ = some z ∧ (∀ o, W.frozen? ⟨g, o, none⟩ = false) ∧ g < W.heap.size := ⟨blk_cell h 0, blk_cell h 1, blk_cell h 2, blk_frozen h, blk_lt' h⟩
end
section
open Go.RowKit
set_option linter.unusedVariables false
set_option maxHeartbeats 1000000
set_option maxRecDepth 20000
set_option linter.unusedSimpArgs false
attribute [local go_sem] openAt openUpon
theorem val_ab' (z : Int) : val (limbs (ab z)) = ab z := limbs_val (ab_nonneg z)
theorem isNaN_any (x : Int) (w : World) : Calls Try.prog 88 #[.int .i64 x] w fun e w' => e = .returned (.bool false) ∧ w = w' := by
 have hx : (x != x) = false := by simp
 go_enter Try.func88, Try.ntmps88
 go_wp2_with fail
 go_ret
 exact ⟨rfl, rfl⟩
theorem compare_any (x y : Int) (w : World) : Calls Try.prog 86 #[.int .i64 x, .int .i64 y] w fun e w' => e = .returned (.int .i64 (cmpI x y)) ∧ w = w' := by
 rcases Int.lt_trichotomy x y with h | h | h
 ·go_enter Try.func86, Try.ntmps86
  go_wp2_with (first | (go_at_call 88; refine (isNaN_any _ _).mono ?_; rintro e w' ⟨rfl, rfl⟩))
  go_ret
  exact ⟨ret_int (cmp_lt h).symm, rfl⟩
 ·have H := Lib.hid h
  have h1 : ¬ x < y := by omega
  have h2 : ¬ y < x := by omega
  clear h
  go_enter Try.func86, Try.ntmps86
  go_wp2_with (first | (go_at_call 88; refine (isNaN_any _ _).mono ?_; rintro e w' ⟨rfl, rfl⟩))
  go_ret
  exact ⟨ret_int (cmp_eq H.out).symm, rfl⟩
 ·have h1 : ¬ x < y := by omega
  go_enter Try.func86, Try.ntmps86
  go_wp2_with (first | (go_at_call 88; refine (isNaN_any _ _).mono ?_; rintro e w' ⟨rfl, rfl⟩))
  go_ret
  exact ⟨ret_int (cmp_gt h).symm, rfl⟩
theorem ln_lt_ab {x y : Int} (h : ln x < ln y) : ab x < ab y := by
 rcases Int.lt_or_le (ab x) (ab y) with h' | h'
 ·exact h'
 ·have := ln_mono h'; omega
def OzRel (zs ys : List Int) (m : Nat) (iv : Value) (w0 wr : World) : Prop := ∃ k : Nat, iv = .int .i64 ((k : Int) - 1) ∧ k ≤ m ∧ val (zs.drop k) = val (ys.drop k) ∧ Below w0.heap.size w0 wr
theorem compareSizes_any (b b2 : Bool) (a a2 : Option Addr) (n c n2 c2 : Nat) (x y : Int) (w : World) (hs : Wx w b a n c x) (hs2 : Wx w b2 a2 n2 c2 y) (hl : n ≤ 1000000) (hl2 : n2 ≤ 1000000) :
  Calls Try.prog 78 #[.agg #[.bool b, .slice a n c], .agg #[.bool b2, .slice a2 n2 c2]] w fun e w' => e = .returned (.int .i64 (cmpI (ab x) (ab y))) ∧ Below w.heap.size w w' := by
 have hn := hs.ln
 have hn2 := hs2.ln
 by_cases hne : n = n2
 ·have HNE := Lib.hid hne
  have hd := limbs_dig (ab x)
  have hd2 := limbs_dig (ab y)
  have HX := Lib.hid (val_ab' x)
  have HY := Lib.hid (val_ab' y)
  have hr := hs.row
  have hr2 := hs2.row
  clear hs hs2 hn hn2
  generalize limbs (ab x) = zs at *
  generalize limbs (ab y) = ys at *
  have HL := Lib.hid hr.len
  have HL2 := Lib.hid hr2.len
  subst hne
  have hnn : ((n : Int) != (n : Int)) = false := by simp
  go_enter Try.func78, Try.ntmps78
  go_wp2_with fail
  refine chk (fun W => Below w.heap.size w W ∧ W.heap[w.heap.size]? = some (.cells #[.bool b, .slice a n c] 79 (0, 0)) ∧ W.heap[w.heap.size + 1]? = some (.cells #[.bool b2, .slice a2 n c2] 79 (0, 0))) (by refine ⟨?_, ?_, ?_⟩ <;> (exact ck)) ?_
  rintro w1 ⟨hB1, qi, qj⟩
  obtain ⟨qx, qy, xb, xh⟩ := bk2 qi
  replace qi := Lib.hid qi
  obtain ⟨qz, xa, xc, xi⟩ := bk2 qj
  replace qj := Lib.hid qj
  replace hr := hr.below hB1
  replace hr2 := hr2.below hB1
  go_loopw [5] (fun iv wr => OzRel zs ys n iv w1 wr) (fun iv _ => (intOf iv + 1).toNat)
  case atStart => exact ⟨n, rfl, Nat.le_refl _, by rw [List.drop_eq_nil_of_le (by have := HL.out; omega), List.drop_eq_nil_of_le (by have := HL2.out; omega)], Below.refl _ _⟩
  case round =>
   obtain ⟨k, rfl, hk, hv, hb2⟩ := hrel
   obtain ⟨w2, rfl⟩ : ∃ w2 : World, w2 = wr := ⟨_, rfl⟩
   have HV := Lib.hid hv
   clear hv
   have hsz2 := hb2.size
   have qe := (hb2.block (w.heap.size) (blk_lt' qi.out)).trans qi.out
   clear qx qy xb qi
   obtain ⟨qk, ql, qv, xj⟩ := bk2 qe
   replace qe := Lib.hid qe
   have qf := (hb2.block (w.heap.size + 1) (blk_lt' qj.out)).trans qj.out
   clear qz xa xc qj
   obtain ⟨qm, qn, qw, xm⟩ := bk2 qf
   replace qf := Lib.hid qf
   have hB2 : Below w.heap.size w w2 := below_via hb2 (by assumption) (by go_size)
   by_cases h0 : 0 < k
   ·obtain ⟨b1, off1, rfl, hb1, hcs⟩ := hr.at (by omega)
    obtain ⟨b2', off2, rfl, hb2', hcs2⟩ := hr2.at (by omega)
    have c1 := (hb2.cell (p := ⟨b1, off1 + (k - 1), none⟩) hb1).trans (hcs (k - 1) (by omega))
    have c2' := (hb2.cell (p := ⟨b2', off2 + (k - 1), none⟩) hb2').trans (hcs2 (k - 1) (by omega))
    replace hb1 : b1 < w2.heap.size := by omega
    replace hb2' : b2' < w2.heap.size := by omega
    have ek : ((k : Int) - 1).toNat = k - 1 := by omega
    have hk1 : (k : Int) - 1 < (n : Int) := by omega
    have hk2 : (0 : Int) ≤ (k : Int) - 1 := by omega
    have hk3 : (1 : Int) ≤ (k : Int) := by omega
    have hk4 : decide ((1 : Int) ≤ (k : Int)) = true := by simpa using hk3
    have HV1 := Lib.hid (show val (zs.drop (k - 1 + 1)) = val (ys.drop (k - 1 + 1)) by rw [show k - 1 + 1 = k by omega]; exact HV.out)
    have C1 := Lib.hid (fun h => cmp_hi hd hd2 HV1.out h)
    have C2 := Lib.hid (fun h => cmp_hi hd2 hd HV1.out.symm h)
    have C3 := Lib.hid (fun h => drop_eq_step HV1.out h)
    rw [List.getD_eq_getElem?_getD, List.getD_eq_getElem?_getD] at C1 C2 C3
    clear hcs hcs2
    generalize zs[k - 1]?.getD 0 = x1 at *
    generalize ys[k - 1]?.getD 0 = y1 at *
    by_cases he : x1 = y1
    ·have HE := Lib.hid he
     subst he
     have hxx : (x1 != x1) = false := by simp
     go_wp2_with fail
     refine wp_open (n := 10) (by kernel_rfl) (by kernel_rfl) (by kernel_rfl) (by kernel_rfl) ?_
     simp only [List.take_succ_cons, List.take_zero]
     apply wpS_quiet
     ·intro γ W hW hp
      refine ⟨rfl, ?_⟩
      go_big_quiet_op
      first | exact rfl
     ·exact locS_const _
     try simp only [Act.put, List.setIfInBounds_toArray, List.set_cons_succ, List.set_cons_zero, Nat.reduceAdd]
     apply wpS_quiet
     ·intro γ W hW hp
      have hs := hW.size
      (try simp only [sA, sB, sC, sD] at hs)
      have qo := fun x => (xcA hW (w.heap.size) 0 (by first | omega | go_size) x).trans qk
      have qp := fun x => (xcA hW (w.heap.size) 1 (by first | omega | go_size) x).trans ql
      clear hW hp
      refine ⟨rfl, ?_⟩
      go_big_quiet_op
      first | exact rfl
     ·exact locS_const _
     try simp only [Act.put, List.setIfInBounds_toArray, List.set_cons_succ, List.set_cons_zero, Nat.reduceAdd]
     apply wpS_quiet
     ·intro γ W hW hp
      refine ⟨rfl, ?_⟩
      go_big_quiet_op
      first | exact rfl
     ·exact locS_const _
     try simp only [Act.put, List.setIfInBounds_toArray, List.set_cons_succ, List.set_cons_zero, Nat.reduceAdd]
     apply wpS_quiet
     ·intro γ W hW hp
      have hs := hW.size
      (try simp only [sA, sB, sC, sD] at hs)
      try (have qa := xcA hW (w.heap.size) 0; simp [go_sem, *] at qa)
      try (have qb := xcA hW (w.heap.size) 1; simp [go_sem, *] at qb)
      try (have qc := xcA hW (w.heap.size + 1) 0; simp [go_sem, *] at qc)
      try (have qd := xcA hW (w.heap.size + 1) 1; simp [go_sem, *] at qd)
      clear hW hp
      refine ⟨rfl, ?_⟩
      go_big_quiet_op
      first | exact rfl
     ·exact locS_const _
     try simp only [Act.put, List.setIfInBounds_toArray, List.set_cons_succ, List.set_cons_zero, Nat.reduceAdd]
     apply wpS_quiet
     ·intro γ W hW hp
      have q1 := fun x : Over W => (cellAt x.lies b1 (Nat.lt_of_lt_of_le hb1 hW.size) (off1 + (k - 1))).trans ((cellAt hW b1 hb1 (off1 + (k - 1))).trans c1)
      have hs := hW.size
      (try simp only [sA, sB, sC, sD] at hs)
      try (have qa := xcA hW (w.heap.size) 0; simp [go_sem, *] at qa)
      try (have qb := xcA hW (w.heap.size) 1; simp [go_sem, *] at qb)
      try (have qc := xcA hW (w.heap.size + 1) 0; simp [go_sem, *] at qc)
      try (have qd := xcA hW (w.heap.size + 1) 1; simp [go_sem, *] at qd)
      clear hW hp
      refine ⟨rfl, ?_⟩
      go_big_quiet_op
      first | exact rfl
     ·exact locS_const _
     try simp only [Act.put, List.setIfInBounds_toArray, List.set_cons_succ, List.set_cons_zero, Nat.reduceAdd]
     apply wpS_quiet
     ·intro γ W hW hp
      refine ⟨rfl, ?_⟩
      go_big_quiet_op
      first | exact rfl
     ·exact locS_const _
     try simp only [Act.put, List.setIfInBounds_toArray, List.set_cons_succ, List.set_cons_zero, Nat.reduceAdd]
     apply wpS_quiet
     ·intro γ W hW hp
      have hs := hW.size
      (try simp only [sA, sB, sC, sD] at hs)
      have qo := fun x => (xcA hW (w.heap.size + 1) 0 (by first | omega | go_size) x).trans qm
      have qp := fun x => (xcA hW (w.heap.size + 1) 1 (by first | omega | go_size) x).trans qn
      clear hW hp
      refine ⟨rfl, ?_⟩
      go_big_quiet_op
      first | exact rfl
     ·exact locS_const _
     try simp only [Act.put, List.setIfInBounds_toArray, List.set_cons_succ, List.set_cons_zero, Nat.reduceAdd]
     apply wpS_quiet
     ·intro γ W hW hp
      refine ⟨rfl, ?_⟩
      go_big_quiet_op
      first | exact rfl
     ·exact locS_const _
     try simp only [Act.put, List.setIfInBounds_toArray, List.set_cons_succ, List.set_cons_zero, Nat.reduceAdd]
     apply wpS_quiet
     ·intro γ W hW hp
      have hs := hW.size
      (try simp only [sA, sB, sC, sD] at hs)
      try (have qa := xcA hW (w.heap.size) 0; simp [go_sem, *] at qa)
      try (have qb := xcA hW (w.heap.size) 1; simp [go_sem, *] at qb)
      try (have qc := xcA hW (w.heap.size + 1) 0; simp [go_sem, *] at qc)
      try (have qd := xcA hW (w.heap.size + 1) 1; simp [go_sem, *] at qd)
      clear hW hp
      refine ⟨rfl, ?_⟩
      go_big_quiet_op
      first | exact rfl
     ·exact locS_const _
     try simp only [Act.put, List.setIfInBounds_toArray, List.set_cons_succ, List.set_cons_zero, Nat.reduceAdd]
     apply wpS_quiet
     ·intro γ W hW hp
      have q2 := fun x : Over W => (cellAt x.lies b2' (Nat.lt_of_lt_of_le hb2' hW.size) (off2 + (k - 1))).trans ((cellAt hW b2' hb2' (off2 + (k - 1))).trans c2')
      have hs := hW.size
      (try simp only [sA, sB, sC, sD] at hs)
      try (have qa := xcA hW (w.heap.size) 0; simp [go_sem, *] at qa)
      try (have qb := xcA hW (w.heap.size) 1; simp [go_sem, *] at qb)
      try (have qc := xcA hW (w.heap.size + 1) 0; simp [go_sem, *] at qc)
      try (have qd := xcA hW (w.heap.size + 1) 1; simp [go_sem, *] at qd)
      clear hW hp
      refine ⟨rfl, ?_⟩
      go_big_quiet_op
      first | exact rfl
     ·exact locS_const _
     try simp only [Act.put, List.setIfInBounds_toArray, List.set_cons_succ, List.set_cons_zero, Nat.reduceAdd]
     apply wpS_end
     intro γ w3 hb3 hG3 hA3
     clear hG3 hA3
     simp only [List.drop_succ_cons, List.drop_zero]
     have hz3 := hb3.size
     (try simp only [sA, sB, sC, sD] at hz3)
     have qg := (hb3.block (w.heap.size) (blk_lt' qe.out)).trans qe.out
     clear qk ql qv qe
     obtain ⟨qq, qr, xd, xe⟩ := bk2 qg
     replace qg := Lib.hid qg
     have qh := (hb3.block (w.heap.size + 1) (blk_lt' qf.out)).trans qf.out
     clear qm qn qw qf
     obtain ⟨qt, qu, xf, xg⟩ := bk2 qh
     replace qh := Lib.hid qh
     have hB3 : Below w.heap.size w w3 := below_via hb3 (by assumption) (by go_size)
     go_wp2_with fail
     go_roundw
     case rel => exact ⟨k - 1, by congr 1; omega, by omega, C3.out (by first | rfl | trivial), hb2.trans (hb3.mono hb2.size)⟩
     case measure => simp [intOf]; omega
    ·have hxx : (x1 != y1) = true := by simpa using he
     go_wp2_with fail
     refine wp_open (n := 10) (by kernel_rfl) (by kernel_rfl) (by kernel_rfl) (by kernel_rfl) ?_
     simp only [List.take_succ_cons, List.take_zero]
     apply wpS_quiet
     ·intro γ W hW hp
      refine ⟨rfl, ?_⟩
      go_big_quiet_op
      first | exact rfl
     ·exact locS_const _
     try simp only [Act.put, List.setIfInBounds_toArray, List.set_cons_succ, List.set_cons_zero, Nat.reduceAdd]
     apply wpS_quiet
     ·intro γ W hW hp
      have hs := hW.size
      (try simp only [sA, sB, sC, sD] at hs)
      have qo := fun x => (xcA hW (w.heap.size) 0 (by first | omega | go_size) x).trans qk
      have qp := fun x => (xcA hW (w.heap.size) 1 (by first | omega | go_size) x).trans ql
      clear hW hp
      refine ⟨rfl, ?_⟩
      go_big_quiet_op
      first | exact rfl
     ·exact locS_const _
     try simp only [Act.put, List.setIfInBounds_toArray, List.set_cons_succ, List.set_cons_zero, Nat.reduceAdd]
     apply wpS_quiet
     ·intro γ W hW hp
      refine ⟨rfl, ?_⟩
      go_big_quiet_op
      first | exact rfl
     ·exact locS_const _
     try simp only [Act.put, List.setIfInBounds_toArray, List.set_cons_succ, List.set_cons_zero, Nat.reduceAdd]
     apply wpS_quiet
     ·intro γ W hW hp
      have hs := hW.size
      (try simp only [sA, sB, sC, sD] at hs)
      try (have qa := xcA hW (w.heap.size) 0; simp [go_sem, *] at qa)
      try (have qb := xcA hW (w.heap.size) 1; simp [go_sem, *] at qb)
      try (have qc := xcA hW (w.heap.size + 1) 0; simp [go_sem, *] at qc)
      try (have qd := xcA hW (w.heap.size + 1) 1; simp [go_sem, *] at qd)
      clear hW hp
      refine ⟨rfl, ?_⟩
      go_big_quiet_op
      first | exact rfl
     ·exact locS_const _
     try simp only [Act.put, List.setIfInBounds_toArray, List.set_cons_succ, List.set_cons_zero, Nat.reduceAdd]
     apply wpS_quiet
     ·intro γ W hW hp
      have q1 := fun x : Over W => (cellAt x.lies b1 (Nat.lt_of_lt_of_le hb1 hW.size) (off1 + (k - 1))).trans ((cellAt hW b1 hb1 (off1 + (k - 1))).trans c1)
      have hs := hW.size
      (try simp only [sA, sB, sC, sD] at hs)
      try (have qa := xcA hW (w.heap.size) 0; simp [go_sem, *] at qa)
      try (have qb := xcA hW (w.heap.size) 1; simp [go_sem, *] at qb)
      try (have qc := xcA hW (w.heap.size + 1) 0; simp [go_sem, *] at qc)
      try (have qd := xcA hW (w.heap.size + 1) 1; simp [go_sem, *] at qd)
      clear hW hp
      refine ⟨rfl, ?_⟩
      go_big_quiet_op
      first | exact rfl
     ·exact locS_const _
     try simp only [Act.put, List.setIfInBounds_toArray, List.set_cons_succ, List.set_cons_zero, Nat.reduceAdd]
     apply wpS_quiet
     ·intro γ W hW hp
      refine ⟨rfl, ?_⟩
      go_big_quiet_op
      first | exact rfl
     ·exact locS_const _
     try simp only [Act.put, List.setIfInBounds_toArray, List.set_cons_succ, List.set_cons_zero, Nat.reduceAdd]
     apply wpS_quiet
     ·intro γ W hW hp
      have hs := hW.size
      (try simp only [sA, sB, sC, sD] at hs)
      have qo := fun x => (xcA hW (w.heap.size + 1) 0 (by first | omega | go_size) x).trans qm
      have qp := fun x => (xcA hW (w.heap.size + 1) 1 (by first | omega | go_size) x).trans qn
      clear hW hp
      refine ⟨rfl, ?_⟩
      go_big_quiet_op
      first | exact rfl
     ·exact locS_const _
     try simp only [Act.put, List.setIfInBounds_toArray, List.set_cons_succ, List.set_cons_zero, Nat.reduceAdd]
     apply wpS_quiet
     ·intro γ W hW hp
      refine ⟨rfl, ?_⟩
      go_big_quiet_op
      first | exact rfl
     ·exact locS_const _
     try simp only [Act.put, List.setIfInBounds_toArray, List.set_cons_succ, List.set_cons_zero, Nat.reduceAdd]
     apply wpS_quiet
     ·intro γ W hW hp
      have hs := hW.size
      (try simp only [sA, sB, sC, sD] at hs)
      try (have qa := xcA hW (w.heap.size) 0; simp [go_sem, *] at qa)
      try (have qb := xcA hW (w.heap.size) 1; simp [go_sem, *] at qb)
      try (have qc := xcA hW (w.heap.size + 1) 0; simp [go_sem, *] at qc)
      try (have qd := xcA hW (w.heap.size + 1) 1; simp [go_sem, *] at qd)
      clear hW hp
      refine ⟨rfl, ?_⟩
      go_big_quiet_op
      first | exact rfl
     ·exact locS_const _
     try simp only [Act.put, List.setIfInBounds_toArray, List.set_cons_succ, List.set_cons_zero, Nat.reduceAdd]
     apply wpS_quiet
     ·intro γ W hW hp
      have q2 := fun x : Over W => (cellAt x.lies b2' (Nat.lt_of_lt_of_le hb2' hW.size) (off2 + (k - 1))).trans ((cellAt hW b2' hb2' (off2 + (k - 1))).trans c2')
      have hs := hW.size
      (try simp only [sA, sB, sC, sD] at hs)
      try (have qa := xcA hW (w.heap.size) 0; simp [go_sem, *] at qa)
      try (have qb := xcA hW (w.heap.size) 1; simp [go_sem, *] at qb)
      try (have qc := xcA hW (w.heap.size + 1) 0; simp [go_sem, *] at qc)
      try (have qd := xcA hW (w.heap.size + 1) 1; simp [go_sem, *] at qd)
      clear hW hp
      refine ⟨rfl, ?_⟩
      go_big_quiet_op
      first | exact rfl
     ·exact locS_const _
     try simp only [Act.put, List.setIfInBounds_toArray, List.set_cons_succ, List.set_cons_zero, Nat.reduceAdd]
     apply wpS_end
     intro γ w3 hb3 hG3 hA3
     clear hG3 hA3
     simp only [List.drop_succ_cons, List.drop_zero]
     have hz3 := hb3.size
     (try simp only [sA, sB, sC, sD] at hz3)
     have qg := (hb3.block (w.heap.size) (blk_lt' qe.out)).trans qe.out
     clear qk ql qv qe
     obtain ⟨qq, qr, xd, xe⟩ := bk2 qg
     replace qg := Lib.hid qg
     have qh := (hb3.block (w.heap.size + 1) (blk_lt' qf.out)).trans qf.out
     clear qm qn qw qf
     obtain ⟨qt, qu, xf, xg⟩ := bk2 qh
     replace qh := Lib.hid qh
     have hB3 : Below w.heap.size w w3 := below_via hb3 (by assumption) (by go_size)
     replace c1 := (hb3.cell (p := ⟨b1, off1 + (k - 1), none⟩) hb1).trans c1
     replace c2' := (hb3.cell (p := ⟨b2', off2 + (k - 1), none⟩) hb2').trans c2'
     replace hb1 : b1 < w3.heap.size := Nat.lt_of_lt_of_le hb1 hb3.size
     replace hb2' : b2' < w3.heap.size := Nat.lt_of_lt_of_le hb2' hb3.size
     go_wp2_with fail
     refine wp_open (n := 11) (by kernel_rfl) (by kernel_rfl) (by kernel_rfl) (by kernel_rfl) ?_
     simp only [List.take_succ_cons, List.take_zero]
     apply wpS_quiet
     ·intro γ W hW hp
      refine ⟨rfl, ?_⟩
      go_big_quiet_op
      first | exact rfl
     ·exact locS_const _
     try simp only [Act.put, List.setIfInBounds_toArray, List.set_cons_succ, List.set_cons_zero, Nat.reduceAdd]
     apply wpS_quiet
     ·intro γ W hW hp
      have hs := hW.size
      (try simp only [sA, sB, sC, sD] at hs)
      have qo := fun x => (xcA hW (w.heap.size) 0 (by first | omega | go_size) x).trans qq
      have qp := fun x => (xcA hW (w.heap.size) 1 (by first | omega | go_size) x).trans qr
      clear hW hp
      refine ⟨rfl, ?_⟩
      go_big_quiet_op
      first | exact rfl
     ·exact locS_const _
     try simp only [Act.put, List.setIfInBounds_toArray, List.set_cons_succ, List.set_cons_zero, Nat.reduceAdd]
     apply wpS_quiet
     ·intro γ W hW hp
      refine ⟨rfl, ?_⟩
      go_big_quiet_op
      first | exact rfl
     ·exact locS_const _
     try simp only [Act.put, List.setIfInBounds_toArray, List.set_cons_succ, List.set_cons_zero, Nat.reduceAdd]
     apply wpS_quiet
     ·intro γ W hW hp
      have hs := hW.size
      (try simp only [sA, sB, sC, sD] at hs)
      try (have qa := xcA hW (w.heap.size) 0; simp [go_sem, *] at qa)
      try (have qb := xcA hW (w.heap.size) 1; simp [go_sem, *] at qb)
      try (have qc := xcA hW (w.heap.size + 1) 0; simp [go_sem, *] at qc)
      try (have qd := xcA hW (w.heap.size + 1) 1; simp [go_sem, *] at qd)
      clear hW hp
      refine ⟨rfl, ?_⟩
      go_big_quiet_op
      first | exact rfl
     ·exact locS_const _
     try simp only [Act.put, List.setIfInBounds_toArray, List.set_cons_succ, List.set_cons_zero, Nat.reduceAdd]
     apply wpS_quiet
     ·intro γ W hW hp
      have q1 := fun x : Over W => (cellAt x.lies b1 (Nat.lt_of_lt_of_le hb1 hW.size) (off1 + (k - 1))).trans ((cellAt hW b1 hb1 (off1 + (k - 1))).trans c1)
      have hs := hW.size
      (try simp only [sA, sB, sC, sD] at hs)
      try (have qa := xcA hW (w.heap.size) 0; simp [go_sem, *] at qa)
      try (have qb := xcA hW (w.heap.size) 1; simp [go_sem, *] at qb)
      try (have qc := xcA hW (w.heap.size + 1) 0; simp [go_sem, *] at qc)
      try (have qd := xcA hW (w.heap.size + 1) 1; simp [go_sem, *] at qd)
      clear hW hp
      refine ⟨rfl, ?_⟩
      go_big_quiet_op
      first | exact rfl
     ·exact locS_const _
     try simp only [Act.put, List.setIfInBounds_toArray, List.set_cons_succ, List.set_cons_zero, Nat.reduceAdd]
     apply wpS_quiet
     ·intro γ W hW hp
      refine ⟨rfl, ?_⟩
      go_big_quiet_op
      first | exact rfl
     ·exact locS_const _
     try simp only [Act.put, List.setIfInBounds_toArray, List.set_cons_succ, List.set_cons_zero, Nat.reduceAdd]
     apply wpS_quiet
     ·intro γ W hW hp
      have hs := hW.size
      (try simp only [sA, sB, sC, sD] at hs)
      have qo := fun x => (xcA hW (w.heap.size + 1) 0 (by first | omega | go_size) x).trans qt
      have qp := fun x => (xcA hW (w.heap.size + 1) 1 (by first | omega | go_size) x).trans qu
      clear hW hp
      refine ⟨rfl, ?_⟩
      go_big_quiet_op
      first | exact rfl
     ·exact locS_const _
     try simp only [Act.put, List.setIfInBounds_toArray, List.set_cons_succ, List.set_cons_zero, Nat.reduceAdd]
     apply wpS_quiet
     ·intro γ W hW hp
      refine ⟨rfl, ?_⟩
      go_big_quiet_op
      first | exact rfl
     ·exact locS_const _
     try simp only [Act.put, List.setIfInBounds_toArray, List.set_cons_succ, List.set_cons_zero, Nat.reduceAdd]
     apply wpS_quiet
     ·intro γ W hW hp
      have hs := hW.size
      (try simp only [sA, sB, sC, sD] at hs)
      try (have qa := xcA hW (w.heap.size) 0; simp [go_sem, *] at qa)
      try (have qb := xcA hW (w.heap.size) 1; simp [go_sem, *] at qb)
      try (have qc := xcA hW (w.heap.size + 1) 0; simp [go_sem, *] at qc)
      try (have qd := xcA hW (w.heap.size + 1) 1; simp [go_sem, *] at qd)
      clear hW hp
      refine ⟨rfl, ?_⟩
      go_big_quiet_op
      first | exact rfl
     ·exact locS_const _
     try simp only [Act.put, List.setIfInBounds_toArray, List.set_cons_succ, List.set_cons_zero, Nat.reduceAdd]
     apply wpS_quiet
     ·intro γ W hW hp
      have q2 := fun x : Over W => (cellAt x.lies b2' (Nat.lt_of_lt_of_le hb2' hW.size) (off2 + (k - 1))).trans ((cellAt hW b2' hb2' (off2 + (k - 1))).trans c2')
      have hs := hW.size
      (try simp only [sA, sB, sC, sD] at hs)
      try (have qa := xcA hW (w.heap.size) 0; simp [go_sem, *] at qa)
      try (have qb := xcA hW (w.heap.size) 1; simp [go_sem, *] at qb)
      try (have qc := xcA hW (w.heap.size + 1) 0; simp [go_sem, *] at qc)
      try (have qd := xcA hW (w.heap.size + 1) 1; simp [go_sem, *] at qd)
      clear hW hp
      refine ⟨rfl, ?_⟩
      go_big_quiet_op
      first | exact rfl
     ·exact locS_const _
     try simp only [Act.put, List.setIfInBounds_toArray, List.set_cons_succ, List.set_cons_zero, Nat.reduceAdd]
     apply wpS_quiet
     ·intro γ W hW hp
      refine ⟨rfl, ?_⟩
      go_big_quiet_op
      apply Exists.intro
      refine ⟨fun x => ?_, ?_⟩
      ·(first | (go_at_call 86; exact draw_of_same _ (compare_any _ _ _)))
      exact rfl
     ·exact locS_const _
     try simp only [Act.put, List.setIfInBounds_toArray, List.set_cons_succ, List.set_cons_zero, Nat.reduceAdd]
     apply wpS_end
     intro γ w4 hb4 hG4 hA4
     clear hG4 hA4
     simp only [List.drop_succ_cons, List.drop_zero]
     have hz4 := hb4.size
     (try simp only [sA, sB, sC, sD] at hz4)
     go_wp2_with fail
     go_ret
     refine ⟨ret_int ?_, ?_⟩
     ·rcases Int.lt_trichotomy x1 y1 with h | h | h
      ·rw [cmp_lt h, cmp_lt (by have := C1.out h; rwa [HX.out, HY.out] at this)]
      ·exact absurd h he
      ·rw [cmp_gt h, cmp_gt (by have := C2.out h; rwa [HX.out, HY.out] at this)]
     ·exact bel
   ·obtain rfl : k = 0 := by omega
    go_wp2_with fail
    go_ret
    refine ⟨ret_int (cmp_eq (by have := HV.out; simp only [List.drop_zero] at this; rwa [HX.out, HY.out] at this)).symm, ?_⟩
    exact bel
 ·have hnn : ((n : Int) != (n2 : Int)) = true := by simp; omega
  have HR := Lib.hid (show cmpI (n : Int) (n2 : Int) = cmpI (ab x) (ab y) by
   rcases Nat.lt_or_ge n n2 with h | h
   ·rw [cmp_lt (by omega), cmp_lt (ln_lt_ab (by omega))]
   ·rw [cmp_gt (by omega), cmp_gt (ln_lt_ab (by omega))])
  clear hn hn2 hne
  go_enter Try.func78, Try.ntmps78
  go_wp2_with (first | (go_at_call 86; refine (compare_any _ _ _).mono ?_; rintro e w' ⟨rfl, rfl⟩))
  go_ret
  refine ⟨ret_int HR.out, ?_⟩
  exact bel
def AlRel (W0 : World) (g : Nat) (zs ys : List Int) (s : Int) (m : Nat) (cv iv : Value) (wr : World) : Prop := ∃ (i : Nat) (qs : List Int) (c : Int), iv = .int .i64 i ∧ cv = .int .i64 c ∧ i ≤ m ∧ qs.length = m ∧ Dig (qs.take i) ∧ (s - 1 ≤ 2 * c ∧ 2 * c ≤ s + 1) ∧
 val (qs.take i) + 10000 ^ i * c = val (zs.take i) + s * val (ys.take i) ∧ RowW W0 wr g 3 qs
theorem al_next {W0 wr : World} {g i m : Nat} {zs ys qs : List Int} {s c r c' x y : Int} (him : i < m) (hq : qs.length = m) (hd : Dig (qs.take i)) (hv : val (qs.take i) + 10000 ^ i * c = val (zs.take i) + s * val (ys.take i))
  (hx : zs.getD i 0 = x) (hy : ys.getD i 0 = y) (he : x + s * y + c = r + 10000 * c') (hr : 0 ≤ r ∧ r ≤ 9999) (hc' : s - 1 ≤ 2 * c' ∧ 2 * c' ≤ s + 1) (hrow : RowW W0 wr g 3 qs) :
  AlRel W0 g zs ys s m (.int .i64 c') (.int .i64 ((i : Int) + 1)) (wr.setCell ⟨g, i, none⟩ (.int .i64 r)) := by
 have e : (qs.set i r).take (i + 1) = qs.take i ++ [r] := by
  rw [List.take_succ_eq_append_getElem (by simp; omega), List.getElem_set_self, List.take_set_of_le (Nat.le_refl _)]
 refine ⟨i + 1, qs.set i r, c', by push_cast; rfl, rfl, by omega, by simp [hq], ?_, hc', ?_, hrow.set i r⟩
 ·rw [e]; exact hd.append (Dig.cons hr Dig.nil)
 ·rw [e]
  exact sum_step hv (by simp; omega) (show x + s * y + c = c + zs.getD i 0 + s * ys.getD i 0 by rw [hx, hy]; omega) he
theorem max_nat (w : World) (ts : Array TypeId) (t : TypeId) (n n2 m : Nat) (h : m = max n n2) : (Builtin.max_ ts t #[.int .i64 n, .int .i64 n2]).run Try.prog w = .ok (.int .i64 (m : Int)) w := by
 have : max (n : Int) (n2 : Int) = (m : Int) := by omega
 subst h
 by_cases h' : n ≤ n2
 ·simp [go_sem]; omega
 ·simp [go_sem]; omega
theorem addLimbs_any (a a2 : Option Addr) (n c n2 c2 : Nat) (s : Int) (zs ys : List Int) (w : World) (hs : Sx w a n c zs) (hs2 : Sx w a2 n2 c2 ys) (hd : Dig zs) (hd2 : Dig ys) (hl : n ≤ 90000) (hl2 : n2 ≤ 90000) (hsg : s = 1 ∨ s = -1) (hge : s = -1 → val ys ≤ val zs) :
  Calls Try.prog 77 #[.slice a n c, .slice a2 n2 c2, .int .i64 s] w (NewD w (val zs + s * val ys) 90001) := by
 obtain ⟨i0, hi, hz0, hz1, hz2⟩ := info_parts infoInt
 obtain ⟨m, hm⟩ : ∃ m, m = max n n2 := ⟨_, rfl⟩
 have hmx := fun (w : World) (ts : Array TypeId) (t : TypeId) => max_nat w ts t n n2 m hm
 have hm1 : n ≤ m := by omega
 have hm2 : n2 ≤ m := by omega
 have hmb : m ≤ 90000 := by omega
 have HL := Lib.hid hs.len
 have HL2 := Lib.hid hs2.len
 have HG := Lib.hid hge
 clear hm hge
 rcases hsg with rfl | rfl
 ·go_enter Try.func77, Try.ntmps77
  go_wp2_with (first | (at_make; refine wpList_make_full _ rfl _ _ 25 rfl w.heap.size 3 i0 (.int .i64 0) 1 Try.underlying25 hi hz0 hz1 .i64 .i64 _ _ (m + 1) rfl rfl rfl rfl (by rw [hz2]; omega) (by unfold maxLen; omega) (by simp) ?_; intro W0 hm0 hg0; have hr0 := RowW.start hm0; have hb0 := made_below (B := w.heap.size) (a := w) bel hg0 (by simp; try omega); have hz0s := hg0.size; clear hm0 hg0))
  have hsz0 := blk_lt' hr0.row
  go_loopw [8, 20] (fun cv iv wr => AlRel W0 w.heap.size zs ys 1 (m + 1) cv iv wr) (fun _ iv _ => m + 1 - (intOf iv).toNat)
  case atStart => exact ⟨0, List.replicate (m + 1) 0, 0, rfl, rfl, by omega, by simp, by simp [Dig.nil], by omega, by simp [val], hr0⟩
  case round =>
   obtain ⟨i, qs, cc, rfl, rfl, hi1, hql, hqd, hc, hv, hrow⟩ := hrel
   have HQ := Lib.hid hql
   have HV := Lib.hid hv
   have HD := Lib.hid hqd
   have hcb : -1 ≤ cc ∧ cc ≤ 1 := by omega
   clear hql hv hqd
   by_cases h0 : i < m + 1
   ·have hlt : (i : Int) < (m : Int) + 1 := by omega
    have dz := hd.getD i
    have dy := hd2.getD i
    have hg2 := hrow.free i
    have hg1 := hrow.cell (j := i) (by have := HQ.out; omega)
    have HN := Lib.hid (fun (r c' x y : Int) (h1 : zs.getD i 0 = x) (h2 : ys.getD i 0 = y) (h3 : _) (h4 : _) (h5 : _) => al_next (s := 1) (r := r) (c' := c') (x := x) (y := y) h0 HQ.out HD.out HV.out h1 h2 h3 h4 h5 hrow)
    by_cases hA : i < n
    ·obtain ⟨b1, off1, rfl, hb1, hcs⟩ := hs.at (by omega)
     have c1 := (hrow.only.cell (b := b1) (by omega) (off1 + i)).trans ((hb0.cell (p := ⟨b1, off1 + i, none⟩) hb1).trans (hcs i hA))
     have HZ := Lib.hid (List.getD_eq_getElem?_getD (l := zs) (i := i) (a := 0))
     rw [List.getD_eq_getElem?_getD] at dz
     clear hcs
     generalize zs[i]?.getD 0 = x at *
     by_cases hB : i < n2
     ·obtain ⟨b2, off2, rfl, hb2, hcs2⟩ := hs2.at (by omega)
      have c2' := (hrow.only.cell (b := b2) (by omega) (off2 + i)).trans ((hb0.cell (p := ⟨b2, off2 + i, none⟩) hb2).trans (hcs2 i hB))
      have HY := Lib.hid (List.getD_eq_getElem?_getD (l := ys) (i := i) (a := 0))
      rw [List.getD_eq_getElem?_getD] at dy
      clear hcs2
      generalize ys[i]?.getD 0 = y at *
      go_wp2_with fail
      all_goals
       go_roundw
       case rel => exact HN.out _ _ x y HZ.out HY.out (by omega) (by omega) (by omega)
       case measure => simp [intOf]; omega
     ·have HY := Lib.hid (show ys.getD i 0 = 0 from gD_ge (by have := HL2.out; omega))
      go_wp2_with fail
      all_goals
       go_roundw
       case rel => exact HN.out _ _ x 0 HZ.out HY.out (by omega) (by omega) (by omega)
       case measure => simp [intOf]; omega
    ·have HZ := Lib.hid (show zs.getD i 0 = 0 from gD_ge (by have := HL.out; omega))
     by_cases hB : i < n2
     ·obtain ⟨b2, off2, rfl, hb2, hcs2⟩ := hs2.at (by omega)
      have c2' := (hrow.only.cell (b := b2) (by omega) (off2 + i)).trans ((hb0.cell (p := ⟨b2, off2 + i, none⟩) hb2).trans (hcs2 i hB))
      have HY := Lib.hid (List.getD_eq_getElem?_getD (l := ys) (i := i) (a := 0))
      rw [List.getD_eq_getElem?_getD] at dy
      clear hcs2
      generalize ys[i]?.getD 0 = y at *
      go_wp2_with fail
      all_goals
       go_roundw
       case rel => exact HN.out _ _ 0 y HZ.out HY.out (by omega) (by omega) (by omega)
       case measure => simp [intOf]; omega
     ·have HY := Lib.hid (show ys.getD i 0 = 0 from gD_ge (by have := HL2.out; omega))
      go_wp2_with fail
      all_goals
       go_roundw
       case rel => exact HN.out _ _ 0 0 HZ.out HY.out (by omega) (by omega) (by omega)
       case measure => simp [intOf]; omega
   ·obtain rfl : i = m + 1 := by omega
    have hqs : Dig qs := by have := HD.out; rwa [List.take_of_length_le (by have := HQ.out; omega)] at this
    have hvz := val_lt hd
    have hvy := val_lt hd2
    have hz0 := val_nonneg hd
    have hy0 := val_nonneg hd2
    have pz := p4_mono (show zs.length ≤ m by have := HL.out; omega)
    have py := p4_mono (show ys.length ≤ m by have := HL2.out; omega)
    have hV : val qs = val zs + 1 * val ys := by
     have h1 := HV.out
     rw [List.take_of_length_le (by have := HQ.out; omega), val_take_all _ _ (by have := HL.out; omega), val_take_all _ _ (by have := HL2.out; omega)] at h1
     refine sum_end hqs HQ.out h1 ?_ ?_
     ·have := HG.out
      simp at this
      omega
     ·rw [Int.pow_succ]; have := p4_pos m; omega
    have HVV := Lib.hid hV
    have hnm : m + 1 ≤ maxLen := by unfold maxLen; omega
    have hsx := hrow.sx HQ.out hnm
    have hbw := hrow.below hb0 (Nat.le_refl _)
    have HSX := Lib.hid hsx
    clear hV hvz hvy pz py hsx hrow
    go_wp2_with fail
    go_ret
    exact ⟨_, _, _, qs, rfl, HSX.out, hqs, HVV.out, by omega, (fun A e => by cases e; exact Nat.le_refl _), hbw⟩
 ·go_enter Try.func77, Try.ntmps77
  go_wp2_with (first | (at_make; refine wpList_make_full _ rfl _ _ 25 rfl w.heap.size 3 i0 (.int .i64 0) 1 Try.underlying25 hi hz0 hz1 .i64 .i64 _ _ (m + 1) rfl rfl rfl rfl (by rw [hz2]; omega) (by unfold maxLen; omega) (by simp) ?_; intro W0 hm0 hg0; have hr0 := RowW.start hm0; have hb0 := made_below (B := w.heap.size) (a := w) bel hg0 (by simp; try omega); have hz0s := hg0.size; clear hm0 hg0))
  have hsz0 := blk_lt' hr0.row
  go_loopw [8, 20] (fun cv iv wr => AlRel W0 w.heap.size zs ys (-1) (m + 1) cv iv wr) (fun _ iv _ => m + 1 - (intOf iv).toNat)
  case atStart => exact ⟨0, List.replicate (m + 1) 0, 0, rfl, rfl, by omega, by simp, by simp [Dig.nil], by omega, by simp [val], hr0⟩
  case round =>
   obtain ⟨i, qs, cc, rfl, rfl, hi1, hql, hqd, hc, hv, hrow⟩ := hrel
   have HQ := Lib.hid hql
   have HV := Lib.hid hv
   have HD := Lib.hid hqd
   have hcb : -1 ≤ cc ∧ cc ≤ 1 := by omega
   clear hql hv hqd
   by_cases h0 : i < m + 1
   ·have hlt : (i : Int) < (m : Int) + 1 := by omega
    have dz := hd.getD i
    have dy := hd2.getD i
    have hg2 := hrow.free i
    have hg1 := hrow.cell (j := i) (by have := HQ.out; omega)
    have HN := Lib.hid (fun (r c' x y : Int) (h1 : zs.getD i 0 = x) (h2 : ys.getD i 0 = y) (h3 : _) (h4 : _) (h5 : _) => al_next (s := (-1)) (r := r) (c' := c') (x := x) (y := y) h0 HQ.out HD.out HV.out h1 h2 h3 h4 h5 hrow)
    by_cases hA : i < n
    ·obtain ⟨b1, off1, rfl, hb1, hcs⟩ := hs.at (by omega)
     have c1 := (hrow.only.cell (b := b1) (by omega) (off1 + i)).trans ((hb0.cell (p := ⟨b1, off1 + i, none⟩) hb1).trans (hcs i hA))
     have HZ := Lib.hid (List.getD_eq_getElem?_getD (l := zs) (i := i) (a := 0))
     rw [List.getD_eq_getElem?_getD] at dz
     clear hcs
     generalize zs[i]?.getD 0 = x at *
     by_cases hB : i < n2
     ·obtain ⟨b2, off2, rfl, hb2, hcs2⟩ := hs2.at (by omega)
      have c2' := (hrow.only.cell (b := b2) (by omega) (off2 + i)).trans ((hb0.cell (p := ⟨b2, off2 + i, none⟩) hb2).trans (hcs2 i hB))
      have HY := Lib.hid (List.getD_eq_getElem?_getD (l := ys) (i := i) (a := 0))
      rw [List.getD_eq_getElem?_getD] at dy
      clear hcs2
      generalize ys[i]?.getD 0 = y at *
      go_wp2_with fail
      all_goals
       go_roundw
       case rel => exact HN.out _ _ x y HZ.out HY.out (by omega) (by omega) (by omega)
       case measure => simp [intOf]; omega
     ·have HY := Lib.hid (show ys.getD i 0 = 0 from gD_ge (by have := HL2.out; omega))
      go_wp2_with fail
      all_goals
       go_roundw
       case rel => exact HN.out _ _ x 0 HZ.out HY.out (by omega) (by omega) (by omega)
       case measure => simp [intOf]; omega
    ·have HZ := Lib.hid (show zs.getD i 0 = 0 from gD_ge (by have := HL.out; omega))
     by_cases hB : i < n2
     ·obtain ⟨b2, off2, rfl, hb2, hcs2⟩ := hs2.at (by omega)
      have c2' := (hrow.only.cell (b := b2) (by omega) (off2 + i)).trans ((hb0.cell (p := ⟨b2, off2 + i, none⟩) hb2).trans (hcs2 i hB))
      have HY := Lib.hid (List.getD_eq_getElem?_getD (l := ys) (i := i) (a := 0))
      rw [List.getD_eq_getElem?_getD] at dy
      clear hcs2
      generalize ys[i]?.getD 0 = y at *
      go_wp2_with fail
      all_goals
       go_roundw
       case rel => exact HN.out _ _ 0 y HZ.out HY.out (by omega) (by omega) (by omega)
       case measure => simp [intOf]; omega
     ·have HY := Lib.hid (show ys.getD i 0 = 0 from gD_ge (by have := HL2.out; omega))
      go_wp2_with fail
      all_goals
       go_roundw
       case rel => exact HN.out _ _ 0 0 HZ.out HY.out (by omega) (by omega) (by omega)
       case measure => simp [intOf]; omega
   ·obtain rfl : i = m + 1 := by omega
    have hqs : Dig qs := by have := HD.out; rwa [List.take_of_length_le (by have := HQ.out; omega)] at this
    have hvz := val_lt hd
    have hvy := val_lt hd2
    have hz0 := val_nonneg hd
    have hy0 := val_nonneg hd2
    have pz := p4_mono (show zs.length ≤ m by have := HL.out; omega)
    have py := p4_mono (show ys.length ≤ m by have := HL2.out; omega)
    have hV : val qs = val zs + (-1) * val ys := by
     have h1 := HV.out
     rw [List.take_of_length_le (by have := HQ.out; omega), val_take_all _ _ (by have := HL.out; omega), val_take_all _ _ (by have := HL2.out; omega)] at h1
     refine sum_end hqs HQ.out h1 ?_ ?_
     ·have := HG.out
      simp at this
      omega
     ·rw [Int.pow_succ]; have := p4_pos m; omega
    have HVV := Lib.hid hV
    have hnm : m + 1 ≤ maxLen := by unfold maxLen; omega
    have hsx := hrow.sx HQ.out hnm
    have hbw := hrow.below hb0 (Nat.le_refl _)
    have HSX := Lib.hid hsx
    clear hV hvz hvy pz py hsx hrow
    go_wp2_with fail
    go_ret
    exact ⟨_, _, _, qs, rfl, HSX.out, hqs, HVV.out, by omega, (fun A e => by cases e; exact Nat.le_refl _), hbw⟩
end
section
open Go.RowKit
set_option linter.unusedVariables false
set_option maxHeartbeats 1000000
set_option maxRecDepth 20000
set_option linter.unusedSimpArgs false
attribute [local go_sem] openAt openUpon
theorem addWholes_eq {b b2 : Bool} {a a2 : Option Addr} {n c n2 c2 : Nat} {x y v : Int} {w : World} (hs : Wx w b a n c x) (hs2 : Wx w b2 a2 n2 c2 y) (e : x + y = v) (l1 : ln x ≤ 10000) (l2 : ln y ≤ 10000) :
  Calls Try.prog 64 #[.agg #[.bool b, .slice a n c], .agg #[.bool b2, .slice a2 n2 c2]] w (NewW w v) := by
 have hl : n ≤ 10000 := by have := hs.ln; omega
 have hl2 : n2 ≤ 10000 := by have := hs2.ln; omega
 have TC : ∀ {b b2 : Bool} {a a2 : Option Addr} {n c n2 c2 : Nat} {x y : Int} (W : World) (s V : Int), Wx W b a n c x → Wx W b2 a2 n2 c2 y → n ≤ 10000 → n2 ≤ 10000 → (s = 1 ∨ s = -1) → (s = -1 → ab y ≤ ab x) → ab x + s * ab y = V → Calls Try.prog 77 #[.slice a n c, .slice a2 n2 c2, .int .i64 s] W (NewD W V 90001) := fun {b b2 a a2 n c n2 c2 x y} W s V h1 h2 g1 g2 h3 h4 h5 => by
  have := addLimbs_any a a2 n c n2 c2 s _ _ W h1.row h2.row (limbs_dig _) (limbs_dig _) (by omega) (by omega) h3 (by rw [val_ab', val_ab']; exact h4)
  rwa [val_ab', val_ab', h5] at this
 have TM : ∀ (W : World) (b : Bool) (V z : Int) (a : Option Addr) (n c : Nat) (zs : List Int), Sx W a n c zs → Dig zs → val zs = V → n ≤ 100001 → mkW b V = z → Calls Try.prog 76 #[.bool b, .slice a n c] W (NewW W z) := fun W b V z a n c zs h1 h2 h3 h4 h5 => by
  have := trimmed_any b a n c zs W h1 (by omega) h2
  rw [h3, h5] at this
  exact this
 have hn := hs.neg
 have hn2 := hs2.neg
 have E := Lib.hid e
 clear e
 by_cases hsame : b = b2
 ·have E1 := Lib.hid (show mkW b (ab x + ab y) = v by rw [hn, add_same (by rw [← hn, ← hn2, hsame]), E.out])
  subst hsame
  have P1 := Lib.hid (show ab x + 1 * ab y = ab x + ab y by omega)
  clear hn hn2
  go_enter Try.func64, Try.ntmps64
  go_wp2_with fail
  refine chk (fun W => Below w.heap.size w W ∧ W.heap[w.heap.size]? = some (.cells #[.bool b, .slice a n c] 79 (0, 0)) ∧ W.heap[w.heap.size + 1]? = some (.cells #[.bool b, .slice a2 n2 c2] 79 (0, 0)) ∧ W.heap[w.heap.size + 1 + 1]? = some (.cells #[.bool false, .slice none 0 0] 79 (0, 0)) ∧ Wx W b a n c x ∧ Wx W b a2 n2 c2 y) (by refine ⟨?_, ?_, ?_, ?_, ?_, ?_⟩ <;> (exact ck)) ?_
  try clear hs
  try clear hs2
  rintro w1 ⟨hB1, qa, qb, qc, hs', hs2'⟩
  obtain ⟨qh, qi, xh, zj⟩ := bk2 qa
  replace qa := Lib.hid qa
  obtain ⟨ql, qm, xi, zk⟩ := bk2 qb
  replace qb := Lib.hid qb
  obtain ⟨qp, qq, xj, zm⟩ := bk2 qc
  replace qc := Lib.hid qc
  have hs := hs'
  clear hs'
  have hs2 := hs2'
  clear hs2'
  refine wp_open (n := 8) (by kernel_rfl) (by kernel_rfl) (by kernel_rfl) (by kernel_rfl) ?_
  simp only [List.take_succ_cons, List.take_zero]
  apply wpS_quiet
  ·intro γ W hW hp
   refine ⟨rfl, ?_⟩
   go_big_quiet_op
   first | exact rfl
  ·exact locS_const _
  try simp only [Act.put, List.setIfInBounds_toArray, List.set_cons_succ, List.set_cons_zero, Nat.reduceAdd]
  apply wpS_quiet
  ·intro γ W hW hp
   have hs := hW.size
   (try simp only [sA, sB, sC, sD] at hs)
   have qw := fun x => (xcA hW (w.heap.size) 0 (by first | omega | go_size) x).trans qh
   have qx := fun x => (xcA hW (w.heap.size) 1 (by first | omega | go_size) x).trans qi
   clear hW hp
   refine ⟨rfl, ?_⟩
   go_big_quiet_op
   first | exact rfl
  ·exact locS_const _
  try simp only [Act.put, List.setIfInBounds_toArray, List.set_cons_succ, List.set_cons_zero, Nat.reduceAdd]
  apply wpS_quiet
  ·intro γ W hW hp
   refine ⟨rfl, ?_⟩
   go_big_quiet_op
   first | exact rfl
  ·exact locS_const _
  try simp only [Act.put, List.setIfInBounds_toArray, List.set_cons_succ, List.set_cons_zero, Nat.reduceAdd]
  apply wpS_quiet
  ·intro γ W hW hp
   have hs := hW.size
   (try simp only [sA, sB, sC, sD] at hs)
   have qw := fun x => (xcA hW (w.heap.size) 0 (by first | omega | go_size) x).trans qh
   have qx := fun x => (xcA hW (w.heap.size) 1 (by first | omega | go_size) x).trans qi
   clear hW hp
   refine ⟨rfl, ?_⟩
   go_big_quiet_op
   first | exact rfl
  ·exact locS_const _
  try simp only [Act.put, List.setIfInBounds_toArray, List.set_cons_succ, List.set_cons_zero, Nat.reduceAdd]
  apply wpS_quiet
  ·intro γ W hW hp
   refine ⟨rfl, ?_⟩
   go_big_quiet_op
   first | exact rfl
  ·exact locS_const _
  try simp only [Act.put, List.setIfInBounds_toArray, List.set_cons_succ, List.set_cons_zero, Nat.reduceAdd]
  apply wpS_quiet
  ·intro γ W hW hp
   have hs := hW.size
   (try simp only [sA, sB, sC, sD] at hs)
   have qw := fun x => (xcA hW (w.heap.size + 1) 0 (by first | omega | go_size) x).trans ql
   have qx := fun x => (xcA hW (w.heap.size + 1) 1 (by first | omega | go_size) x).trans qm
   clear hW hp
   refine ⟨rfl, ?_⟩
   go_big_quiet_op
   first | exact rfl
  ·exact locS_const _
  try simp only [Act.put, List.setIfInBounds_toArray, List.set_cons_succ, List.set_cons_zero, Nat.reduceAdd]
  apply wpS_open (openD w.heap.size (ab x + ab y) 90001)
  ·intro γ W hW hp
   refine ⟨rfl, ?_⟩
   go_simp
   refine plainNew rfl ?_
   exact open_D (TC W 1 _ (hs.below hW) (hs2.below hW) hl hl2 (.inl rfl) (fun e => by omega) P1.out) (by (have := hW.size; (try simp only [sA, sB, sC, sD] at this); omega))
  try simp only [Act.put, List.setIfInBounds_toArray, List.set_cons_succ, List.set_cons_zero, Nat.reduceAdd]
  apply wpS_open (openW w.heap.size v)
  ·intro γ W hW hp
   have qy := hp _ (mR _) (by kernel_rfl)
   dsimp only at qy
   refine ⟨rfl, ?_⟩
   go_simp
   refine plainNew rfl ?_
   obtain ⟨a6, n6, c6, zs6, e6, h6, d6, v6, m6, _⟩ := qy
   rw [e6]
   exact open_W (TM _ _ _ _ _ _ _ _ h6 d6 v6 (by omega) E1.out) (by (have := hW.size; (try simp only [sA, sB, sC, sD] at this); omega))
  try simp only [Act.put, List.setIfInBounds_toArray, List.set_cons_succ, List.set_cons_zero, Nat.reduceAdd]
  apply wpS_end
  intro γ w2 hb2 hG2 hA2
  have zn := hG2 _ (mL _ (mR _))
  dsimp only at zn
  have zo := hG2 _ (mR _)
  dsimp only at zo
  clear hG2 hA2
  simp only [List.drop_succ_cons, List.drop_zero]
  have hz2 := hb2.size
  (try simp only [sA, sB, sC, sD] at hz2)
  obtain ⟨b7, a7, n7, c7, e7, h7, f7⟩ := zo
  simp only [e7]
  clear e7 zn
  have qe := (hb2.block (w.heap.size) (blk_lt' qa.out)).trans qa.out
  clear qh qi xh qa
  obtain ⟨qn, qo, xr, zp⟩ := bk2 qe
  replace qe := Lib.hid qe
  have qf := (hb2.block (w.heap.size + 1) (blk_lt' qb.out)).trans qb.out
  clear ql qm xi qb
  obtain ⟨qr, qt, xt, zq⟩ := bk2 qf
  replace qf := Lib.hid qf
  have qd := (hb2.block (w.heap.size + 1 + 1) (blk_lt' qc.out)).trans qc.out
  clear qp qq xj qc
  obtain ⟨qu, qv, xu, zr⟩ := bk2 qd
  replace qd := Lib.hid qd
  replace hs := hs.below hb2
  replace hs2 := hs2.below hb2
  have hB2 : Below w.heap.size w w2 := below_via hb2 (by assumption) (by go_size)
  go_wp2_with fail
  refine bodyPost_ret (v := .agg #[.bool b7, .slice a7 n7 c7]) (by simp [results, Try.results64, go_sem, qu, qv]) rfl ⟨_, _, _, _, rfl, ?_, f7, ?_⟩
  ·have HO := qd.out
   (exact ck)
  ·(exact ck)
 ·have hb : (b == b2) = false := by simpa using hsame
  have hne : ngB x ≠ ngB y := by rw [← hn, ← hn2]; exact hsame
  by_cases hge : ab y ≤ ab x
  ·have E1 := Lib.hid (show mkW b (ab x - ab y) = v by rw [hn, add_other hne hge, E.out])
   have P1 := Lib.hid (show ab x + -1 * ab y = ab x - ab y by omega)
   have HG := Lib.hid hge
   have hcm : ¬ cmpI (ab x) (ab y) < 0 := by
    unfold cmpI
    split
    ·omega
    ·split <;> omega
   have T3 := fun (W : World) (h1 : Wx W b a n c x) (h2 : Wx W b2 a2 n2 c2 y) => Lib.hid (compareSizes_any b b2 a a2 n c n2 c2 x y W h1 h2 (by omega) (by omega))
   generalize cmpI (ab x) (ab y) = cm at *
   clear hn hn2 hne hge hsame
   have tok1 := trivial
   have tok2 := trivial
   go_enter Try.func64, Try.ntmps64
   go_upto_region 1 with (fail)
   refine chk (fun W => Below w.heap.size w W ∧ W.heap[w.heap.size]? = some (.cells #[.bool b, .slice a n c] 79 (0, 0)) ∧ W.heap[w.heap.size + 1]? = some (.cells #[.bool b2, .slice a2 n2 c2] 79 (0, 0)) ∧ W.heap[w.heap.size + 1 + 1]? = some (.cells #[.bool false, .slice none 0 0] 79 (0, 0)) ∧ Wx W b a n c x ∧ Wx W b2 a2 n2 c2 y) (by refine ⟨?_, ?_, ?_, ?_, ?_, ?_⟩ <;> (exact ck)) ?_
   try clear hs
   try clear hs2
   rintro w1 ⟨hB1, qa, qb, qc, hs', hs2'⟩
   obtain ⟨qh, qi, xh, zj⟩ := bk2 qa
   replace qa := Lib.hid qa
   obtain ⟨ql, qm, xi, zk⟩ := bk2 qb
   replace qb := Lib.hid qb
   obtain ⟨qp, qq, xj, zm⟩ := bk2 qc
   replace qc := Lib.hid qc
   have hs := hs'
   clear hs'
   have hs2 := hs2'
   clear hs2'
   go_wp2_with (first | (have _t := tok2; go_at_call 78; (with_reducible refine ((T3 _ hs hs2).out).mono ?_); rintro e w2 ⟨rfl, hb2⟩; clear tok2 _t; have hz2 := hb2.size; (try simp only [sA, sB, sC, sD] at hz2); (try (obtain ⟨kq, xx⟩ := cfAt hb2 (w.heap.size); have xb := kq 0; have xc := kq 1; clear kq; simp [go_sem, *] at xb xc xx)); (try have jc : w.heap.size < w2.heap.size := by omega); (try (obtain ⟨kq, xy⟩ := cfAt hb2 (w.heap.size + 1); have xd := kq 0; have xe := kq 1; clear kq; simp [go_sem, *] at xd xe xy)); (try have jd : w.heap.size + 1 < w2.heap.size := by omega); (try (obtain ⟨kq, xz⟩ := cfAt hb2 (w.heap.size + 1 + 1); have xf := kq 0; have xg := kq 1; clear kq; simp [go_sem, *] at xf xg xz)); (try have je : w.heap.size + 1 + 1 < w2.heap.size := by omega); (try clear zc zd jf); (try clear jg); (try clear ze zg jh); (try clear ji); (try clear zh zi jj); (try clear jk)))
   have qe := (hb2.block (w.heap.size) (blk_lt' qa.out)).trans qa.out
   clear qh qi xh qa
   obtain ⟨qn, qo, xr, zp⟩ := bk2 qe
   replace qe := Lib.hid qe
   have qf := (hb2.block (w.heap.size + 1) (blk_lt' qb.out)).trans qb.out
   clear ql qm xi qb
   obtain ⟨qr, qt, xt, zq⟩ := bk2 qf
   replace qf := Lib.hid qf
   have qd := (hb2.block (w.heap.size + 1 + 1) (blk_lt' qc.out)).trans qc.out
   clear qp qq xj qc
   obtain ⟨qu, qv, xu, zr⟩ := bk2 qd
   replace qd := Lib.hid qd
   replace hs := hs.below hb2
   replace hs2 := hs2.below hb2
   have hB2 : Below w.heap.size w w2 := below_via hb2 (by assumption) (by go_size)
   refine wp_open (n := 8) (by kernel_rfl) (by kernel_rfl) (by kernel_rfl) (by kernel_rfl) ?_
   simp only [List.take_succ_cons, List.take_zero]
   apply wpS_quiet
   ·intro γ W hW hp
    refine ⟨rfl, ?_⟩
    go_big_quiet_op
    first | exact rfl
   ·exact locS_const _
   try simp only [Act.put, List.setIfInBounds_toArray, List.set_cons_succ, List.set_cons_zero, Nat.reduceAdd]
   apply wpS_quiet
   ·intro γ W hW hp
    have hs := hW.size
    (try simp only [sA, sB, sC, sD] at hs)
    have qw := fun x => (xcA hW (w.heap.size) 0 (by first | omega | go_size) x).trans qn
    have qx := fun x => (xcA hW (w.heap.size) 1 (by first | omega | go_size) x).trans qo
    clear hW hp
    refine ⟨rfl, ?_⟩
    go_big_quiet_op
    first | exact rfl
   ·exact locS_const _
   try simp only [Act.put, List.setIfInBounds_toArray, List.set_cons_succ, List.set_cons_zero, Nat.reduceAdd]
   apply wpS_quiet
   ·intro γ W hW hp
    refine ⟨rfl, ?_⟩
    go_big_quiet_op
    first | exact rfl
   ·exact locS_const _
   try simp only [Act.put, List.setIfInBounds_toArray, List.set_cons_succ, List.set_cons_zero, Nat.reduceAdd]
   apply wpS_quiet
   ·intro γ W hW hp
    have hs := hW.size
    (try simp only [sA, sB, sC, sD] at hs)
    have qw := fun x => (xcA hW (w.heap.size) 0 (by first | omega | go_size) x).trans qn
    have qx := fun x => (xcA hW (w.heap.size) 1 (by first | omega | go_size) x).trans qo
    clear hW hp
    refine ⟨rfl, ?_⟩
    go_big_quiet_op
    first | exact rfl
   ·exact locS_const _
   try simp only [Act.put, List.setIfInBounds_toArray, List.set_cons_succ, List.set_cons_zero, Nat.reduceAdd]
   apply wpS_quiet
   ·intro γ W hW hp
    refine ⟨rfl, ?_⟩
    go_big_quiet_op
    first | exact rfl
   ·exact locS_const _
   try simp only [Act.put, List.setIfInBounds_toArray, List.set_cons_succ, List.set_cons_zero, Nat.reduceAdd]
   apply wpS_quiet
   ·intro γ W hW hp
    have hs := hW.size
    (try simp only [sA, sB, sC, sD] at hs)
    have qw := fun x => (xcA hW (w.heap.size + 1) 0 (by first | omega | go_size) x).trans qr
    have qx := fun x => (xcA hW (w.heap.size + 1) 1 (by first | omega | go_size) x).trans qt
    clear hW hp
    refine ⟨rfl, ?_⟩
    go_big_quiet_op
    first | exact rfl
   ·exact locS_const _
   try simp only [Act.put, List.setIfInBounds_toArray, List.set_cons_succ, List.set_cons_zero, Nat.reduceAdd]
   apply wpS_open (openD w.heap.size (ab x - ab y) 90001)
   ·intro γ W hW hp
    refine ⟨rfl, ?_⟩
    go_simp
    refine plainNew rfl ?_
    exact open_D (TC W (-1) _ (hs.below hW) (hs2.below hW) hl hl2 (.inr rfl) (fun e => HG.out) P1.out) (by (have := hW.size; (try simp only [sA, sB, sC, sD] at this); omega))
   try simp only [Act.put, List.setIfInBounds_toArray, List.set_cons_succ, List.set_cons_zero, Nat.reduceAdd]
   apply wpS_open (openW w.heap.size v)
   ·intro γ W hW hp
    have qy := hp _ (mR _) (by kernel_rfl)
    dsimp only at qy
    refine ⟨rfl, ?_⟩
    go_simp
    refine plainNew rfl ?_
    obtain ⟨a6, n6, c6, zs6, e6, h6, d6, v6, m6, _⟩ := qy
    rw [e6]
    exact open_W (TM _ _ _ _ _ _ _ _ h6 d6 v6 (by omega) E1.out) (by (have := hW.size; (try simp only [sA, sB, sC, sD] at this); omega))
   try simp only [Act.put, List.setIfInBounds_toArray, List.set_cons_succ, List.set_cons_zero, Nat.reduceAdd]
   apply wpS_end
   intro γ w3 hb3 hG3 hA3
   have zt := hG3 _ (mL _ (mR _))
   dsimp only at zt
   have zu := hG3 _ (mR _)
   dsimp only at zu
   clear hG3 hA3
   simp only [List.drop_succ_cons, List.drop_zero]
   have hz3 := hb3.size
   (try simp only [sA, sB, sC, sD] at hz3)
   obtain ⟨b7, a7, n7, c7, e7, h7, f7⟩ := zu
   simp only [e7]
   clear e7 zt
   have qj := (hb3.block (w.heap.size) (blk_lt' qe.out)).trans qe.out
   clear qn qo xr qe
   obtain ⟨qz, xa, zv, jl⟩ := bk2 qj
   replace qj := Lib.hid qj
   have qk := (hb3.block (w.heap.size + 1) (blk_lt' qf.out)).trans qf.out
   clear qr qt xt qf
   obtain ⟨xm, xn, zw, jm⟩ := bk2 qk
   replace qk := Lib.hid qk
   have qg := (hb3.block (w.heap.size + 1 + 1) (blk_lt' qd.out)).trans qd.out
   clear qu qv xu qd
   obtain ⟨xo, xp, zx, jn⟩ := bk2 qg
   replace qg := Lib.hid qg
   replace hs := hs.below hb3
   replace hs2 := hs2.below hb3
   have hB3 : Below w.heap.size w w3 := below_via hb3 (by assumption) (by go_size)
   go_wp2_with fail
   refine bodyPost_ret (v := .agg #[.bool b7, .slice a7 n7 c7]) (by simp [results, Try.results64, go_sem, xo, xp]) rfl ⟨_, _, _, _, rfl, ?_, f7, ?_⟩
   ·have HO := qg.out
    (exact ck)
   ·(exact ck)
  ·have E1 := Lib.hid (show mkW b2 (ab y - ab x) = v by rw [hn2, add_other (fun e => hne e.symm) (by omega), Int.add_comm, E.out])
   have P1 := Lib.hid (show ab y + -1 * ab x = ab y - ab x by omega)
   have HG := Lib.hid (show ab x ≤ ab y by omega)
   have hcm : cmpI (ab x) (ab y) < 0 := by rw [cmp_lt (by omega)]; omega
   have T3 := fun (W : World) (h1 : Wx W b a n c x) (h2 : Wx W b2 a2 n2 c2 y) => Lib.hid (compareSizes_any b b2 a a2 n c n2 c2 x y W h1 h2 (by omega) (by omega))
   generalize cmpI (ab x) (ab y) = cm at *
   clear hn hn2 hne hge hsame
   have tok1 := trivial
   have tok2 := trivial
   go_enter Try.func64, Try.ntmps64
   go_upto_region 1 with (fail)
   refine chk (fun W => Below w.heap.size w W ∧ W.heap[w.heap.size]? = some (.cells #[.bool b, .slice a n c] 79 (0, 0)) ∧ W.heap[w.heap.size + 1]? = some (.cells #[.bool b2, .slice a2 n2 c2] 79 (0, 0)) ∧ W.heap[w.heap.size + 1 + 1]? = some (.cells #[.bool false, .slice none 0 0] 79 (0, 0)) ∧ Wx W b a n c x ∧ Wx W b2 a2 n2 c2 y) (by refine ⟨?_, ?_, ?_, ?_, ?_, ?_⟩ <;> (exact ck)) ?_
   try clear hs
   try clear hs2
   rintro w1 ⟨hB1, qa, qb, qc, hs', hs2'⟩
   obtain ⟨qh, qi, xh, zj⟩ := bk2 qa
   replace qa := Lib.hid qa
   obtain ⟨ql, qm, xi, zk⟩ := bk2 qb
   replace qb := Lib.hid qb
   obtain ⟨qp, qq, xj, zm⟩ := bk2 qc
   replace qc := Lib.hid qc
   have hs := hs'
   clear hs'
   have hs2 := hs2'
   clear hs2'
   go_wp2_with (first | (have _t := tok2; go_at_call 78; (with_reducible refine ((T3 _ hs hs2).out).mono ?_); rintro e w2 ⟨rfl, hb2⟩; clear tok2 _t; have hz2 := hb2.size; (try simp only [sA, sB, sC, sD] at hz2); (try (obtain ⟨kq, xx⟩ := cfAt hb2 (w.heap.size); have xb := kq 0; have xc := kq 1; clear kq; simp [go_sem, *] at xb xc xx)); (try have jc : w.heap.size < w2.heap.size := by omega); (try (obtain ⟨kq, xy⟩ := cfAt hb2 (w.heap.size + 1); have xd := kq 0; have xe := kq 1; clear kq; simp [go_sem, *] at xd xe xy)); (try have jd : w.heap.size + 1 < w2.heap.size := by omega); (try (obtain ⟨kq, xz⟩ := cfAt hb2 (w.heap.size + 1 + 1); have xf := kq 0; have xg := kq 1; clear kq; simp [go_sem, *] at xf xg xz)); (try have je : w.heap.size + 1 + 1 < w2.heap.size := by omega); (try clear zc zd jf); (try clear jg); (try clear ze zg jh); (try clear ji); (try clear zh zi jj); (try clear jk)))
   have qe := (hb2.block (w.heap.size) (blk_lt' qa.out)).trans qa.out
   clear qh qi xh qa
   obtain ⟨qn, qo, xr, zp⟩ := bk2 qe
   replace qe := Lib.hid qe
   have qf := (hb2.block (w.heap.size + 1) (blk_lt' qb.out)).trans qb.out
   clear ql qm xi qb
   obtain ⟨qr, qt, xt, zq⟩ := bk2 qf
   replace qf := Lib.hid qf
   have qd := (hb2.block (w.heap.size + 1 + 1) (blk_lt' qc.out)).trans qc.out
   clear qp qq xj qc
   obtain ⟨qu, qv, xu, zr⟩ := bk2 qd
   replace qd := Lib.hid qd
   replace hs := hs.below hb2
   replace hs2 := hs2.below hb2
   have hB2 : Below w.heap.size w w2 := below_via hb2 (by assumption) (by go_size)
   replace qe := qe.out
   replace qf := qf.out
   replace qd := qd.out
   refine chk (fun W => Below w.heap.size w W ∧ W.heap[w.heap.size]? = some (.cells #[.bool b2, .slice a2 n2 c2] 79 (0, 0)) ∧ W.heap[w.heap.size + 1]? = some (.cells #[.bool b, .slice a n c] 79 (0, 0)) ∧ W.heap[w.heap.size + 1 + 1]? = some (.cells #[.bool false, .slice none 0 0] 79 (0, 0)) ∧ Wx W b a n c x ∧ Wx W b2 a2 n2 c2 y) (by refine ⟨?_, ?_, ?_, ?_, ?_, ?_⟩ <;> (exact ck)) ?_
   try clear hs
   try clear hs2
   clear qn qo xr qe
   clear qr qt xt qf
   clear qu qv xu qd
   clear hB2
   rintro w3 ⟨hB3, qj, qk, qg, hs', hs2'⟩
   obtain ⟨qz, xa, zv, jl⟩ := bk2 qj
   replace qj := Lib.hid qj
   obtain ⟨xm, xn, zw, jm⟩ := bk2 qk
   replace qk := Lib.hid qk
   obtain ⟨xo, xp, zx, jn⟩ := bk2 qg
   replace qg := Lib.hid qg
   have hs := hs'
   clear hs'
   have hs2 := hs2'
   clear hs2'
   refine wp_open (n := 8) (by kernel_rfl) (by kernel_rfl) (by kernel_rfl) (by kernel_rfl) ?_
   simp only [List.take_succ_cons, List.take_zero]
   apply wpS_quiet
   ·intro γ W hW hp
    refine ⟨rfl, ?_⟩
    go_big_quiet_op
    first | exact rfl
   ·exact locS_const _
   try simp only [Act.put, List.setIfInBounds_toArray, List.set_cons_succ, List.set_cons_zero, Nat.reduceAdd]
   apply wpS_quiet
   ·intro γ W hW hp
    have hs := hW.size
    (try simp only [sA, sB, sC, sD] at hs)
    have qw := fun x => (xcA hW (w.heap.size) 0 (by first | omega | go_size) x).trans qz
    have qx := fun x => (xcA hW (w.heap.size) 1 (by first | omega | go_size) x).trans xa
    clear hW hp
    refine ⟨rfl, ?_⟩
    go_big_quiet_op
    first | exact rfl
   ·exact locS_const _
   try simp only [Act.put, List.setIfInBounds_toArray, List.set_cons_succ, List.set_cons_zero, Nat.reduceAdd]
   apply wpS_quiet
   ·intro γ W hW hp
    refine ⟨rfl, ?_⟩
    go_big_quiet_op
    first | exact rfl
   ·exact locS_const _
   try simp only [Act.put, List.setIfInBounds_toArray, List.set_cons_succ, List.set_cons_zero, Nat.reduceAdd]
   apply wpS_quiet
   ·intro γ W hW hp
    have hs := hW.size
    (try simp only [sA, sB, sC, sD] at hs)
    have qw := fun x => (xcA hW (w.heap.size) 0 (by first | omega | go_size) x).trans qz
    have qx := fun x => (xcA hW (w.heap.size) 1 (by first | omega | go_size) x).trans xa
    clear hW hp
    refine ⟨rfl, ?_⟩
    go_big_quiet_op
    first | exact rfl
   ·exact locS_const _
   try simp only [Act.put, List.setIfInBounds_toArray, List.set_cons_succ, List.set_cons_zero, Nat.reduceAdd]
   apply wpS_quiet
   ·intro γ W hW hp
    refine ⟨rfl, ?_⟩
    go_big_quiet_op
    first | exact rfl
   ·exact locS_const _
   try simp only [Act.put, List.setIfInBounds_toArray, List.set_cons_succ, List.set_cons_zero, Nat.reduceAdd]
   apply wpS_quiet
   ·intro γ W hW hp
    have hs := hW.size
    (try simp only [sA, sB, sC, sD] at hs)
    have qw := fun x => (xcA hW (w.heap.size + 1) 0 (by first | omega | go_size) x).trans xm
    have qx := fun x => (xcA hW (w.heap.size + 1) 1 (by first | omega | go_size) x).trans xn
    clear hW hp
    refine ⟨rfl, ?_⟩
    go_big_quiet_op
    first | exact rfl
   ·exact locS_const _
   try simp only [Act.put, List.setIfInBounds_toArray, List.set_cons_succ, List.set_cons_zero, Nat.reduceAdd]
   apply wpS_open (openD w.heap.size (ab y - ab x) 90001)
   ·intro γ W hW hp
    refine ⟨rfl, ?_⟩
    go_simp
    refine plainNew rfl ?_
    exact open_D (TC W (-1) _ (hs2.below hW) (hs.below hW) hl2 hl (.inr rfl) (fun e => HG.out) P1.out) (by (have := hW.size; (try simp only [sA, sB, sC, sD] at this); omega))
   try simp only [Act.put, List.setIfInBounds_toArray, List.set_cons_succ, List.set_cons_zero, Nat.reduceAdd]
   apply wpS_open (openW w.heap.size v)
   ·intro γ W hW hp
    have qy := hp _ (mR _) (by kernel_rfl)
    dsimp only at qy
    refine ⟨rfl, ?_⟩
    go_simp
    refine plainNew rfl ?_
    obtain ⟨a6, n6, c6, zs6, e6, h6, d6, v6, m6, _⟩ := qy
    rw [e6]
    exact open_W (TM _ _ _ _ _ _ _ _ h6 d6 v6 (by omega) E1.out) (by (have := hW.size; (try simp only [sA, sB, sC, sD] at this); omega))
   try simp only [Act.put, List.setIfInBounds_toArray, List.set_cons_succ, List.set_cons_zero, Nat.reduceAdd]
   apply wpS_end
   intro γ w4 hb4 hG4 hA4
   have zy := hG4 _ (mL _ (mR _))
   dsimp only at zy
   have zz := hG4 _ (mR _)
   dsimp only at zz
   clear hG4 hA4
   simp only [List.drop_succ_cons, List.drop_zero]
   have hz4 := hb4.size
   (try simp only [sA, sB, sC, sD] at hz4)
   obtain ⟨b7, a7, n7, c7, e7, h7, f7⟩ := zz
   simp only [e7]
   clear e7 zy
   have za := (hb4.block (w.heap.size) (blk_lt' qj.out)).trans qj.out
   clear qz xa zv qj
   obtain ⟨jo, jp, jt, ju⟩ := bk2 za
   replace za := Lib.hid za
   have zb := (hb4.block (w.heap.size + 1) (blk_lt' qk.out)).trans qk.out
   clear xm xn zw qk
   obtain ⟨jq, jr, jv, jw⟩ := bk2 zb
   replace zb := Lib.hid zb
   have xw := (hb4.block (w.heap.size + 1 + 1) (blk_lt' qg.out)).trans qg.out
   clear xo xp zx qg
   obtain ⟨ja, jb, jx, jy⟩ := bk2 xw
   replace xw := Lib.hid xw
   replace hs := hs.below hb4
   replace hs2 := hs2.below hb4
   have hB4 : Below w.heap.size w w4 := below_via hb4 (by assumption) (by go_size)
   go_wp2_with fail
   refine bodyPost_ret (v := .agg #[.bool b7, .slice a7 n7 c7]) (by simp [results, Try.results64, go_sem, ja, jb]) rfl ⟨_, _, _, _, rfl, ?_, f7, ?_⟩
   ·have HO := xw.out
    (exact ck)
   ·(exact ck)
end
section
open Go.RowKit
set_option linter.unusedVariables false
set_option maxHeartbeats 1000000
set_option maxRecDepth 20000
set_option linter.unusedSimpArgs false
attribute [local go_sem] openAt openUpon
def PoRel (W0 : World) (g m : Nat) (zs ys : List Int) (iv : Value) (wr : World) : Prop := ∃ (i : Nat) (qs : List Int), iv = .int .i64 i ∧ i ≤ zs.length ∧ qs.length = m ∧ Dig qs ∧ val qs = val (zs.take i) * val ys ∧ RowW W0 wr g 3 qs
def PiRel (W0 : World) (g m i : Nat) (V x : Int) (ys : List Int) (cv kv : Value) (wr : World) : Prop := ∃ (k : Nat) (qs : List Int) (c : Int), kv = .int .i64 k ∧ cv = .int .i64 c ∧ i ≤ k ∧ k ≤ m ∧ qs.length = m ∧ Dig qs ∧ 0 ≤ c ∧ c ≤ 9999 ∧ val qs + 10000 ^ k * c = V + 10000 ^ i * (x * val (ys.take (k - i))) ∧ RowW W0 wr g 3 qs
theorem mulWholes_eq {b b2 : Bool} {a a2 : Option Addr} {n c n2 c2 : Nat} {x y v : Int} {w : World} (hs : Wx w b a n c x) (hs2 : Wx w b2 a2 n2 c2 y) (ev : x * y = v) (l1 : ln x ≤ 10000) (l2 : ln y ≤ 10000) :
  Calls Try.prog 62 #[.agg #[.bool b, .slice a n c], .agg #[.bool b2, .slice a2 n2 c2]] w (NewW w v) := by
 obtain ⟨i0, hi, hz0, hz1, hz2⟩ := info_parts infoInt
 have hl : n ≤ 10000 := by have := hs.ln; omega
 have hl2 : n2 ≤ 10000 := by have := hs2.ln; omega
 have EV := Lib.hid ev
 clear ev
 have tok1 := trivial
 go_enter Try.func62, Try.ntmps62
 go_wp2_with (first | (at_make; refine wpList_make_full _ rfl _ _ 25 rfl (w.heap.size + 3) 3 i0 (.int .i64 0) 1 Try.underlying25 hi hz0 hz1 .i64 .i64 _ _ (n + n2 + 1) rfl rfl rfl rfl (by rw [hz2]; omega) (by unfold maxLen; omega) (by simp) ?_; intro W0 hm0 hg0; have hr0 := RowW.start hm0; have hb0 := made_below (B := w.heap.size) (a := w) bel hg0 (by simp; try omega); have hz0s := hg0.size; have e0 := fun o => World.cell?_of_block (a := ⟨w.heap.size, o, none⟩) (made_at hg0 (by simp; try omega)); have e1 := fun o => World.cell?_of_block (a := ⟨w.heap.size + 1, o, none⟩) (made_at hg0 (by simp; try omega)); have e2 := fun o => World.cell?_of_block (a := ⟨w.heap.size + 1 + 1, o, none⟩) (made_at hg0 (by simp; try omega)); have f2 := fun o => World.frozen?_of_block (a := ⟨w.heap.size + 1 + 1, o, none⟩) (made_at hg0 (by simp; try omega)); have kA := e0 0; have kB := e0 1; have kC := e1 0; have kD := e1 1; have kE := e2 0; have kF := e2 1; clear e0 e1 e2 hm0 hg0; simp [go_sem] at kA kB kC kD kE kF f2; simp only [World.size_alloc] at hr0 hz0s))
 have hnm : n + n2 + 1 ≤ maxLen := by unfold maxLen; omega
 have hrow1 := hs.row
 have hrow2 := hs2.row
 have hd := limbs_dig (ab x)
 have hd2 := limbs_dig (ab y)
 have HX := Lib.hid (val_ab' x)
 have HY := Lib.hid (val_ab' y)
 have HN := Lib.hid hs.neg
 have HN2 := Lib.hid hs2.neg
 clear hs hs2
 generalize limbs (ab x) = zs at *
 generalize limbs (ab y) = ys at *
 have hL := hrow1.len
 have HL2 := Lib.hid hrow2.len
 have hsz0 := blk_lt' hr0.row
 have HL := Lib.hid hL
 have hsm : ∀ i, i ≤ n → val (zs.take i) * val ys < 10000 ^ (n + n2 + 1) := fun i hi' => by
  have h1 := val_lt (hd.take i)
  have h2 := val_lt hd2
  have h3 := val_nonneg hd2
  have h4 := p4_mono (show (zs.take i).length ≤ n by rw [List.length_take]; omega)
  rw [HL2.out] at h2
  have h5 := Int.mul_lt_mul' (show val (zs.take i) ≤ 10000 ^ n by omega) h2 h3 (p4_pos n)
  rw [← Int.pow_add] at h5
  have h6 := p4_mono (show n + n2 ≤ n + n2 + 1 by omega)
  omega
 have HSM := Lib.hid hsm
 clear hsm hL
 go_loopw [23] (fun iv wr => PoRel W0 (w.heap.size + 1 + 1 + 1) (n + n2 + 1) zs ys iv wr) (fun iv _ => n - (intOf iv).toNat)
 case atStart => exact ⟨0, List.replicate (n + n2 + 1) 0, rfl, by omega, by simp, Dig.zeros _, by simp [val_zeros, val], hr0⟩
 case round =>
  obtain ⟨i, qs, rfl, hi1, hql, hqd, hqv, hrow⟩ := hrel
  have kA1 := (hrow.only.cell (b := w.heap.size) (by omega) 0).trans kA
  have kC1 := (hrow.only.cell (b := w.heap.size + 1) (by omega) 0).trans kC
  have kD1 := (hrow.only.cell (b := w.heap.size + 1) (by omega) 1).trans kD
  have kE1 := (hrow.only.cell (b := w.heap.size + 1 + 1) (by omega) 0).trans kE
  have kF1 := (hrow.only.cell (b := w.heap.size + 1 + 1) (by omega) 1).trans kF
  have fE1 := fun o => (hrow.only.froz (b := w.heap.size + 1 + 1) (by omega) o).trans (f2 o)
  have HQV := Lib.hid hqv
  have HQL := Lib.hid hql
  have HQD := Lib.hid hqd
  replace hi1 : i ≤ n := by have := HL.out; omega
  clear hqv hql hqd
  by_cases h0 : i < n
  ·obtain ⟨b1, off1, rfl, hb1, hcs⟩ := hrow1.at (by omega)
   have c1 := (hrow.only.cell (b := b1) (by omega) (off1 + i)).trans ((hb0.cell (p := ⟨b1, off1 + i, none⟩) hb1).trans (hcs i h0))
   have hlt : (i : Int) < (n : Int) := by omega
   have dz := hd.getD i
   have HS := Lib.hid (val_take_succ zs i)
   rw [List.getD_eq_getElem?_getD] at dz HS
   clear hcs kC1 fE1 kE1 kF1
   generalize zs[i]?.getD 0 = x1 at *
   go_wp2_with fail
   have HR0 := Lib.hid hrow
   clear c1 kA1 kD1
   go_loopw [8, 9] (fun cv kv wr2 => PiRel W0 (w.heap.size + 1 + 1 + 1) (n + n2 + 1) i (val (zs.take i) * val ys) x1 ys cv kv wr2) (fun _ kv _ => n + n2 + 1 - (intOf kv).toNat)
   case atStart => exact ⟨i, qs, 0, rfl, rfl, Nat.le_refl _, by omega, HQL.out, HQD.out, by omega, by omega, by rw [HQV.out, Nat.sub_self]; simp [val], HR0.out⟩
   case round =>
    obtain ⟨k, ps, cc, rfl, rfl, hik, hk1, hpl, hpd, hc0, hc1, hpv, hrow3⟩ := hrel
    have HPL := Lib.hid hpl
    have HPV := Lib.hid hpv
    have HPD := Lib.hid hpd
    clear hpl hpv hpd
    have kD3 := (hrow3.only.cell (b := w.heap.size + 1) (by omega) 1).trans kD
    by_cases h1 : k < n + n2 + 1
    ·have hg1 := hrow3.cell (j := k) (by have := HPL.out; omega)
     have hg2 := hrow3.free k
     have hpk := HPD.out.getD k
     have hki : (0 : Int) ≤ (k : Int) - (i : Int) := by omega
     have hki2 : (i : Int) ≤ (k : Int) := by omega
     have eki : ((k : Int) - (i : Int)).toNat = k - i := by omega
     have hlk : (k : Int) < (n : Int) + (n2 : Int) + 1 := by omega
     have HST := Lib.hid (fun (r q b0 p0 : Int) (hp0 : ps.getD k 0 = p0) (hb0 : ys.getD (k - i) 0 = b0) (h3 : p0 + cc + x1 * b0 = r + 10000 * q) => mul_step (out := ps) (b := ys) (x := x1) (c := cc) (V := val (zs.take i) * val ys) (y := p0 + cc + x1 * b0) (r := r) (q := q) (i := i) (k := k) (by have := HPL.out; omega) hik HPV.out (by rw [hb0, hp0]) h3)
     have HPK := Lib.hid (List.getD_eq_getElem?_getD (l := ps) (i := k) (a := 0))
     rw [List.getD_eq_getElem?_getD] at hpk
     by_cases hB : k - i < n2
     ·obtain ⟨b2', off2, rfl, hb2, hcs2⟩ := hrow2.at (by omega)
      have c2' := (hrow3.only.cell (b := b2') (by omega) (off2 + (k - i))).trans ((hb0.cell (p := ⟨b2', off2 + (k - i), none⟩) hb2).trans (hcs2 (k - i) hB))
      have dy := hd2.getD (k - i)
      have HZ := Lib.hid (List.getD_eq_getElem?_getD (l := ys) (i := k - i) (a := 0))
      rw [List.getD_eq_getElem?_getD] at dy
      have hB2 : (k : Int) - (i : Int) < (n2 : Int) := by omega
      clear hcs2
      generalize ys[k - i]?.getD 0 = y1 at *
      generalize ps[k]?.getD 0 = p0 at *
      have hxy := mul_bd (a := x1) (b := y1) (A := 9999) (B := 9999) (by omega) (by omega)
      have hxy0 := Int.mul_nonneg dz.1 dy.1
      go_wp2_with fail
      go_roundw
      case rel => exact ⟨k + 1, ps.set k _, _, by go_num, rfl, by omega, by omega, by simp [HPL.out], HPD.out.set k (by omega), by omega, by omega, HST.out _ _ y1 p0 HPK.out HZ.out (by omega), hrow3.set _ _⟩
      case measure => simp [intOf]; omega
     ·have HZ := Lib.hid (show ys.getD (k - i) 0 = 0 from gD_ge (by have := HL2.out; omega))
      have hB2 : ¬ (k : Int) - (i : Int) < (n2 : Int) := by omega
      generalize ps[k]?.getD 0 = p0 at *
      go_wp2_with fail
      go_roundw
      case rel => exact ⟨k + 1, ps.set k _, _, by go_num, rfl, by omega, by omega, by simp [HPL.out], HPD.out.set k (by omega), by omega, by omega, HST.out _ _ 0 p0 HPK.out HZ.out (by omega), hrow3.set _ _⟩
      case measure => simp [intOf]; omega
    ·obtain rfl : k = n + n2 + 1 := by omega
     have HE := Lib.hid (val_take_all ys (n + n2 + 1 - i) (by have := HL2.out; omega))
     have hV : val ps = val (zs.take (i + 1)) * val ys := by
      have h1 := HPV.out
      rw [HE.out] at h1
      have h2 : val (zs.take i) * val ys + 10000 ^ i * (x1 * val ys) = val (zs.take (i + 1)) * val ys := by rw [HS.out]; grind
      rw [h2] at h1
      exact sum_end HPD.out HPL.out h1 (Int.mul_nonneg (val_nonneg (hd.take _)) (val_nonneg hd2)) (HSM.out (i + 1) (by omega))
     have HV := Lib.hid hV
     clear hV
     go_wp2_with fail
     go_roundw
     case rel => exact ⟨i + 1, ps, by go_num, by have := HL.out; omega, HPL.out, HPD.out, HV.out, hrow3⟩
     case measure => simp [intOf]; omega
  ·obtain rfl : i = n := by omega
   have HE := Lib.hid (val_take_all zs i (by have := HL.out; omega))
   have HV := Lib.hid (show val qs = ab x * ab y by rw [HQV.out, HE.out, HX.out, HY.out])
   have hbw := hrow.below hb0 (by omega)
   have hsz := hrow.size
   have T1 : ∀ W, Below wr.heap.size wr W → Calls Try.prog 76 #[.bool (!(b == b2)), .slice (some ⟨w.heap.size + 1 + 1 + 1, 0, none⟩) (i + n2 + 1) (i + n2 + 1)] W (NewW W v) := fun W hW => by
    have := trimmed_any (!(b == b2)) _ (i + n2 + 1) (i + n2 + 1) qs W ((hrow.sx HQL.out hnm).below hW) (by omega) HQD.out
    have e : mkW (!(b == b2)) (val qs) = v := by rw [HV.out, HN.out, HN2.out, ← EV.out]; exact mul_sign x y
    rw [e] at this
    exact this
   clear hrow
   go_wp2_with (first | (have _t := tok1; go_at_call 76; (with_reducible refine ((T1 _ bel)).mono ?_); rintro e w1 ⟨b7, a7, n7, c7, rfl, h7, f7, hb1⟩; clear tok1 _t; have hz1 := hb1.size; (try simp only [sA, sB, sC, sD] at hz1); (try (obtain ⟨kq, qg⟩ := cfAt hb1 (w.heap.size); have qa := kq 0; have qb := kq 1; clear kq; simp [go_sem, *] at qa qb qg)); (try have qj : w.heap.size < w1.heap.size := by omega); (try (obtain ⟨kq, qh⟩ := cfAt hb1 (w.heap.size + 1); have qc := kq 0; have qd := kq 1; clear kq; simp [go_sem, *] at qc qd qh)); (try have qk : w.heap.size + 1 < w1.heap.size := by omega); (try (obtain ⟨kq, qi⟩ := cfAt hb1 (w.heap.size + 1 + 1); have qe := kq 0; have qf := kq 1; clear kq; simp [go_sem, *] at qe qf qi)); (try have ql : w.heap.size + 1 + 1 < w1.heap.size := by omega)))
   refine bodyPost_ret (v := .agg #[.bool b7, .slice a7 n7 c7]) (by simp [results, Try.results62, go_sem, *]) rfl ⟨_, _, _, _, rfl, ⟨h7.neg, ?_⟩, ?_, ?_⟩
   ·have hr7 := h7.row
    (repeat' first | exact hr7 | refine Sx.set ?_ ?_ _ _ | refine Sx.alloc ?_ _ | refine Sx.drew ?_ | (intro A e; have := f7 A e; (try simp only [sA, sB, sC, sD] at this); omega))
   ·(intro A e; have := f7 A e; (try simp only [sA, sB, sC, sD] at this); omega)
   exact bel
end
end Go.Proofs.Ytbnglnbcfabmgaa
