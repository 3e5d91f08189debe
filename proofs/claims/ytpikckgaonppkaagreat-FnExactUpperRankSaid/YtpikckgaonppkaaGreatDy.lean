/- Two-curves and their sides; squarefree divisors: both sides. -/
import Derived.Test.YtpikckgaonppkaaGreatNum
import Derived.Test.YtpikckgaonppkaaGreatDrawn
import Derived.BigQuiet
import Derived.Test.YtpikckgaonppkaaGreatProg
import Derived.Test.YtpikckgaonppkaaGreatSl
import Derived.WalkSpells
import Derived.Lib.SliceRun
import Derived.Test.YtpikckgaonppkaaGreatPr3
import Derived.Test.YtpikckgaonppkaaGreatPr6
import Derived.Test.YtpikckgaonppkaaGreatLoP7
import Derived.Test.YtpikckgaonppkaaGreatPr7
namespace Go.Proofs.YtpikckgaonppkaaGreat
open Go.RowKit
set_option linter.unusedVariables false
set_option maxHeartbeats 4000000
set_option maxRecDepth 20000
set_option linter.unusedSimpArgs false
def tcB (a b : Int) : Bool := inB a (-300) 300 && (inB b (-300) 300 && (decide (b ≠ 0) && decide (a * a ≠ 4 * b)))
theorem tcB_cases (a b : Int) : (inB a (-300) 300 = false ∧ tcB a b = false) ∨ (inB a (-300) 300 = true ∧ ((inB b (-300) 300 = false ∧ tcB a b = false) ∨ (inB b (-300) 300 = true ∧ ((b = 0 ∧ tcB a b = false) ∨ (b ≠ 0 ∧ tcB a b = decide (a * a ≠ 4 * b)))))) := by
  cases h1 : inB a (-300) 300
  · left; simp [tcB, h1]
  · right; refine ⟨rfl, ?_⟩
    cases h2 : inB b (-300) 300
    · left; simp [tcB, h1, h2]
    · right; refine ⟨rfl, ?_⟩
      by_cases h3 : b = 0
      · left; simp [tcB, h1, h2, h3]
      · right; exact ⟨h3, by simp [tcB, h1, h2, h3]⟩
theorem tcB_bd {a b : Int} (h : tcB a b = true) : (-300 ≤ a ∧ a ≤ 300) ∧ (-300 ≤ b ∧ b ≤ 300) ∧ b ≠ 0 ∧ a * a ≠ 4 * b := by
  simp [tcB, inB] at h; omega
theorem tcGood_any (a b : Int) (w : World) : Calls Tryz.prog 10 #[.agg #[.int .i64 a, .int .i64 b]] w fun e w' => e = .returned (.bool (tcB a b)) ∧ Below w.heap.size w w' := by
  rcases tcB_cases a b with ⟨h1, h⟩ | ⟨h1, ⟨h2, h⟩ | ⟨h2, ⟨rfl, h⟩ | ⟨h3, h⟩⟩⟩
  all_goals
    rw [h]
    clear h
    try (have b1 := inB_iff.1 h1)
    try (have b2 := inB_iff.1 h2)
    try (have m := mul_bd (a := a) (b := a) (A := 300) (B := 300) (by omega) (by omega))
    go_enter Tryz.func10, Tryz.ntmps10
    go_wp2_with (first | (go_at_call 15; refine (l1In_any _ _ _ _).mono ?_; rintro e w' ⟨rfl, rfl⟩))
    go_ret
    refine ⟨ret_bool (by first | rfl | (rw [Bool.eq_iff_iff]; simp [h3])), ?_⟩
    repeat' first | (with_reducible first | apply zRf | assumption | apply zDn | apply zDr | apply zAl | apply zSt | refine zVi (by assumption) ?_ ?_) | go_size
theorem isTwoCurve_any (a b : Int) (w : World) : Calls Tryz.prog 12 #[.agg #[.int .i64 a, .int .i64 b]] w fun e w' => e = .returned (.bool (tcB a b)) ∧ Below w.heap.size w w' := by
  rcases tcB_cases a b with ⟨h1, h⟩ | ⟨h1, ⟨h2, h⟩ | ⟨h2, ⟨rfl, h⟩ | ⟨h3, h⟩⟩⟩
  all_goals
    rw [h]
    clear h
    try (have b1 := inB_iff.1 h1)
    try (have b2 := inB_iff.1 h2)
    try (have m := mul_bd (a := a) (b := a) (A := 300) (B := 300) (by omega) (by omega))
    go_enter Tryz.func12, Tryz.ntmps12
    go_wp2_with (first | (go_at_call 18; refine (inside_any _ _ _ _).mono ?_; rintro e w' ⟨rfl, rfl⟩))
    go_ret
    refine ⟨ret_bool (by first | rfl | (rw [Bool.eq_iff_iff]; simp [h3])), ?_⟩
    repeat' first | (with_reducible first | apply zRf | assumption | apply zDn | apply zDr | apply zAl | apply zSt | refine zVi (by assumption) ?_ ?_) | go_size
/-- the coefficients of a side -/
def sdV (a b : Int) (dual : Bool) : Int × Int := if dual = true then (-2 * a, a * a - 4 * b) else (a, b)
theorem sdV_bd {a b : Int} {dual : Bool} (h : tcB a b = true) : (-600 ≤ (sdV a b dual).1 ∧ (sdV a b dual).1 ≤ 600) ∧ (sdV a b dual).2 ≠ 0 ∧ (-91200 ≤ (sdV a b dual).2 ∧ (sdV a b dual).2 ≤ 91200) := by
  have hb := tcB_bd h
  have m := mul_bd (a := a) (b := a) (A := 300) (B := 300) (by omega) (by omega)
  cases dual <;> simp [sdV] <;> omega
theorem tcDual_any (a b : Int) (w : World) (ha : -300 ≤ a ∧ a ≤ 300) (hb : -300 ≤ b ∧ b ≤ 300) :
    Calls Tryz.prog 47 #[.agg #[.int .i64 a, .int .i64 b]] w fun e w' => e = .returned (.tuple #[.int .i64 (-2 * a), .int .i64 (a * a - 4 * b)]) ∧ Below w.heap.size w w' := by
  have m := mul_bd (a := a) (b := a) (A := 300) (B := 300) (by omega) (by omega)
  go_enter Tryz.func47, Tryz.ntmps47
  go_wp2_with fail
  go_quiet (fail)
  go_wp2_with fail
  go_ret2
  refine ⟨rfl, ?_⟩
  repeat' first | (with_reducible first | apply zRf | assumption | apply zDn | apply zDr | apply zAl | apply zSt | refine zVi (by assumption) ?_ ?_) | go_size
theorem dsSide_any (a b : Int) (dual : Bool) (w : World) (ha : -300 ≤ a ∧ a ≤ 300) (hb : -300 ≤ b ∧ b ≤ 300) :
    Calls Tryz.prog 28 #[.agg #[.int .i64 a, .int .i64 b], .bool dual] w fun e w' => e = .returned (.tuple #[.int .i64 (sdV a b dual).1, .int .i64 (sdV a b dual).2]) ∧ Below w.heap.size w w' := by
  have m := mul_bd (a := a) (b := a) (A := 300) (B := 300) (by omega) (by omega)
  cases dual
  · go_enter Tryz.func28, Tryz.ntmps28
    go_wp2_with fail
    go_quiet (fail)
    go_wp2_with fail
    go_ret2
    refine ⟨rfl, ?_⟩
    repeat' first | (with_reducible first | apply zRf | assumption | apply zDn | apply zDr | apply zAl | apply zSt | refine zVi (by assumption) ?_ ?_) | go_size
  · have T1 := fun W : World => Lib.hid (tcDual_any a b W ha hb)
    have tok1 : True := trivial
    go_enter Tryz.func28, Tryz.ntmps28
    go_wp2_with (first | (have _t := tok1; go_at_call 47; (with_reducible refine ((T1 _).out).mono ?_); rintro e w1 ⟨rfl, hb1⟩; clear tok1 _t; have hz1 := hb1.size; (try simp only [World.size_alloc, World.size_setCell, World.size_drew, World.size_drewN'] at hz1); (try (have kq := cellAt hb1 (w.heap.size) (by go_size); have k1_w_0_0 := kq 0; have k1_w_0_1 := kq 1; clear kq; have f1_w_0 := frozAt hb1 (w.heap.size) (by go_size); simp [go_sem, *] at k1_w_0_0 k1_w_0_1 f1_w_0)); (try have l1_w_0 : w.heap.size < w1.heap.size := by omega)))
    go_ret2
    refine ⟨rfl, ?_⟩
    repeat' first | (with_reducible first | apply zRf | assumption | apply zDn | apply zDr | apply zAl | apply zSt | refine zVi (by assumption) ?_ ?_) | go_size
theorem side_any (a b : Int) (dual : Bool) (w : World) (ha : -300 ≤ a ∧ a ≤ 300) (hb : -300 ≤ b ∧ b ≤ 300) :
    Calls Tryz.prog 37 #[.agg #[.int .i64 a, .int .i64 b], .bool dual] w fun e w' => e = .returned (.tuple #[.int .i64 (sdV a b dual).1, .int .i64 (sdV a b dual).2]) ∧ Below w.heap.size w w' := by
  have m := mul_bd (a := a) (b := a) (A := 300) (B := 300) (by omega) (by omega)
  cases dual
  all_goals
    go_enter Tryz.func37, Tryz.ntmps37
    go_wp2_with fail
    go_quiet (fail)
    go_wp2_with fail
    go_ret2
    refine ⟨rfl, ?_⟩
    repeat' first | (with_reducible first | apply zRf | assumption | apply zDn | apply zDr | apply zAl | apply zSt | refine zVi (by assumption) ?_ ?_) | go_size
theorem infoInt : (Tryz.prog.info? 3).map (fun i => (i.zero, i.size, i.bytes)) = some (some (.int .i64 0), 1, 8) := by kernel_rfl
/-- a contract whose value is a slice of numbers -/
def NewS (w : World) (zs : List Int) (e : Ending) (w' : World) : Prop := ∃ a n c, e = .returned (.slice a n c) ∧ Sx w' a n c zs ∧ Fr w.heap.size a ∧ Below w.heap.size w w'
theorem clone_any (a : Option Addr) (n c : Nat) (zs : List Int) (w : World) (hs : Sx w a n c zs) (hl : n ≤ 1000000) :
    Calls Tryz.prog 56 #[.slice a n c] w (NewS w zs) := by
  obtain ⟨i0, hi, hz0, hz1, hz2⟩ := info_parts infoInt
  have hnl := fun (W : World) (a : Option Addr) (n c : Nat) => Lib.run_eql_slice_nil (P := Tryz.prog) W 33 3 a n c 0 0 Tryz.underlying33
  cases a with
  | none =>
    have h0 := hs.nil rfl
    have h1 := hs.cap
    have h2 := hs.len
    have : zs = [] := List.length_eq_zero_iff.1 (by omega)
    subst this
    obtain rfl : n = 0 := by omega
    subst h0
    clear hs h1 h2
    go_enter Tryz.func56, Tryz.ntmps56
    go_wp2_with fail
    go_ret
    exact ⟨_, _, _, rfl, Sx.none _, (fun A e => by cases e), Below.refl _ _⟩
  | some A =>
    have HO := Lib.hid (World.ownsRow_made w #[] 0 (e := 3) (base := w.heap.size) (size := 1) (Nat.le_refl _) (Nat.zero_le _) (by simp))
    have HS := Lib.hid ((hs.below ((Below.refl _ _).alloc (Nat.le_refl _) (.cells #[] 3))).row.src)
    have HL := Lib.hid hs.len
    clear hs
    go_enter Tryz.func56, Tryz.ntmps56
    go_wp2_with (first | (at_builtin; refine wpList_append_own _ rfl _ _ 33 rfl w.heap.size 3 i0 (.int .i64 0) 1 8 Tryz.underlying33 hi hz0 hz1 hz2 rfl (by decide) _ _ _ rfl HO.out A n c (ints zs) rfl (by simp [ints, HL.out]) HS.out ints_cell (by unfold maxLen; omega) (by omega) (by simp) ?_; intro v1 w1 hv1 hg1 _))
    go_ret
    have hv2 := Sx.of_owns (n := n) (zs := zs) (by simpa using hv1)
    obtain ⟨a1, c1, rfl, h5, h6⟩ := hv2
    refine ⟨_, _, _, rfl, h5, h6, ?_⟩
    refine Below.grown ((Below.refl _ w).alloc (Nat.le_refl _) _) hg1 (by simp) (fun k e => ?_)
    have e2 : some w.heap.size = some k := e
    obtain rfl := Option.some.inj e2
    exact Nat.le_refl _
theorem dvA_sub {x : Int} : ∀ {qs l : List Int}, x ∈ l → x ∈ dvA l qs
  | [], l, h => h
  | q :: qs, l, h => dvA_sub (qs := qs) (dvS_mem.2 (.inl h))
theorem dvA_app (l ps qs : List Int) : dvA l (ps ++ qs) = dvA (dvA l ps) qs := by unfold dvA; exact List.foldl_append
theorem dvA_take_bd {n : Int} (h : 1 ≤ n) (j : Nat) : ∀ x ∈ dvA [-1, 1] ((prL n).take j), x ≠ 0 ∧ x.natAbs ≤ n := fun x hx => dvL_bd h x (by
  have e : dvL n = dvA (dvA [-1, 1] ((prL n).take j)) ((prL n).drop j) := by rw [← dvA_app, List.take_append_drop]; rfl
  rw [e]; exact dvA_sub hx)
theorem dv_sorted {n : Int} (h : 1 ≤ n) : sortL (dvL n) = dvR n := dv_sort h (sortL_sorted _) (List.mergeSort_perm _ _)
/-- the row at a holds the numbers zs, in another block than v -/
def FarA (W : World) (a : Option Addr) (zs : List Int) (v : Value) : Prop := 0 < zs.length → ∃ b off, a = some ⟨b, off, none⟩ ∧ b < W.heap.size ∧ some b ≠ v.ownBlock ∧ ∀ j, j < zs.length → W.cell? ⟨b, off + j, none⟩ = some (.int .i64 (zs[j]?.getD 0))
theorem FarA.of {W : World} {a : Option Addr} {n c B : Nat} {zs : List Int} {v : Value} (h : Sx W a n c zs) (hf : Fr B a) (hv : ∀ g, v.ownBlock = some g → g < B) : FarA W a zs v := fun h0 => by
  have hl := h.len
  obtain ⟨b, off, rfl, hb, hc⟩ := h.at (by omega)
  refine ⟨b, off, rfl, hb, fun e => ?_, fun j hj => hc j (by omega)⟩
  have := hf _ rfl
  have := hv b e.symm
  simp only at *
  omega
theorem FarA.below {W W' : World} {a : Option Addr} {zs : List Int} {v : Value} (h : FarA W a zs v) (hb : Below W.heap.size W W') : FarA W' a zs v := fun h0 => by
  obtain ⟨b, off, rfl, hl, hn, hc⟩ := h h0
  exact ⟨b, off, rfl, by have := hb.size; omega, hn, fun j hj => (hb.cell (p := ⟨b, off + j, none⟩) hl).trans (hc j hj)⟩
theorem FarA.alloc {W : World} {a : Option Addr} {zs : List Int} {v : Value} (h : FarA W a zs v) (o : Obj) : FarA (W.alloc o) a zs v := h.below ((Below.refl _ _).alloc (Nat.le_refl _) o)
theorem FarA.grown {W W' : World} {a : Option Addr} {zs : List Int} {v v' : Value} (h : FarA W a zs v) (hg : W.grownBy W' v.ownBlock) (hat : v'.ownBlock = v.ownBlock ∨ v'.ownBlock = some W.heap.size) (hs : W.heap.size ≤ W'.heap.size) : FarA W' a zs v' := fun h0 => by
  obtain ⟨b, off, rfl, hl, hn, hc⟩ := h h0
  refine ⟨b, off, rfl, by omega, ?_, fun j hj => (World.cell?_of_block (a := ⟨b, off + j, none⟩) (hg.block b hl hn)).trans (hc j hj)⟩
  rcases hat with e | e
  · rw [e]; exact hn
  · rw [e]; intro e2; simp only [Option.some.injEq] at e2; omega
theorem row_lit2 (W : World) (B g : Nat) (x y : Int) (hg : W.heap.size = g) (hB : B ≤ g) : OwnI (W.alloc (.cells #[.int .i64 x, .int .i64 y] 3 (0, 0))) B 3 (.slice (some ⟨g, 0, none⟩) 2 2) [x, y] :=
  ⟨rfl, .inr ⟨g, 2, #[.int .i64 x, .int .i64 y], rfl, hB, by subst hg; exact heap_alloc_new _ _, by simp, by unfold maxLen; omega, by simp, by simp [ints]⟩⟩
def SqO (w : World) (ps : List Int) (a1 : Option Addr) (ov iv : Value) (wr : World) : Prop := ∃ (i : Nat) (v : Value), iv = .int .i64 i ∧ v = ov ∧ i ≤ ps.length ∧ OwnI wr w.heap.size 3 v (dvA [-1, 1] (ps.take i)) ∧ FarA wr a1 ps v ∧ Below w.heap.size w wr
def SqI (w : World) (ps l : List Int) (p : Int) (a1 a2 : Option Addr) (ov jv : Value) (wr : World) : Prop := ∃ (j : Nat) (v : Value), jv = .int .i64 j ∧ v = ov ∧ j ≤ l.length ∧ OwnI wr w.heap.size 3 v (l ++ (l.map (· * p)).take j) ∧ FarA wr a1 ps v ∧ FarA wr a2 l v ∧ Below w.heap.size w wr
theorem squarefreeDivisors_any (N : Int) (w : World) (hN : N ≠ 0) (hN2 : N.natAbs ≤ 100000) : Calls Tryz.prog 38 #[.int .i64 N] w fun e w' =>
    ∃ A c, e = .returned (.slice (some A) (dvR N.natAbs).length c) ∧ Sx w' (some A) (dvR N.natAbs).length c (dvR N.natAbs) ∧ Below w.heap.size w w' := by
  obtain ⟨i0, hi, iz0, iz1, iz2⟩ := info_parts infoI
  have TP := fun W : World => Lib.hid (primesOf_any N W hN (by omega))
  obtain ⟨n, hn⟩ : ∃ n : Int, (N.natAbs : Int) = n := ⟨_, rfl⟩
  have hn1 : 1 ≤ n := by omega
  have hn2 : n ≤ 100000 := by omega
  rw [hn] at TP ⊢
  clear hn hN hN2
  have HBD := Lib.hid (dvA_take_bd hn1)
  have HLN := Lib.hid (dvA_take_len hn1)
  have HPB := Lib.hid (fun p hp => prL_bd hn1 p hp)
  have hpl := prL_len (n := n) (by omega)
  have HSR := Lib.hid (dv_sorted hn1)
  have HSN := Lib.hid (fun j => dvA_snoc [-1, 1] (prL n) (j := j))
  have HDE := Lib.hid (show dvA [-1, 1] ((prL n).take (prL n).length) = dvL n by rw [List.take_length]; rfl)
  generalize prL n = ps at *
  have tok1 : True := trivial
  have tok2 : True := trivial
  have tok3 : True := trivial
  have tok4 : True := trivial
  have tok5 : True := trivial
  have tok6 : True := trivial
  have tok7 : True := trivial
  go_enter Tryz.func38, Tryz.ntmps38
  go_wp2_with (first | (have _t := tok1; go_at_call 55; (with_reducible refine ((TP _).out).mono ?_); rintro e w1 ⟨v1, rfl, ho1, -, hb1⟩; clear tok1 _t; have hz1 := hb1.size; (try simp only [World.size_alloc, World.size_setCell, World.size_drew, World.size_drewN'] at hz1); obtain ⟨a1, c1, rfl, hx1, hf1⟩ := Sx.of_owns ho1; clear ho1))
  have hs1 := hb1.size
  have HF1 := Lib.hid (FarA.of (v := .slice (some ⟨w.heap.size, 0, none⟩) 2 2) hx1 hf1 (fun g e => by simp [Value.ownBlock] at e; simp; omega))
  have HO1 := Lib.hid ((row_lit2 w w.heap.size w.heap.size (-1) 1 rfl (Nat.le_refl _)).below hb1)
  have hbw1 : Below w.heap.size w w1 := ((Below.refl _ _).alloc (Nat.le_refl _) _).trans (hb1.mono (by simp))
  clear hx1 hf1 TP
  go_loopw [3, 12] (fun ov iv wr => SqO w ps a1 ov iv wr) (fun _ iv _ => (ps.length - intOf iv).toNat)
  case atStart => exact ⟨0, _, rfl, rfl, by omega, HO1.out, HF1.out, hbw1⟩
  case round =>
    obtain ⟨i, v, rfl, rfl, hil, ho, hfa, hbw⟩ := hrel
    have hsw := hbw.size
    by_cases hlt : i < ps.length
    · have hltc : (i : Int) < (ps.length : Int) := by omega
      obtain ⟨b1, o1, rfl, hbl1, hnb1, hc1⟩ := hfa (by omega)
      have c0 := hc1 i hlt
      obtain ⟨p, hp⟩ : ∃ p, ps[i]?.getD 0 = p := ⟨_, rfl⟩
      have hpm : p ∈ ps := by rw [← hp, List.getElem?_eq_getElem hlt]; simp
      have hpb := HPB.out p hpm
      have hsn := HSN.out i hlt
      have hbd := HBD.out i
      have hln := HLN.out i
      have hln2 := HLN.out (i + 1)
      rw [hp] at c0 hsn
      rw [hsn] at hln2
      have HST := Lib.hid hsn
      have HFA := Lib.hid hfa
      clear hp hpm hsn hc1 HSR HDE
      generalize dvA [-1, 1] (ps.take i) = l at *
      rw [dvS_len] at hln2
      obtain ⟨a0, c0', rfl, hx0, hf0⟩ := Sx.of_owns ho
      have TC := Lib.hid (clone_any a0 l.length c0' l wr hx0 (by omega))
      have HO := Lib.hid ho
      have hlt0 := HO.out.lt
      clear ho hfa hx0 hf0
      go_wp2_with (first | (have _t := tok2; go_at_call 56; (with_reducible refine (TC.out).mono ?_); rintro e w2 ⟨a2, n2, c2, rfl, hx2, hf2, hb2⟩; clear tok2 _t; have hz2 := hb2.size; (try simp only [World.size_alloc, World.size_setCell, World.size_drew, World.size_drewN'] at hz2)))
      have hs2 := hb2.size
      have hn9 := hx2.len
      have HF2 := Lib.hid (FarA.of (v := .slice a0 l.length c0') hx2 hf2 (fun g e => (hlt0 g e).2))
      have HFA2 := Lib.hid (HFA.out.below hb2)
      have HO2 := Lib.hid (HO.out.below hb2)
      have hbw2 := hbw.trans (hb2.mono hsw)
      clear hx2 hf2 HO HFA hlt0 c0
      subst hn9
      go_loopw [3, 19] (fun ov jv wr => SqI w ps l p (some ⟨b1, o1, none⟩) a2 ov jv wr) (fun _ jv _ => (l.length - intOf jv).toNat)
      case atStart => exact ⟨0, _, rfl, rfl, by omega, by simpa using HO2.out, HFA2.out, HF2.out, hbw2⟩
      case round =>
        obtain ⟨j, v, rfl, rfl, hjl, ho, hfa, hfl, hbw⟩ := hrel
        have hsw := hbw.size
        by_cases hj : j < l.length
        · have hjc : (j : Int) < (l.length : Int) := by omega
          obtain ⟨b3, o3, rfl, hbl3, hnb3, hc3⟩ := hfl (by omega)
          have q0 := hc3 j hj
          have hym : l[j]?.getD 0 ∈ l := by rw [List.getElem?_eq_getElem hj]; simp
          have hyb := (hbd _ hym).2
          have hap : l ++ (l.map (· * p)).take (j + 1) = (l ++ (l.map (· * p)).take j) ++ [l[j]?.getD 0 * p] := by
            rw [List.take_add_one, List.getElem?_map, List.getElem?_eq_getElem hj]; simp
          have hll : (l ++ (l.map (· * p)).take j).length ≤ 400000 := by simp; omega
          clear hc3 hym
          obtain ⟨y, hy⟩ : ∃ y, l[j]?.getD 0 = y := ⟨_, rfl⟩
          rw [hy] at q0 hap hyb
          have hm := mul_bd (a := y) (b := p) (A := 100000) (B := 100000) (by omega) (by omega)
          have HAP := Lib.hid hap
          have HO := Lib.hid ho
          have HFA := Lib.hid hfa
          have HFL := Lib.hid hfl
          clear hap hy ho hfa hfl hyb
          go_wp2_with (first | (at_builtin; refine wpList_append_own_at _ rfl _ _ 33 rfl w.heap.size 3 i0 (.int .i64 0) 1 8 Tryz.underlying33 hi iz0 iz1 iz2 rfl (by decide) v (l ++ (l.map (· * p)).take j).length _ rfl (HO.out.alloc _) ⟨wr.heap.size, 0, none⟩ 1 1 [_] rfl rfl (cell_one_new _ _ _) (by simp [Value.oneCell']) (by unfold maxLen; omega) (by omega) (by simp; omega) ?_; intro v5 w5 hv5 hg5 _ hat5))
          go_roundw
          case rel =>
            have hs5 := hg5.size
            refine ⟨j + 1, v5, by go_num, rfl, by omega, ?_, (HFA.out.alloc _).grown hg5 hat5 hs5, (HFL.out.alloc _).grown hg5 hat5 hs5, Below.ownGrown (hbw.alloc (by omega) _) (HO.out.alloc _) (Nat.le_refl _) (by simp; omega) hg5⟩
            unfold OwnI
            rw [HAP.out, ints_append, ints_one, List.length_append]
            exact hv5
          case measure => simp [intOf]; omega
        · obtain rfl : j = l.length := by omega
          have e9 : (l.map (· * p)).take l.length = l.map (· * p) := List.take_of_length_le (by simp)
          rw [e9] at ho
          have ho9 : OwnI wr w.heap.size 3 v (dvS l p) := ho
          rw [← HST.out] at ho9
          have HO9 := Lib.hid ho9
          have HFA9 := Lib.hid hfa
          clear ho9 ho hfa hfl e9
          go_wp2_with fail
          go_roundw
          case rel => exact ⟨i + 1, v, by go_num, rfl, by omega, HO9.out, HFA9.out, hbw⟩
          case measure => simp [intOf]; omega
    · obtain rfl : i = ps.length := by omega
      rw [HDE.out] at ho
      have hll := HLN.out ps.length
      rw [HDE.out] at hll
      have hne : dvL n ≠ [] := by
        intro e
        have : (1 : Int) ∈ dvL n := by rw [← HDE.out]; exact dvA_sub (by simp)
        rw [e] at this; cases this
      rcases ho.shape with ⟨_, h⟩ | ⟨g, cap, rfl, _⟩
      · exact (hne h).elim
      · obtain ⟨hr, -, hlc, hcm, hBg⟩ := ho.rowH
        have TS := Lib.hid (sort_any g cap (dvL n) w.heap.size wr hr hBg (by omega))
        have hsl := sortL_len (dvL n)
        rw [HSR.out] at TS hsl
        have HSL := Lib.hid hsl
        clear hsl hr ho hfa hne
        go_wp2_with (first | (have _t := tok6; go_at_call 57; (with_reducible refine (TS.out).mono ?_); rintro e w6 ⟨rfl, hrs, hb6⟩; clear tok6 _t; have hz6 := hb6.size; (try simp only [World.size_alloc, World.size_setCell, World.size_drew, World.size_drewN'] at hz6)))
        go_ret
        exact ⟨⟨g, 0, none⟩, cap, congrArg (fun k => Ending.returned (.slice (some ⟨g, 0, none⟩) k cap)) HSL.out.symm, hrs.sx (by rw [HSL.out]; exact hlc) hcm, hbw.trans hb6⟩
theorem dvB_sub {x : Int} : ∀ {qs l : List Int}, x ∈ l → x ∈ dvB l qs
  | [], l, h => h
  | q :: qs, l, h => dvB_sub (qs := qs) (dvT_mem.2 (.inl h))
theorem dvB_app (l ps qs : List Int) : dvB l (ps ++ qs) = dvB (dvB l ps) qs := by unfold dvB; exact List.foldl_append
theorem dvB_take_bd {n : Int} (h : 1 ≤ n) (j : Nat) : ∀ x ∈ dvB [-1, 1] ((prL n).take j), x ≠ 0 ∧ x.natAbs ≤ n := fun x hx => dvR_bd h x (by
  have e : dvR n = dvB (dvB [-1, 1] ((prL n).take j)) ((prL n).drop j) := by rw [← dvB_app, List.take_append_drop]; rfl
  rw [e]; exact dvB_sub hx)
theorem dvB_pos (qs : List Int) : 0 < (dvB [-1, 1] qs).length := by
  refine List.length_pos_iff.2 fun e => ?_
  have : (1 : Int) ∈ dvB [-1, 1] qs := dvB_sub (by simp)
  rw [e] at this; cases this
def TdO (w w1 : World) (ps : List Int) (ov iv : Value) (wr : World) : Prop := ∃ (i : Nat) (A : Addr) (c : Nat), iv = .int .i64 i ∧ ov = .slice (some A) (dvB [-1, 1] (ps.take i)).length c ∧ i ≤ ps.length ∧ Sx wr (some A) (dvB [-1, 1] (ps.take i)).length c (dvB [-1, 1] (ps.take i)) ∧ Below w.heap.size w wr ∧ Below w1.heap.size w1 wr
def TdI (w0 : World) (l zs : List Int) (mv jv : Value) (wr : World) : Prop := ∃ (j : Nat) (A : Addr) (c : Nat), jv = .int .i64 j ∧ mv = .slice (some A) (putA l (zs.take j)).length c ∧ j ≤ zs.length ∧ Sx wr (some A) (putA l (zs.take j)).length c (putA l (zs.take j)) ∧ Below w0.heap.size w0 wr
theorem tcDivisors_any (N : Int) (w : World) (hN : N ≠ 0) (hN2 : N.natAbs ≤ 100000) : Calls Tryz.prog 29 #[.int .i64 N] w fun e w' =>
    ∃ A c, e = .returned (.slice (some A) (dvR N.natAbs).length c) ∧ Sx w' (some A) (dvR N.natAbs).length c (dvR N.natAbs) ∧ Below w.heap.size w w' := by
  have TA := fun W : World => Lib.hid (l1Abs_any N W (by omega) (by omega))
  have hab : absI N = (N.natAbs : Int) := rfl
  rw [hab] at TA
  have TM := fun W : World => Lib.hid (mdFactors_any N.natAbs W (by omega) (by omega))
  obtain ⟨n, hn⟩ : ∃ n : Int, (N.natAbs : Int) = n := ⟨_, rfl⟩
  have hn1 : 1 ≤ n := by omega
  have hn2 : n ≤ 100000 := by omega
  rw [hn] at TA TM ⊢
  clear hn hab
  have HBD := Lib.hid (dvB_take_bd hn1)
  have HLN := Lib.hid (dvB_take_len hn1)
  have HPB := Lib.hid (fun p hp => prL_bd hn1 p hp)
  have hpl := prL_len (n := n) (by omega)
  have HSN := Lib.hid (fun j => dvB_snoc [-1, 1] (prL n) (j := j))
  have HDE := Lib.hid (show dvB [-1, 1] ((prL n).take (prL n).length) = dvR n by rw [List.take_length]; rfl)
  generalize prL n = ps at *
  have tok1 : True := trivial
  have tok2 : True := trivial
  have tok3 : True := trivial
  have tok4 : True := trivial
  have tok5 : True := trivial
  have tok6 : True := trivial
  have tok7 : True := trivial
  go_enter Tryz.func29, Tryz.ntmps29
  go_wp2_with (first | (go_at_call 49; (with_reducible refine ((TA _).out).mono ?_); rintro e w' ⟨rfl, rfl⟩) | (have _t := tok1; go_at_call 48; (with_reducible refine ((TM _).out).mono ?_); rintro e w1 ⟨v, rfl, hof, hb1⟩; clear tok1 _t; have hz1 := hb1.size; (try simp only [World.size_alloc, World.size_setCell, World.size_drew, World.size_drewN'] at hz1); obtain ⟨a3, c3, rfl, hsh⟩ := hof.shape))
  have hs1 := hb1.size
  have HSH := Lib.hid hsh
  have hx0 : Sx (w.alloc (.cells #[.int .i64 (-1), .int .i64 1] 3 (0, 0))) (some ⟨w.heap.size, 0, none⟩) 2 2 [-1, 1] := by
    refine Sx.of_row (cur := #[.int .i64 (-1), .int .i64 1]) (T := 3) (fr := (0, 0)) (heap_alloc_new _ _) rfl (Nat.le_refl _) (by unfold maxLen; omega) (fun j hj => ?_)
    rcases (show j = 0 ∨ j = 1 by omega) with rfl | rfl <;> rfl
  have HX0 := Lib.hid (hx0.below hb1)
  have hbw1 : Below w.heap.size w w1 := ((Below.refl _ _).alloc (Nat.le_refl _) _).trans (hb1.mono (by simp))
  clear hsh hof hx0 TM TA
  go_loopw [3, 14] (fun ov iv wr => TdO w w1 ps ov iv wr) (fun _ iv _ => (ps.length - intOf iv).toNat)
  case atStart => exact ⟨0, _, 2, rfl, rfl, by omega, HX0.out, hbw1, Below.refl _ _⟩
  case round =>
    obtain ⟨i, Ad, c, rfl, rfl, hil, hx, hbw, hb1r⟩ := hrel
    have hsw := hbw.size
    have hsr := hb1r.size
    by_cases hlt : i < ps.length
    · have hltc : (i : Int) < (ps.length : Int) := by omega
      obtain ⟨g, gj, rfl, hgl, kj, hgj, pj⟩ := HSH.out i hlt
      have k0 := (hb1r.cell (p := ⟨g, i, none⟩) hgl).trans kj
      have p0 := (hb1r.cell (p := ⟨gj, 0, none⟩) hgj).trans pj
      obtain ⟨p, hp⟩ : ∃ p, ps[i]?.getD 0 = p := ⟨_, rfl⟩
      have hpm : p ∈ ps := by rw [← hp, List.getElem?_eq_getElem hlt]; simp
      have hpb := HPB.out p hpm
      have hsn := HSN.out i hlt
      have hbd := HBD.out i
      have hln := HLN.out i
      have hpo := dvB_pos (ps.take i)
      rw [hp] at p0 hsn
      have HST := Lib.hid hsn
      clear hp hpm hsn kj pj
      generalize w0e : wr = w0 at *
      clear w0e
      obtain ⟨l, hl⟩ : ∃ l, dvB [-1, 1] (ps.take i) = l := ⟨_, rfl⟩
      rw [hl] at hx HST hln hpo hbd ⊢
      clear hl
      obtain ⟨b, off, hAd, hbl, hcs⟩ := hx.at hpo
      cases hAd
      have HX := Lib.hid hx
      have HBD2 := Lib.hid hbd
      clear hx hbd
      go_wp2_with fail
      go_loopw [6, 21] (fun mv jv wr => TdI w0 l (l.map (· * p)) mv jv wr) (fun _ jv _ => (l.length - intOf jv).toNat)
      case atStart => exact ⟨0, _, c, rfl, rfl, by omega, HX.out, Below.refl _ _⟩
      case round =>
        obtain ⟨j, A2, c2, rfl, rfl, hj, hx, hb0r⟩ := hrel
        have hs0r := hb0r.size
        rw [List.length_map] at hj
        by_cases hjl : j < l.length
        · have hjc : (j : Int) < (l.length : Int) := by omega
          have q0 := (hb0r.cell (p := ⟨b, off + j, none⟩) hbl).trans (hcs j hjl)
          have p1 := (hb0r.cell (p := ⟨gj, 0, none⟩) (show gj < w0.heap.size by omega)).trans p0
          have hsn := putA_snoc l (l.map (· * p)) (j := j) (by simpa using hjl)
          have hym : l[j]?.getD 0 ∈ l := by rw [List.getElem?_eq_getElem hjl]; simp
          have hyb := (HBD2.out _ hym).2
          have hln2 := putA_len ((l.map (· * p)).take j) l
          have hpp := putA_pos (m := (l.map (· * p)).take j) hpo
          rw [List.length_take, List.length_map] at hln2
          have hyp : (l.map (· * p))[j]?.getD 0 = l[j]?.getD 0 * p := by rw [List.getElem?_map, List.getElem?_eq_getElem hjl]; rfl
          rw [hyp] at hsn
          clear hyp hym
          obtain ⟨y, hy⟩ : ∃ y, l[j]?.getD 0 = y := ⟨_, rfl⟩
          rw [hy] at q0 hsn hyb
          have hm := mul_bd (a := y) (b := p) (A := 100000) (B := 100000) (by omega) (by omega)
          have HSN2 := Lib.hid hsn
          have TP := Lib.hid (l1Put_any A2 c2 (putA l ((l.map (· * p)).take j)) (y * p) wr hx (by omega) hpp)
          rw [← HSN2.out] at TP
          clear hsn hy hx hln2 hpp
          go_wp2_with (first | (have _t := tok2; go_at_call 50; (with_reducible refine (TP.out).mono ?_); rintro e w2 ⟨A2, c2, rfl, hx2, hb2⟩; clear tok2 _t; have hz2 := hb2.size; (try simp only [World.size_alloc, World.size_setCell, World.size_drew, World.size_drewN'] at hz2)))
          go_roundw
          case rel => exact ⟨j + 1, _, _, by go_num, rfl, by simp only [List.length_map]; omega, hx2, hb0r.trans (hb2.mono hs0r)⟩
          case measure => simp [intOf]; omega
        · obtain rfl : j = l.length := by omega
          have e9 : (l.map (· * p)).take l.length = l.map (· * p) := List.take_of_length_le (by simp)
          rw [e9] at hx ⊢
          have hx9 : Sx wr (some A2) (dvT l p).length c2 (dvT l p) := hx
          have hv9 : (Value.slice (some A2) (putA l (l.map (· * p))).length c2) = .slice (some A2) (dvT l p).length c2 := rfl
          rw [hv9]
          rw [← HST.out] at hx9 ⊢
          have HX9 := Lib.hid hx9
          clear hx9 hx hv9 e9
          go_wp2_with fail
          go_roundw
          case rel => exact ⟨i + 1, A2, c2, by go_num, rfl, by omega, HX9.out, hbw.trans (hb0r.mono hsw), hb1r.trans (hb0r.mono hsr)⟩
          case measure => simp [intOf]; omega
    · obtain rfl : i = ps.length := by omega
      rw [HDE.out] at hx ⊢
      go_wp2_with fail
      go_ret
      exact ⟨_, _, rfl, hx, hbw⟩
end Go.Proofs.YtpikckgaonppkaaGreat
