/- The reason against a quartic, the Selmer groups: both sides. -/
import Derived.Test.YtpikckgaonppkaaGreatDy
import Derived.Test.YtpikckgaonppkaaGreatPr9
import Derived.Test.YtpikckgaonppkaaGreatToL
namespace Go.Proofs.YtpikckgaonppkaaGreat
open Go.RowKit
set_option linter.unusedVariables false
set_option maxHeartbeats 4000000
set_option maxRecDepth 20000
set_option linter.unusedSimpArgs false
def HasRel (w : World) (zs : List Int) (x : Int) (iv : Value) (wr : World) : Prop := ∃ k : Nat, iv = .int .i64 k ∧ k ≤ zs.length ∧ (∀ i, i < k → zs[i]?.getD 0 ≠ x) ∧ Below w.heap.size w wr
theorem has_at {zs : List Int} {k : Nat} (hk : k < zs.length) : zs[k]?.getD 0 ∈ zs := by rw [List.getElem?_eq_getElem hk]; simp
theorem has_none {zs : List Int} {x : Int} (h : ∀ i, i < zs.length → zs[i]?.getD 0 ≠ x) : decide (x ∈ zs) = false := by
  simp only [decide_eq_false_iff_not]
  intro hx
  obtain ⟨i, hi, e⟩ := List.getElem_of_mem hx
  have := h i hi
  rw [List.getElem?_eq_getElem hi] at this
  exact this e
theorem has_snoc {zs : List Int} {x : Int} {k : Nat} (h : ∀ i, i < k → zs[i]?.getD 0 ≠ x) (h2 : zs[k]?.getD 0 ≠ x) : ∀ i, i < k + 1 → zs[i]?.getD 0 ≠ x := fun i hi => by
  by_cases e : i = k
  · subst e; exact h2
  · exact h i (by omega)
theorem l1Has_any (a : Option Addr) (c : Nat) (zs : List Int) (x : Int) (w : World) (h : Sx w a zs.length c zs) : Calls Tryz.prog 35 #[.slice a zs.length c, .int .i64 x] w fun e w' => e = .returned (.bool (decide (x ∈ zs))) ∧ Below w.heap.size w w' := by
  have hcap := h.cap
  have hmax := h.max
  unfold maxLen at hmax
  go_enter Tryz.func35, Tryz.ntmps35
  go_wp2_with fail
  go_loopw [9] (fun iv wr => HasRel w zs x iv wr) (fun iv _ => (zs.length - intOf iv).toNat)
  case atStart => exact ⟨0, rfl, by omega, (by intro i hi; omega), Below.refl _ _⟩
  case round =>
    obtain ⟨k, rfl, hk, hne, hb⟩ := hrel
    by_cases hlt : k < zs.length
    · have hltc : (k : Int) < (zs.length : Int) := by omega
      obtain ⟨b, off, rfl, hbl, hcs⟩ := h.at (by omega)
      have c0 := (hb.cell (p := ⟨b, off + k, none⟩) hbl).trans (hcs k hlt)
      have hm := has_at hlt
      obtain ⟨y, hy⟩ : ∃ y, zs[k]?.getD 0 = y := ⟨_, rfl⟩
      rw [hy] at c0 hm
      by_cases hxy : y = x
      · subst hxy
        have hd : decide (y ∈ zs) = true := by simpa using hm
        have hyy : (y == y) = true := by simp
        clear hy hcs hne hm
        go_wp2_with fail
        go_ret
        exact ⟨ret_bool (by rw [hd]), hb⟩
      · have hyy : (y == x) = false := by simpa using hxy
        have HN := Lib.hid (has_snoc hne (by rw [hy]; exact hxy))
        clear hy hcs hne hm hxy
        go_wp2_with fail
        go_roundw
        case rel => exact ⟨k + 1, by go_num, by omega, HN.out, hb⟩
        case measure => simp [intOf]; omega
    · obtain rfl : k = zs.length := by omega
      have hd := has_none hne
      clear hne
      go_wp2_with fail
      go_ret
      exact ⟨ret_bool (by rw [hd]), hb⟩
theorem index_any (a : Option Addr) (c : Nat) (zs : List Int) (x : Int) (w : World) (h : Sx w a zs.length c zs) : Calls Tryz.prog 60 #[.slice a zs.length c, .int .i64 x] w fun e w' => ∃ k : Int, e = .returned (.int .i64 k) ∧ decide (0 ≤ k) = decide (x ∈ zs) ∧ -1 ≤ k ∧ Below w.heap.size w w' := by
  have hcap := h.cap
  have hmax := h.max
  unfold maxLen at hmax
  go_enter Tryz.func60, Tryz.ntmps60
  go_wp2_with fail
  go_loopw [8] (fun iv wr => HasRel w zs x iv wr) (fun iv _ => (zs.length - intOf iv).toNat)
  case atStart => exact ⟨0, rfl, by omega, (by intro i hi; omega), Below.refl _ _⟩
  case round =>
    obtain ⟨k, rfl, hk, hne, hb⟩ := hrel
    by_cases hlt : k < zs.length
    · have hltc : (k : Int) < (zs.length : Int) := by omega
      obtain ⟨b, off, rfl, hbl, hcs⟩ := h.at (by omega)
      have c0 := (hb.cell (p := ⟨b, off + k, none⟩) hbl).trans (hcs k hlt)
      have hm := has_at hlt
      obtain ⟨y, hy⟩ : ∃ y, zs[k]?.getD 0 = y := ⟨_, rfl⟩
      rw [hy] at c0 hm
      by_cases hxy : y = x
      · subst hxy
        have hyy : (y == y) = true := by simp
        have HM := Lib.hid hm
        clear hy hcs hne hm
        go_wp2_with fail
        go_ret
        exact ⟨k, rfl, by simp [HM.out], by omega, hb⟩
      · have hyy : (x == y) = false := by simpa using fun e => hxy e.symm
        have HN := Lib.hid (has_snoc hne (by rw [hy]; exact hxy))
        clear hy hcs hne hm hxy
        go_wp2_with fail
        go_roundw
        case rel => exact ⟨k + 1, by go_num, by omega, HN.out, hb⟩
        case measure => simp [intOf]; omega
    · obtain rfl : k = zs.length := by omega
      have HD := Lib.hid (has_none hne)
      clear hne
      go_wp2_with fail
      go_ret
      exact ⟨-1, rfl, by rw [HD.out]; rfl, by omega, hb⟩
theorem contains_any (a : Option Addr) (c : Nat) (zs : List Int) (x : Int) (w : World) (h : Sx w a zs.length c zs) : Calls Tryz.prog 42 #[.slice a zs.length c, .int .i64 x] w fun e w' => e = .returned (.bool (decide (x ∈ zs))) ∧ Below w.heap.size w w' := by
  have T1 := Lib.hid (index_any a c zs x w h)
  clear h
  have tok1 : True := trivial
  go_enter Tryz.func42, Tryz.ntmps42
  go_wp2_with (first | (have _t := tok1; go_at_call 60; (with_reducible refine (T1.out).mono ?_); rintro e w1 ⟨k, rfl, hk, hk1, hb1⟩; clear tok1 _t; have hz1 := hb1.size; (try simp only [World.size_alloc, World.size_setCell, World.size_drew, World.size_drewN'] at hz1)))
  go_ret
  exact ⟨ret_bool rfl, hb1⟩
/-- the divisors of a side -/
def ddL (a b : Int) (dual : Bool) : List Int := dvR (sdV a b dual).2.natAbs
theorem ddL_bd {a b : Int} {dual : Bool} (h : tcB a b = true) : ∀ d ∈ ddL a b dual, d ≠ 0 ∧ (-91200 ≤ d ∧ d ≤ 91200) := fun d hd => by
  have h1 := sdV_bd (dual := dual) h
  have h2 := dvR_bd (n := (sdV a b dual).2.natAbs) (by omega) d hd
  omega
theorem ddL_len {a b : Int} {dual : Bool} (h : tcB a b = true) : (ddL a b dual).length ≤ 182400 := by
  have h1 := sdV_bd (dual := dual) h
  have h2 := dvB_take_len (n := (sdV a b dual).2.natAbs) (by omega) (prL (sdV a b dual).2.natAbs).length
  rw [List.take_length] at h2
  have e : dvB [-1, 1] (prL ((sdV a b dual).2.natAbs : Int)) = ddL a b dual := rfl
  rw [e] at h2
  omega
theorem qaB_side {a b d : Int} {dual : Bool} (h : tcB a b = true) (hd : d ∈ ddL a b dual) : qaB d (sdV a b dual).1 ((sdV a b dual).2.tdiv d) = true := by
  have h1 := sdV_bd (dual := dual) h
  have h2 := ddL_bd h d hd
  have h3 := tdiv_bd (sdV a b dual).2 d
  have h4 := dvR_bd (n := (sdV a b dual).2.natAbs) (by omega) d hd
  have h5 : 0 < ((sdV a b dual).2.tdiv d).natAbs := by rw [Int.natAbs_tdiv]; exact Nat.div_pos (by omega) (by omega)
  simp [qaB, inB]; omega
theorem descentDivisors_any (a b : Int) (dual : Bool) (w : World) (h : tcB a b = true) : Calls Tryz.prog 24 #[.agg #[.int .i64 a, .int .i64 b], .bool dual] w fun e w' =>
    ∃ A c, e = .returned (.slice (some A) (ddL a b dual).length c) ∧ Sx w' (some A) (ddL a b dual).length c (ddL a b dual) ∧ Below w.heap.size w w' := by
  have hb := tcB_bd h
  have h1 := sdV_bd (dual := dual) h
  have T1 := fun W : World => Lib.hid (side_any a b dual W hb.1 hb.2.1)
  have T2 := fun W : World => Lib.hid (squarefreeDivisors_any (sdV a b dual).2 W h1.2.1 (by omega))
  unfold ddL
  generalize (sdV a b dual).2 = B at *
  generalize (sdV a b dual).1 = A' at *
  generalize dvR B.natAbs = zs at *
  clear h h1
  have tok1 : True := trivial
  have tok2 : True := trivial
  go_enter Tryz.func24, Tryz.ntmps24
  go_wp2_with (first | (have _t := tok1; go_at_call 37; (with_reducible refine ((T1 _).out).mono ?_); rintro e w1 ⟨rfl, hb1⟩; clear tok1 _t; have hz1 := hb1.size; (try simp only [World.size_alloc, World.size_setCell, World.size_drew, World.size_drewN'] at hz1); (try (have kq := cellAt hb1 (w.heap.size) (by go_size); have k1_w_0_0 := kq 0; have k1_w_0_1 := kq 1; clear kq; have f1_w_0 := frozAt hb1 (w.heap.size) (by go_size); simp [go_sem, *] at k1_w_0_0 k1_w_0_1 f1_w_0)); (try have l1_w_0 : w.heap.size < w1.heap.size := by omega)) | (have _t := tok2; go_at_call 38; (with_reducible refine ((T2 _).out).mono ?_); rintro e w2 ⟨A, c, rfl, hx2, hb2⟩; clear tok2 _t; have hz2 := hb2.size; (try simp only [World.size_alloc, World.size_setCell, World.size_drew, World.size_drewN'] at hz2); (try (have kq := cellAt hb2 (w.heap.size) (by go_size); have k2_w_0_0 := kq 0; have k2_w_0_1 := kq 1; clear kq; have f2_w_0 := frozAt hb2 (w.heap.size) (by go_size); simp [go_sem, *] at k2_w_0_0 k2_w_0_1 f2_w_0)); (try have l2_w_0 : w.heap.size < w2.heap.size := by omega); (try clear k1_w_0_0 k1_w_0_1 f1_w_0); (try clear l1_w_0)))
  go_ret
  refine ⟨_, _, rfl, hx2, ?_⟩
  repeat' first | (with_reducible first | apply zRf | assumption | apply zDn | apply zDr | apply zAl | apply zSt | refine zVi (by assumption) ?_ ?_) | go_size
theorem dsDivisors_any (a b : Int) (dual : Bool) (w : World) (h : tcB a b = true) : Calls Tryz.prog 21 #[.agg #[.int .i64 a, .int .i64 b], .bool dual] w fun e w' =>
    ∃ A c, e = .returned (.slice (some A) (ddL a b dual).length c) ∧ Sx w' (some A) (ddL a b dual).length c (ddL a b dual) ∧ Below w.heap.size w w' := by
  have hb := tcB_bd h
  have h1 := sdV_bd (dual := dual) h
  have T1 := fun W : World => Lib.hid (dsSide_any a b dual W hb.1 hb.2.1)
  have T2 := fun W : World => Lib.hid (tcDivisors_any (sdV a b dual).2 W h1.2.1 (by omega))
  unfold ddL
  generalize (sdV a b dual).2 = B at *
  generalize (sdV a b dual).1 = A' at *
  generalize dvR B.natAbs = zs at *
  clear h h1
  have tok1 : True := trivial
  have tok2 : True := trivial
  go_enter Tryz.func21, Tryz.ntmps21
  go_wp2_with (first | (have _t := tok1; go_at_call 28; (with_reducible refine ((T1 _).out).mono ?_); rintro e w1 ⟨rfl, hb1⟩; clear tok1 _t; have hz1 := hb1.size; (try simp only [World.size_alloc, World.size_setCell, World.size_drew, World.size_drewN'] at hz1); (try (have kq := cellAt hb1 (w.heap.size) (by go_size); have k1_w_0_0 := kq 0; have k1_w_0_1 := kq 1; clear kq; have f1_w_0 := frozAt hb1 (w.heap.size) (by go_size); simp [go_sem, *] at k1_w_0_0 k1_w_0_1 f1_w_0)); (try have l1_w_0 : w.heap.size < w1.heap.size := by omega)) | (have _t := tok2; go_at_call 29; (with_reducible refine ((T2 _).out).mono ?_); rintro e w2 ⟨A, c, rfl, hx2, hb2⟩; clear tok2 _t; have hz2 := hb2.size; (try simp only [World.size_alloc, World.size_setCell, World.size_drew, World.size_drewN'] at hz2); (try (have kq := cellAt hb2 (w.heap.size) (by go_size); have k2_w_0_0 := kq 0; have k2_w_0_1 := kq 1; clear kq; have f2_w_0 := frozAt hb2 (w.heap.size) (by go_size); simp [go_sem, *] at k2_w_0_0 k2_w_0_1 f2_w_0)); (try have l2_w_0 : w.heap.size < w2.heap.size := by omega); (try clear k1_w_0_0 k1_w_0_1 f1_w_0); (try clear l1_w_0)))
  go_ret
  refine ⟨_, _, rfl, hx2, ?_⟩
  repeat' first | (with_reducible first | apply zRf | assumption | apply zDn | apply zDr | apply zAl | apply zSt | refine zVi (by assumption) ?_ ?_) | go_size
theorem descentQuartic_any (a b d : Int) (dual : Bool) (w : World) (h : tcB a b = true) (hd : d ∈ ddL a b dual) : Calls Tryz.prog 39 #[.agg #[.int .i64 a, .int .i64 b], .bool dual, .int .i64 d] w fun e w' =>
    e = .returned (.agg #[.int .i64 d, .int .i64 (sdV a b dual).1, .int .i64 ((sdV a b dual).2.tdiv d)]) ∧ Below w.heap.size w w' := by
  have hb := tcB_bd h
  have h1 := sdV_bd (dual := dual) h
  have h2 := ddL_bd h d hd
  have h3 := tdiv_bd (sdV a b dual).2 d
  have hd0 : d ≠ 0 := h2.1
  have T1 := fun W : World => Lib.hid (side_any a b dual W hb.1 hb.2.1)
  generalize (sdV a b dual).2 = B at *
  generalize (sdV a b dual).1 = A' at *
  clear h hd hb
  have tok1 : True := trivial
  go_enter Tryz.func39, Tryz.ntmps39
  go_wp2_with (first | (have _t := tok1; go_at_call 37; (with_reducible refine ((T1 _).out).mono ?_); rintro e w1 ⟨rfl, hb1⟩; clear tok1 _t; have hz1 := hb1.size; (try simp only [World.size_alloc, World.size_setCell, World.size_drew, World.size_drewN'] at hz1); (try (have kq := cellAt hb1 (w.heap.size) (by go_size); have k1_w_0_0 := kq 0; have k1_w_0_1 := kq 1; clear kq; have f1_w_0 := frozAt hb1 (w.heap.size) (by go_size); simp [go_sem, *] at k1_w_0_0 k1_w_0_1 f1_w_0)); (try have l1_w_0 : w.heap.size < w1.heap.size := by omega); (try (have kq := cellAt hb1 (w.heap.size + 1) (by go_size); have k1_w_1_0 := kq 0; have k1_w_1_1 := kq 1; have k1_w_1_2 := kq 2; clear kq; have f1_w_1 := frozAt hb1 (w.heap.size + 1) (by go_size); simp [go_sem, *] at k1_w_1_0 k1_w_1_1 k1_w_1_2 f1_w_1)); (try have l1_w_1 : w.heap.size + 1 < w1.heap.size := by omega)))
  refine bodyPost_ret (v := _) (by simp [results, Tryz.results39, go_sem, *]) rfl ⟨rfl, ?_⟩
  repeat' first | (with_reducible first | apply zRf | assumption | apply zDn | apply zDr | apply zAl | apply zSt | refine zVi (by assumption) ?_ ?_) | go_size
theorem dsQuartic_any (a b d : Int) (dual : Bool) (w : World) (h : tcB a b = true) (hd : d ∈ ddL a b dual) : Calls Tryz.prog 30 #[.agg #[.int .i64 a, .int .i64 b], .bool dual, .int .i64 d] w fun e w' =>
    e = .returned (.agg #[.int .i64 d, .int .i64 (sdV a b dual).1, .int .i64 ((sdV a b dual).2.tdiv d)]) ∧ Below w.heap.size w w' := by
  have hb := tcB_bd h
  have h1 := sdV_bd (dual := dual) h
  have h2 := ddL_bd h d hd
  have h3 := tdiv_bd (sdV a b dual).2 d
  have hd0 : d ≠ 0 := h2.1
  have T1 := fun W : World => Lib.hid (dsSide_any a b dual W hb.1 hb.2.1)
  generalize (sdV a b dual).2 = B at *
  generalize (sdV a b dual).1 = A' at *
  clear h hd hb
  have tok1 : True := trivial
  go_enter Tryz.func30, Tryz.ntmps30
  go_wp2_with (first | (have _t := tok1; go_at_call 28; (with_reducible refine ((T1 _).out).mono ?_); rintro e w1 ⟨rfl, hb1⟩; clear tok1 _t; have hz1 := hb1.size; (try simp only [World.size_alloc, World.size_setCell, World.size_drew, World.size_drewN'] at hz1); (try (have kq := cellAt hb1 (w.heap.size) (by go_size); have k1_w_0_0 := kq 0; have k1_w_0_1 := kq 1; clear kq; have f1_w_0 := frozAt hb1 (w.heap.size) (by go_size); simp [go_sem, *] at k1_w_0_0 k1_w_0_1 f1_w_0)); (try have l1_w_0 : w.heap.size < w1.heap.size := by omega); (try (have kq := cellAt hb1 (w.heap.size + 1) (by go_size); have k1_w_1_0 := kq 0; have k1_w_1_1 := kq 1; have k1_w_1_2 := kq 2; clear kq; have f1_w_1 := frozAt hb1 (w.heap.size + 1) (by go_size); simp [go_sem, *] at k1_w_1_0 k1_w_1_1 k1_w_1_2 f1_w_1)); (try have l1_w_1 : w.heap.size + 1 < w1.heap.size := by omega)))
  refine bodyPost_ret (v := _) (by simp [results, Tryz.results30, go_sem, *]) rfl ⟨rfl, ?_⟩
  repeat' first | (with_reducible first | apply zRf | assumption | apply zDn | apply zDr | apply zAl | apply zSt | refine zVi (by assumption) ?_ ?_) | go_size
/-- the reason against a quartic -/
def rsV (D A C : Int) : Int × Bool := if (flV D A C).2 = false then (0, false) else if rlB D A C = false then (-1, true) else ((flV D A C).1.headD 0, true)
def rdV (a b : Int) (dual : Bool) (d : Int) : Int × Bool := rsV d (sdV a b dual).1 ((sdV a b dual).2.tdiv d)
theorem reasonAgainst_any (a b d : Int) (dual : Bool) (w : World) (h : tcB a b = true) (hd : d ∈ ddL a b dual) : Calls Tryz.prog 25 #[.agg #[.int .i64 a, .int .i64 b], .bool dual, .int .i64 d] w fun e w' =>
    e = .returned (.tuple #[.int .i64 (rdV a b dual d).1, .bool (rdV a b dual d).2]) ∧ Below w.heap.size w w' := by
  have hq := qaB_side h hd
  have T1 := fun W : World => Lib.hid (descentQuartic_any a b d dual W h hd)
  have hnot : ∀ (x : Bool) (w : World), (Op.unary .not (.bool x)).run Tryz.prog w = .ok (.bool (!x)) w := fun _ _ => rfl
  unfold rdV
  generalize (sdV a b dual).2.tdiv d = C at *
  generalize (sdV a b dual).1 = A at *
  have T2 := fun W : World => Lib.hid (failing_any d A C W hq)
  have T3 := fun W : World => Lib.hid (isReal_any d A C W hq)
  clear h hd hq
  unfold NewJ at T2
  unfold rsV
  obtain ⟨⟨zs, ok⟩, hv⟩ : ∃ v, flV d A C = v := ⟨_, rfl⟩
  rw [hv] at T2 ⊢
  clear hv
  generalize rlB d A C = rl at *
  dsimp only at T2 ⊢
  cases zs with
  | nil =>
    have hl0 : ([] : List Int).length = 0 := rfl
    cases ok <;> cases rl
    all_goals
      have tok1 : True := trivial
      have tok2 : True := trivial
      have tok3 : True := trivial
      go_enter Tryz.func25, Tryz.ntmps25
      go_upto_region 2 with (first | (have _t := tok1; go_at_call 39; (with_reducible refine ((T1 _).out).mono ?_); rintro e w1 ⟨rfl, hb1⟩; clear tok1 _t; have hz1 := hb1.size; (try simp only [World.size_alloc, World.size_setCell, World.size_drew, World.size_drewN'] at hz1)) | (have _t := tok2; go_at_call 40; (with_reducible refine ((T2 _).out).mono ?_); rintro e w2 ⟨u, B, rfl, hu, hBu, hb2⟩; clear tok2 _t; have hz2 := hb2.size; (try simp only [World.size_alloc, World.size_setCell, World.size_drew, World.size_drewN'] at hz2); obtain ⟨a9, c9, rfl, hx, -⟩ := Sx.of_owns hu; clear hu) | (have _t := tok3; go_at_call 41; (with_reducible refine ((T3 _).out).mono ?_); rintro e w3 ⟨rfl, hb3⟩; clear tok3 _t; have hz3 := hb3.size; (try simp only [World.size_alloc, World.size_setCell, World.size_drew, World.size_drewN'] at hz3); (try have c1 := (hb3.cell (p := ⟨g9, o9, none⟩) hgl).trans c0)))
      refine chk (fun W => Below w.heap.size w W ∧ W.heap[w1.heap.size]? = some (.cells #[.int .i64 d, .int .i64 A, .int .i64 C] 46 (0, 0))) (by refine ⟨?_, ?_⟩ <;> (repeat' first | (with_reducible first | assumption | (apply Ne.symm; assumption) | apply Nat.le_refl | apply Nat.le_add_right | apply zL | apply zRf | apply Wx.box | apply Wx.box4 | apply zWa | apply Wx.drew | apply zWn | apply bx_drew | apply bx_drewN | apply bx_set3 | apply bx_set2 | apply bx_set4 | apply bx_set1) | ((with_reducible apply bx_new); (focus (go_size; done))) | (with_reducible first | apply zOl | apply zFa | apply zDn | apply zDr | apply zAl | apply zSt | refine zVi (by assumption) ?_ ?_) | go_size | omega)) ?_
      rintro w9 ⟨hB9, H_Q_9⟩
      obtain ⟨k_Q_9_0, k_Q_9_1, k_Q_9_2, f_Q_9, l_Q_9⟩ := bk3 H_Q_9
      replace H_Q_9 := Lib.hid H_Q_9
      go_upto_region 3 with (first | (have _t := tok1; go_at_call 39; (with_reducible refine ((T1 _).out).mono ?_); rintro e w1 ⟨rfl, hb1⟩; clear tok1 _t; have hz1 := hb1.size; (try simp only [World.size_alloc, World.size_setCell, World.size_drew, World.size_drewN'] at hz1)) | (have _t := tok2; go_at_call 40; (with_reducible refine ((T2 _).out).mono ?_); rintro e w2 ⟨u, B, rfl, hu, hBu, hb2⟩; clear tok2 _t; have hz2 := hb2.size; (try simp only [World.size_alloc, World.size_setCell, World.size_drew, World.size_drewN'] at hz2); obtain ⟨a9, c9, rfl, hx, -⟩ := Sx.of_owns hu; clear hu) | (have _t := tok3; go_at_call 41; (with_reducible refine ((T3 _).out).mono ?_); rintro e w3 ⟨rfl, hb3⟩; clear tok3 _t; have hz3 := hb3.size; (try simp only [World.size_alloc, World.size_setCell, World.size_drew, World.size_drewN'] at hz3); (try have c1 := (hb3.cell (p := ⟨g9, o9, none⟩) hgl).trans c0)))
      have H_Q_2 := (hb2.block (w1.heap.size) (blk_lt' H_Q_9.out)).trans H_Q_9.out
      clear k_Q_9_0 k_Q_9_1 k_Q_9_2 f_Q_9 H_Q_9
      obtain ⟨k_Q_2_0, k_Q_2_1, k_Q_2_2, f_Q_2, l_Q_2⟩ := bk3 H_Q_2
      replace H_Q_2 := Lib.hid H_Q_2
      have hB2 : Below w.heap.size w w2 := below_via hb2 (by assumption) (by go_size)
      go_wp2_with (first | (have _t := tok1; go_at_call 39; (with_reducible refine ((T1 _).out).mono ?_); rintro e w1 ⟨rfl, hb1⟩; clear tok1 _t; have hz1 := hb1.size; (try simp only [World.size_alloc, World.size_setCell, World.size_drew, World.size_drewN'] at hz1)) | (have _t := tok2; go_at_call 40; (with_reducible refine ((T2 _).out).mono ?_); rintro e w2 ⟨u, B, rfl, hu, hBu, hb2⟩; clear tok2 _t; have hz2 := hb2.size; (try simp only [World.size_alloc, World.size_setCell, World.size_drew, World.size_drewN'] at hz2); obtain ⟨a9, c9, rfl, hx, -⟩ := Sx.of_owns hu; clear hu) | (have _t := tok3; go_at_call 41; (with_reducible refine ((T3 _).out).mono ?_); rintro e w3 ⟨rfl, hb3⟩; clear tok3 _t; have hz3 := hb3.size; (try simp only [World.size_alloc, World.size_setCell, World.size_drew, World.size_drewN'] at hz3); (try have c1 := (hb3.cell (p := ⟨g9, o9, none⟩) hgl).trans c0)))
      go_ret2
      refine ⟨rfl, ?_⟩
      first | exact hB2 | exact below_via hb3 hB2 (by go_size)
  | cons z zs =>
    have hzp : decide ((0 : Int) < (((z :: zs).length : Nat) : Int)) = true := by simp <;> omega
    cases ok <;> cases rl
    all_goals
      have tok1 : True := trivial
      have tok2 : True := trivial
      have tok3 : True := trivial
      go_enter Tryz.func25, Tryz.ntmps25
      go_upto_region 2 with (first | (have _t := tok1; go_at_call 39; (with_reducible refine ((T1 _).out).mono ?_); rintro e w1 ⟨rfl, hb1⟩; clear tok1 _t; have hz1 := hb1.size; (try simp only [World.size_alloc, World.size_setCell, World.size_drew, World.size_drewN'] at hz1)) | (have _t := tok2; go_at_call 40; (with_reducible refine ((T2 _).out).mono ?_); rintro e w2 ⟨u, B, rfl, hu, hBu, hb2⟩; clear tok2 _t; have hz2 := hb2.size; (try simp only [World.size_alloc, World.size_setCell, World.size_drew, World.size_drewN'] at hz2); obtain ⟨a9, c9, rfl, hx, -⟩ := Sx.of_owns hu; clear hu) | (have _t := tok3; go_at_call 41; (with_reducible refine ((T3 _).out).mono ?_); rintro e w3 ⟨rfl, hb3⟩; clear tok3 _t; have hz3 := hb3.size; (try simp only [World.size_alloc, World.size_setCell, World.size_drew, World.size_drewN'] at hz3); (try have c1 := (hb3.cell (p := ⟨g9, o9, none⟩) hgl).trans c0)))
      refine chk (fun W => Below w.heap.size w W ∧ W.heap[w1.heap.size]? = some (.cells #[.int .i64 d, .int .i64 A, .int .i64 C] 46 (0, 0))) (by refine ⟨?_, ?_⟩ <;> (repeat' first | (with_reducible first | assumption | (apply Ne.symm; assumption) | apply Nat.le_refl | apply Nat.le_add_right | apply zL | apply zRf | apply Wx.box | apply Wx.box4 | apply zWa | apply Wx.drew | apply zWn | apply bx_drew | apply bx_drewN | apply bx_set3 | apply bx_set2 | apply bx_set4 | apply bx_set1) | ((with_reducible apply bx_new); (focus (go_size; done))) | (with_reducible first | apply zOl | apply zFa | apply zDn | apply zDr | apply zAl | apply zSt | refine zVi (by assumption) ?_ ?_) | go_size | omega)) ?_
      rintro w9 ⟨hB9, H_Q_9⟩
      obtain ⟨k_Q_9_0, k_Q_9_1, k_Q_9_2, f_Q_9, l_Q_9⟩ := bk3 H_Q_9
      replace H_Q_9 := Lib.hid H_Q_9
      go_upto_region 3 with (first | (have _t := tok1; go_at_call 39; (with_reducible refine ((T1 _).out).mono ?_); rintro e w1 ⟨rfl, hb1⟩; clear tok1 _t; have hz1 := hb1.size; (try simp only [World.size_alloc, World.size_setCell, World.size_drew, World.size_drewN'] at hz1)) | (have _t := tok2; go_at_call 40; (with_reducible refine ((T2 _).out).mono ?_); rintro e w2 ⟨u, B, rfl, hu, hBu, hb2⟩; clear tok2 _t; have hz2 := hb2.size; (try simp only [World.size_alloc, World.size_setCell, World.size_drew, World.size_drewN'] at hz2); obtain ⟨a9, c9, rfl, hx, -⟩ := Sx.of_owns hu; clear hu) | (have _t := tok3; go_at_call 41; (with_reducible refine ((T3 _).out).mono ?_); rintro e w3 ⟨rfl, hb3⟩; clear tok3 _t; have hz3 := hb3.size; (try simp only [World.size_alloc, World.size_setCell, World.size_drew, World.size_drewN'] at hz3); (try have c1 := (hb3.cell (p := ⟨g9, o9, none⟩) hgl).trans c0)))
      have H_Q_2 := (hb2.block (w1.heap.size) (blk_lt' H_Q_9.out)).trans H_Q_9.out
      clear k_Q_9_0 k_Q_9_1 k_Q_9_2 f_Q_9 H_Q_9
      obtain ⟨k_Q_2_0, k_Q_2_1, k_Q_2_2, f_Q_2, l_Q_2⟩ := bk3 H_Q_2
      replace H_Q_2 := Lib.hid H_Q_2
      have hB2 : Below w.heap.size w w2 := below_via hb2 (by assumption) (by go_size)
      obtain ⟨g9, o9, rfl, hgl, hcs⟩ := hx.at (by simp)
      have c0 := hcs 0 (by simp)
      rw [Nat.add_zero] at c0
      clear hcs hx
      go_wp2_with (first | (have _t := tok1; go_at_call 39; (with_reducible refine ((T1 _).out).mono ?_); rintro e w1 ⟨rfl, hb1⟩; clear tok1 _t; have hz1 := hb1.size; (try simp only [World.size_alloc, World.size_setCell, World.size_drew, World.size_drewN'] at hz1)) | (have _t := tok2; go_at_call 40; (with_reducible refine ((T2 _).out).mono ?_); rintro e w2 ⟨u, B, rfl, hu, hBu, hb2⟩; clear tok2 _t; have hz2 := hb2.size; (try simp only [World.size_alloc, World.size_setCell, World.size_drew, World.size_drewN'] at hz2); obtain ⟨a9, c9, rfl, hx, -⟩ := Sx.of_owns hu; clear hu) | (have _t := tok3; go_at_call 41; (with_reducible refine ((T3 _).out).mono ?_); rintro e w3 ⟨rfl, hb3⟩; clear tok3 _t; have hz3 := hb3.size; (try simp only [World.size_alloc, World.size_setCell, World.size_drew, World.size_drewN'] at hz3); (try have c1 := (hb3.cell (p := ⟨g9, o9, none⟩) hgl).trans c0)))
      go_ret2
      refine ⟨rfl, ?_⟩
      first | exact hB2 | exact below_via hb3 hB2 (by go_size)
theorem dsReason_any (a b d : Int) (dual : Bool) (w : World) (h : tcB a b = true) (hd : d ∈ ddL a b dual) : Calls Tryz.prog 22 #[.agg #[.int .i64 a, .int .i64 b], .bool dual, .int .i64 d] w fun e w' =>
    e = .returned (.tuple #[.int .i64 (rdV a b dual d).1, .bool (rdV a b dual d).2]) ∧ Below w.heap.size w w' := by
  have hq := qaB_side h hd
  have T1 := fun W : World => Lib.hid (dsQuartic_any a b d dual W h hd)
  have hnot : ∀ (x : Bool) (w : World), (Op.unary .not (.bool x)).run Tryz.prog w = .ok (.bool (!x)) w := fun _ _ => rfl
  unfold rdV
  generalize (sdV a b dual).2.tdiv d = C at *
  generalize (sdV a b dual).1 = A at *
  have T2 := fun W : World => Lib.hid (loFailing_any d A C W hq)
  have T3 := fun W : World => Lib.hid (loReal_any d A C W hq)
  clear h hd hq
  unfold NewJ at T2
  unfold rsV
  obtain ⟨⟨zs, ok⟩, hv⟩ : ∃ v, flV d A C = v := ⟨_, rfl⟩
  rw [hv] at T2 ⊢
  clear hv
  generalize rlB d A C = rl at *
  dsimp only at T2 ⊢
  cases zs with
  | nil =>
    have hl0 : ([] : List Int).length = 0 := rfl
    cases ok <;> cases rl
    all_goals
      have tok1 : True := trivial
      have tok2 : True := trivial
      have tok3 : True := trivial
      go_enter Tryz.func22, Tryz.ntmps22
      go_upto_region 2 with (first | (have _t := tok1; go_at_call 30; (with_reducible refine ((T1 _).out).mono ?_); rintro e w1 ⟨rfl, hb1⟩; clear tok1 _t; have hz1 := hb1.size; (try simp only [World.size_alloc, World.size_setCell, World.size_drew, World.size_drewN'] at hz1)) | (have _t := tok2; go_at_call 31; (with_reducible refine ((T2 _).out).mono ?_); rintro e w2 ⟨u, B, rfl, hu, hBu, hb2⟩; clear tok2 _t; have hz2 := hb2.size; (try simp only [World.size_alloc, World.size_setCell, World.size_drew, World.size_drewN'] at hz2); obtain ⟨a9, c9, rfl, hx, -⟩ := Sx.of_owns hu; clear hu) | (have _t := tok3; go_at_call 32; (with_reducible refine ((T3 _).out).mono ?_); rintro e w3 ⟨rfl, hb3⟩; clear tok3 _t; have hz3 := hb3.size; (try simp only [World.size_alloc, World.size_setCell, World.size_drew, World.size_drewN'] at hz3); (try have c1 := (hb3.cell (p := ⟨g9, o9, none⟩) hgl).trans c0)))
      refine chk (fun W => Below w.heap.size w W ∧ W.heap[w1.heap.size]? = some (.cells #[.int .i64 d, .int .i64 A, .int .i64 C] 46 (0, 0))) (by refine ⟨?_, ?_⟩ <;> (repeat' first | (with_reducible first | assumption | (apply Ne.symm; assumption) | apply Nat.le_refl | apply Nat.le_add_right | apply zL | apply zRf | apply Wx.box | apply Wx.box4 | apply zWa | apply Wx.drew | apply zWn | apply bx_drew | apply bx_drewN | apply bx_set3 | apply bx_set2 | apply bx_set4 | apply bx_set1) | ((with_reducible apply bx_new); (focus (go_size; done))) | (with_reducible first | apply zOl | apply zFa | apply zDn | apply zDr | apply zAl | apply zSt | refine zVi (by assumption) ?_ ?_) | go_size | omega)) ?_
      rintro w9 ⟨hB9, H_Q_9⟩
      obtain ⟨k_Q_9_0, k_Q_9_1, k_Q_9_2, f_Q_9, l_Q_9⟩ := bk3 H_Q_9
      replace H_Q_9 := Lib.hid H_Q_9
      go_upto_region 3 with (first | (have _t := tok1; go_at_call 30; (with_reducible refine ((T1 _).out).mono ?_); rintro e w1 ⟨rfl, hb1⟩; clear tok1 _t; have hz1 := hb1.size; (try simp only [World.size_alloc, World.size_setCell, World.size_drew, World.size_drewN'] at hz1)) | (have _t := tok2; go_at_call 31; (with_reducible refine ((T2 _).out).mono ?_); rintro e w2 ⟨u, B, rfl, hu, hBu, hb2⟩; clear tok2 _t; have hz2 := hb2.size; (try simp only [World.size_alloc, World.size_setCell, World.size_drew, World.size_drewN'] at hz2); obtain ⟨a9, c9, rfl, hx, -⟩ := Sx.of_owns hu; clear hu) | (have _t := tok3; go_at_call 32; (with_reducible refine ((T3 _).out).mono ?_); rintro e w3 ⟨rfl, hb3⟩; clear tok3 _t; have hz3 := hb3.size; (try simp only [World.size_alloc, World.size_setCell, World.size_drew, World.size_drewN'] at hz3); (try have c1 := (hb3.cell (p := ⟨g9, o9, none⟩) hgl).trans c0)))
      have H_Q_2 := (hb2.block (w1.heap.size) (blk_lt' H_Q_9.out)).trans H_Q_9.out
      clear k_Q_9_0 k_Q_9_1 k_Q_9_2 f_Q_9 H_Q_9
      obtain ⟨k_Q_2_0, k_Q_2_1, k_Q_2_2, f_Q_2, l_Q_2⟩ := bk3 H_Q_2
      replace H_Q_2 := Lib.hid H_Q_2
      have hB2 : Below w.heap.size w w2 := below_via hb2 (by assumption) (by go_size)
      go_wp2_with (first | (have _t := tok1; go_at_call 30; (with_reducible refine ((T1 _).out).mono ?_); rintro e w1 ⟨rfl, hb1⟩; clear tok1 _t; have hz1 := hb1.size; (try simp only [World.size_alloc, World.size_setCell, World.size_drew, World.size_drewN'] at hz1)) | (have _t := tok2; go_at_call 31; (with_reducible refine ((T2 _).out).mono ?_); rintro e w2 ⟨u, B, rfl, hu, hBu, hb2⟩; clear tok2 _t; have hz2 := hb2.size; (try simp only [World.size_alloc, World.size_setCell, World.size_drew, World.size_drewN'] at hz2); obtain ⟨a9, c9, rfl, hx, -⟩ := Sx.of_owns hu; clear hu) | (have _t := tok3; go_at_call 32; (with_reducible refine ((T3 _).out).mono ?_); rintro e w3 ⟨rfl, hb3⟩; clear tok3 _t; have hz3 := hb3.size; (try simp only [World.size_alloc, World.size_setCell, World.size_drew, World.size_drewN'] at hz3); (try have c1 := (hb3.cell (p := ⟨g9, o9, none⟩) hgl).trans c0)))
      go_ret2
      refine ⟨rfl, ?_⟩
      first | exact hB2 | exact below_via hb3 hB2 (by go_size)
  | cons z zs =>
    have hzp : decide ((0 : Int) < (((z :: zs).length : Nat) : Int)) = true := by simp <;> omega
    cases ok <;> cases rl
    all_goals
      have tok1 : True := trivial
      have tok2 : True := trivial
      have tok3 : True := trivial
      go_enter Tryz.func22, Tryz.ntmps22
      go_upto_region 2 with (first | (have _t := tok1; go_at_call 30; (with_reducible refine ((T1 _).out).mono ?_); rintro e w1 ⟨rfl, hb1⟩; clear tok1 _t; have hz1 := hb1.size; (try simp only [World.size_alloc, World.size_setCell, World.size_drew, World.size_drewN'] at hz1)) | (have _t := tok2; go_at_call 31; (with_reducible refine ((T2 _).out).mono ?_); rintro e w2 ⟨u, B, rfl, hu, hBu, hb2⟩; clear tok2 _t; have hz2 := hb2.size; (try simp only [World.size_alloc, World.size_setCell, World.size_drew, World.size_drewN'] at hz2); obtain ⟨a9, c9, rfl, hx, -⟩ := Sx.of_owns hu; clear hu) | (have _t := tok3; go_at_call 32; (with_reducible refine ((T3 _).out).mono ?_); rintro e w3 ⟨rfl, hb3⟩; clear tok3 _t; have hz3 := hb3.size; (try simp only [World.size_alloc, World.size_setCell, World.size_drew, World.size_drewN'] at hz3); (try have c1 := (hb3.cell (p := ⟨g9, o9, none⟩) hgl).trans c0)))
      refine chk (fun W => Below w.heap.size w W ∧ W.heap[w1.heap.size]? = some (.cells #[.int .i64 d, .int .i64 A, .int .i64 C] 46 (0, 0))) (by refine ⟨?_, ?_⟩ <;> (repeat' first | (with_reducible first | assumption | (apply Ne.symm; assumption) | apply Nat.le_refl | apply Nat.le_add_right | apply zL | apply zRf | apply Wx.box | apply Wx.box4 | apply zWa | apply Wx.drew | apply zWn | apply bx_drew | apply bx_drewN | apply bx_set3 | apply bx_set2 | apply bx_set4 | apply bx_set1) | ((with_reducible apply bx_new); (focus (go_size; done))) | (with_reducible first | apply zOl | apply zFa | apply zDn | apply zDr | apply zAl | apply zSt | refine zVi (by assumption) ?_ ?_) | go_size | omega)) ?_
      rintro w9 ⟨hB9, H_Q_9⟩
      obtain ⟨k_Q_9_0, k_Q_9_1, k_Q_9_2, f_Q_9, l_Q_9⟩ := bk3 H_Q_9
      replace H_Q_9 := Lib.hid H_Q_9
      go_upto_region 3 with (first | (have _t := tok1; go_at_call 30; (with_reducible refine ((T1 _).out).mono ?_); rintro e w1 ⟨rfl, hb1⟩; clear tok1 _t; have hz1 := hb1.size; (try simp only [World.size_alloc, World.size_setCell, World.size_drew, World.size_drewN'] at hz1)) | (have _t := tok2; go_at_call 31; (with_reducible refine ((T2 _).out).mono ?_); rintro e w2 ⟨u, B, rfl, hu, hBu, hb2⟩; clear tok2 _t; have hz2 := hb2.size; (try simp only [World.size_alloc, World.size_setCell, World.size_drew, World.size_drewN'] at hz2); obtain ⟨a9, c9, rfl, hx, -⟩ := Sx.of_owns hu; clear hu) | (have _t := tok3; go_at_call 32; (with_reducible refine ((T3 _).out).mono ?_); rintro e w3 ⟨rfl, hb3⟩; clear tok3 _t; have hz3 := hb3.size; (try simp only [World.size_alloc, World.size_setCell, World.size_drew, World.size_drewN'] at hz3); (try have c1 := (hb3.cell (p := ⟨g9, o9, none⟩) hgl).trans c0)))
      have H_Q_2 := (hb2.block (w1.heap.size) (blk_lt' H_Q_9.out)).trans H_Q_9.out
      clear k_Q_9_0 k_Q_9_1 k_Q_9_2 f_Q_9 H_Q_9
      obtain ⟨k_Q_2_0, k_Q_2_1, k_Q_2_2, f_Q_2, l_Q_2⟩ := bk3 H_Q_2
      replace H_Q_2 := Lib.hid H_Q_2
      have hB2 : Below w.heap.size w w2 := below_via hb2 (by assumption) (by go_size)
      obtain ⟨g9, o9, rfl, hgl, hcs⟩ := hx.at (by simp)
      have c0 := hcs 0 (by simp)
      rw [Nat.add_zero] at c0
      clear hcs hx
      go_wp2_with (first | (have _t := tok1; go_at_call 30; (with_reducible refine ((T1 _).out).mono ?_); rintro e w1 ⟨rfl, hb1⟩; clear tok1 _t; have hz1 := hb1.size; (try simp only [World.size_alloc, World.size_setCell, World.size_drew, World.size_drewN'] at hz1)) | (have _t := tok2; go_at_call 31; (with_reducible refine ((T2 _).out).mono ?_); rintro e w2 ⟨u, B, rfl, hu, hBu, hb2⟩; clear tok2 _t; have hz2 := hb2.size; (try simp only [World.size_alloc, World.size_setCell, World.size_drew, World.size_drewN'] at hz2); obtain ⟨a9, c9, rfl, hx, -⟩ := Sx.of_owns hu; clear hu) | (have _t := tok3; go_at_call 32; (with_reducible refine ((T3 _).out).mono ?_); rintro e w3 ⟨rfl, hb3⟩; clear tok3 _t; have hz3 := hb3.size; (try simp only [World.size_alloc, World.size_setCell, World.size_drew, World.size_drewN'] at hz3); (try have c1 := (hb3.cell (p := ⟨g9, o9, none⟩) hgl).trans c0)))
      go_ret2
      refine ⟨rfl, ?_⟩
      first | exact hB2 | exact below_via hb3 hB2 (by go_size)
def asB (a b : Int) (dual : Bool) (d : Int) : Bool := tcB a b && decide (d ∈ ddL a b dual)
def raV (a b : Int) (dual : Bool) (d : Int) : Int × Bool := if asB a b dual d = true then rdV a b dual d else (0, false)
theorem asB_mem {a b d : Int} {dual : Bool} (h : asB a b dual d = true) : tcB a b = true ∧ d ∈ ddL a b dual := by
  simpa [asB] using h
def seF (f : Int → Int × Bool) : List Int → List Int → List Int × Bool
  | [], out => (out, true)
  | d :: l, out => if (f d).2 = false then ([], false) else seF f l (if (f d).1 = 0 then out ++ [d] else out)
def seV (a b : Int) (dual : Bool) : List Int × Bool := seF (rdV a b dual) (ddL a b dual) []
theorem seF_len {f : Int → Int × Bool} : ∀ {l out : List Int}, (seF f l out).1.length ≤ out.length + l.length
  | [], out => by simp [seF]
  | d :: l, out => by
    unfold seF
    split
    · simp
    · refine Nat.le_trans seF_len ?_
      split <;> simp <;> omega
theorem seV_len {a b : Int} {dual : Bool} (h : tcB a b = true) : (seV a b dual).1.length ≤ 182400 := by
  have h1 := ddL_len (dual := dual) h
  have h2 := seF_len (f := rdV a b dual) (l := ddL a b dual) (out := [])
  simp at h2
  unfold seV
  omega
def SeRel (w w1 : World) (a b : Int) (f : Int → Int × Bool) (L : List Int) (R : List Int × Bool) (ov iv : Value) (wr : World) : Prop := ∃ (k : Nat) (out : List Int) (v : Value), iv = .int .i64 k ∧ v = ov ∧ k ≤ L.length ∧ out.length ≤ k ∧ seF f (L.drop k) out = R ∧ OwnI wr w1.heap.size 3 v out ∧
  wr.heap[w.heap.size]? = some (.cells #[.int .i64 a, .int .i64 b] 26 (0, 0)) ∧ Below w.heap.size w wr ∧ Below w1.heap.size w1 wr
theorem selmer_any (a b : Int) (dual : Bool) (w : World) (h : tcB a b = true) : Calls Tryz.prog 19 #[.agg #[.int .i64 a, .int .i64 b], .bool dual] w (NewJ w (seV a b dual).1 (seV a b dual).2) := by
  obtain ⟨i0, hi, iz0, iz1, iz2⟩ := info_parts infoI
  have TB := fun W : World => Lib.hid (descentDivisors_any a b dual W h)
  have TR := Lib.hid (fun (d : Int) (hd : d ∈ ddL a b dual) (W : World) => reasonAgainst_any a b d dual W h hd)
  have hll := ddL_len (dual := dual) h
  unfold seV
  obtain ⟨f, hf⟩ : ∃ f, rdV a b dual = f := ⟨_, rfl⟩
  rw [hf] at TR ⊢
  generalize ddL a b dual = L at *
  obtain ⟨R, hR⟩ : ∃ R, seF f L [] = R := ⟨_, rfl⟩
  rw [hR]
  have HR := Lib.hid hR
  clear hR hf h
  have tok1 : True := trivial
  have tok2 : True := trivial
  have tok3 : True := trivial
  have tok4 : True := trivial
  have tok5 : True := trivial
  have tok6 : True := trivial
  have tok7 : True := trivial
  have tok8 : True := trivial
  go_enter Tryz.func19, Tryz.ntmps19
  go_upto_region 1 with fail
  refine chk (fun W => Below w.heap.size w W ∧ W.heap[w.heap.size]? = some (.cells #[.int .i64 a, .int .i64 b] 26 (0, 0))) (by refine ⟨?_, ?_⟩ <;> (repeat' first | (with_reducible first | assumption | (apply Ne.symm; assumption) | apply Nat.le_refl | apply Nat.le_add_right | apply zL | apply zRf | apply Wx.box | apply Wx.box4 | apply zWa | apply Wx.drew | apply zWn | apply bx_drew | apply bx_drewN | apply bx_set3 | apply bx_set2 | apply bx_set4 | apply bx_set1) | ((with_reducible apply bx_new); (focus (go_size; done))) | (with_reducible first | apply zOl | apply zFa | apply zDn | apply zDr | apply zAl | apply zSt | refine zVi (by assumption) ?_ ?_) | go_size | omega)) ?_
  rintro w1 ⟨hB1, H_E_1⟩
  obtain ⟨k_E_1_0, k_E_1_1, f_E_1, l_E_1⟩ := bk2 H_E_1
  replace H_E_1 := Lib.hid H_E_1
  go_upto_region 3 with (first | (have _t := tok2; go_at_call 24; (with_reducible refine ((TB _).out).mono ?_); rintro e w2 ⟨A, c, rfl, hx, hb2⟩; clear tok2 _t; have hz2 := hb2.size; (try simp only [World.size_alloc, World.size_setCell, World.size_drew, World.size_drewN'] at hz2)))
  have H_E_2 := (hb2.block (w.heap.size) (blk_lt' H_E_1.out)).trans H_E_1.out
  clear k_E_1_0 k_E_1_1 f_E_1 H_E_1
  obtain ⟨k_E_2_0, k_E_2_1, f_E_2, l_E_2⟩ := bk2 H_E_2
  replace H_E_2 := Lib.hid H_E_2
  have hB2 : Below w.heap.size w w2 := below_via hb2 (by assumption) (by go_size)
  have hw2 := hB2.size
  have HX := Lib.hid hx
  clear hx
  go_loopw [6, 15] (fun ov iv wr => SeRel w w2 a b f L R ov iv wr) (fun _ iv _ => (L.length - intOf iv).toNat)
  case atStart => exact ⟨0, [], _, rfl, rfl, by omega, by simp, by simpa using HR.out, ownI_nil _ _ _, H_E_2.out, hB2, Below.refl _ _⟩
  case round =>
    obtain ⟨k, out, v, rfl, rfl, hk, hol, hres, ho, hQ, hbw, hb2w⟩ := hrel
    have hsw := hbw.size
    have HO := Lib.hid ho
    clear ho
    by_cases hlt : k < L.length
    · have hltc : (k : Int) < (L.length : Int) := by omega
      obtain ⟨b9, off, hA9, hbb, hcs⟩ := HX.out.at (by omega)
      cases hA9
      have c1 := (hb2w.cell (p := ⟨b9, off + k, none⟩) hbb).trans (hcs k hlt)
      have hmem : (L[k]?.getD 0) ∈ L := has_at hlt
      rw [drop_at hlt] at hres
      obtain ⟨x, hxe⟩ : ∃ x, L[k]?.getD 0 = x := ⟨_, rfl⟩
      rw [hxe] at hres hmem c1
      have TS := fun W : World => Lib.hid (TR.out x hmem W)
      clear hmem hxe hcs
      unfold seF at hres
      obtain ⟨⟨s1, s2⟩, hsl⟩ : ∃ s, f x = s := ⟨_, rfl⟩
      rw [hsl] at hres TS
      clear hsl
      dsimp only at hres TS
      go_upto_region 5 with fail
      replace H_E_2 := H_E_2.out
      refine chk (fun W => Below w.heap.size w W ∧ W.heap[w.heap.size]? = some (.cells #[.int .i64 a, .int .i64 b] 26 (0, 0)) ∧ wr = W) (by refine ⟨?_, ?_, ?_⟩ <;> (repeat' first | (with_reducible first | assumption | (apply Ne.symm; assumption) | apply Nat.le_refl | apply Nat.le_add_right | apply zL | apply zRf | apply Wx.box | apply Wx.box4 | apply zWa | apply Wx.drew | apply zWn | apply bx_drew | apply bx_drewN | apply bx_set3 | apply bx_set2 | apply bx_set4 | apply bx_set1) | ((with_reducible apply bx_new); (focus (go_size; done))) | (with_reducible first | apply zOl | apply zFa | apply zDn | apply zDr | apply zAl | apply zSt | refine zVi (by assumption) ?_ ?_) | go_size | omega)) ?_
      clear k_E_2_0 k_E_2_1 f_E_2 H_E_2
      clear hB2
      rintro w3 ⟨hB3, H_E_3, HE⟩
      obtain ⟨k_E_3_0, k_E_3_1, f_E_3, l_E_3⟩ := bk2 H_E_3
      replace H_E_3 := Lib.hid H_E_3
      subst HE
      clear hQ c1
      cases s2
      · simp only [if_true] at hres
        subst hres
        go_upto_region 6 with (first | (have _t := tok4; go_at_call 25; (with_reducible refine ((TS _).out).mono ?_); rintro e w4 ⟨rfl, hb4⟩; clear tok4 _t; have hz4 := hb4.size; (try simp only [World.size_alloc, World.size_setCell, World.size_drew, World.size_drewN'] at hz4)))
        have H_E_4 := (hb4.block (w.heap.size) (blk_lt' H_E_3.out)).trans H_E_3.out
        clear k_E_3_0 k_E_3_1 f_E_3 H_E_3
        obtain ⟨k_E_4_0, k_E_4_1, f_E_4, l_E_4⟩ := bk2 H_E_4
        replace H_E_4 := Lib.hid H_E_4
        have hB4 : Below w.heap.size w w4 := below_via hb4 (by assumption) (by go_size)
        go_wp2_with fail
        go_ret2
        exact ⟨_, w.heap.size, rfl, ownI_nil _ _ _, Nat.le_refl _, hB4⟩
      · simp only [Bool.true_eq_false, if_false] at hres
        by_cases hs0 : s1 = 0
        · subst hs0
          rw [if_pos rfl] at hres
          have HRS := Lib.hid hres
          have hz9 : ((0 : Int) == 0) = true := rfl
          clear hres
          go_upto_region 9 with (first | (have _t := tok4; go_at_call 25; (with_reducible refine ((TS _).out).mono ?_); rintro e w4 ⟨rfl, hb4⟩; clear tok4 _t; have hz4 := hb4.size; (try simp only [World.size_alloc, World.size_setCell, World.size_drew, World.size_drewN'] at hz4)))
          have H_E_4 := (hb4.block (w.heap.size) (blk_lt' H_E_3.out)).trans H_E_3.out
          clear k_E_3_0 k_E_3_1 f_E_3 H_E_3
          obtain ⟨k_E_4_0, k_E_4_1, f_E_4, l_E_4⟩ := bk2 H_E_4
          replace H_E_4 := Lib.hid H_E_4
          have hB4 : Below w.heap.size w w4 := below_via hb4 (by assumption) (by go_size)
          replace H_E_4 := H_E_4.out
          refine chk (fun W => Below w.heap.size w W ∧ W.heap[w.heap.size]? = some (.cells #[.int .i64 a, .int .i64 b] 26 (0, 0)) ∧ Below wr.heap.size wr W) (by refine ⟨?_, ?_, ?_⟩ <;> (repeat' first | (with_reducible first | assumption | (apply Ne.symm; assumption) | apply Nat.le_refl | apply Nat.le_add_right | apply zL | apply zRf | apply Wx.box | apply Wx.box4 | apply zWa | apply Wx.drew | apply zWn | apply bx_drew | apply bx_drewN | apply bx_set3 | apply bx_set2 | apply bx_set4 | apply bx_set1) | ((with_reducible apply bx_new); (focus (go_size; done))) | (with_reducible first | apply zOl | apply zFa | apply zDn | apply zDr | apply zAl | apply zSt | refine zVi (by assumption) ?_ ?_) | go_size | omega)) ?_
          clear k_E_4_0 k_E_4_1 f_E_4 H_E_4
          clear hB4
          rintro w5 ⟨hB5, H_E_5, hbr⟩
          obtain ⟨k_E_5_0, k_E_5_1, f_E_5, l_E_5⟩ := bk2 H_E_5
          replace H_E_5 := Lib.hid H_E_5
          have hs5 := hbr.size
          have HO4 := Lib.hid (HO.out.below hbr)
          have q1 := H_E_5.out
          have hb25 := hb2w.trans (hbr.mono hb2w.size)
          have hs25 := hb25.size
          go_wp2_with (first | (at_builtin; refine wpList_append_own_at _ rfl _ _ 33 rfl w2.heap.size 3 i0 (.int .i64 0) 1 8 Tryz.underlying33 hi iz0 iz1 iz2 rfl (by decide) v out.length _ rfl (HO4.out.alloc _) ⟨w5.heap.size, 0, none⟩ 1 1 [_] rfl rfl (cell_one_new _ _ _) (by simp [Value.oneCell']) (by unfold maxLen; omega) (by omega) (by simp; omega) ?_; intro v1 w6 hv1 hg1 _ hat))
          go_roundw
          case rel =>
            refine ⟨k + 1, out ++ [x], v1, by go_num, rfl, by omega, by simp; omega, HRS.out, ?_, ?_, ?_, ?_⟩
            · unfold OwnI
              rw [ints_append, ints_one, List.length_append]
              exact hv1
            · have h5 : (w5.alloc (.cells #[.int .i64 x] 3 (0, 0))).heap[w.heap.size]? = some (.cells #[.int .i64 a, .int .i64 b] 26 (0, 0)) := bx_old q1 _
              exact (hg1.block _ (blk_lt' h5) (row_type4 HO4.out q1 (by decide))).trans h5
            · exact (hB5.alloc (by have := hB5.size; omega) _).grown hg1 (by simp; have := hB5.size; omega) (fun j h => by have := (HO4.out.lt _ h).1; omega)
            · exact (hb25.alloc (by have := hb25.size; omega) _).grown hg1 (by simp; have := hb25.size; omega) (fun j h => (HO4.out.lt _ h).1)
          case measure => simp [intOf]; omega
        · rw [if_neg hs0] at hres
          have hz9 : (s1 == 0) = false := by simpa using hs0
          have HRS := Lib.hid hres
          clear hres hs0
          go_upto_region 10 with (first | (have _t := tok4; go_at_call 25; (with_reducible refine ((TS _).out).mono ?_); rintro e w4 ⟨rfl, hb4⟩; clear tok4 _t; have hz4 := hb4.size; (try simp only [World.size_alloc, World.size_setCell, World.size_drew, World.size_drewN'] at hz4)))
          have H_E_4 := (hb4.block (w.heap.size) (blk_lt' H_E_3.out)).trans H_E_3.out
          clear k_E_3_0 k_E_3_1 f_E_3 H_E_3
          obtain ⟨k_E_4_0, k_E_4_1, f_E_4, l_E_4⟩ := bk2 H_E_4
          replace H_E_4 := Lib.hid H_E_4
          have hB4 : Below w.heap.size w w4 := below_via hb4 (by assumption) (by go_size)
          have q1 := H_E_4.out
          have hb24 := hb2w.trans (hb4.mono hb2w.size)
          go_wp2_with fail
          go_roundw
          case rel => exact ⟨k + 1, out, v, by go_num, rfl, by omega, by omega, HRS.out, HO.out.below hb4, q1, hB4, hb24⟩
          case measure => simp [intOf]; omega
    · obtain rfl : k = L.length := by omega
      rw [List.drop_length] at hres
      unfold seF at hres
      subst hres
      go_wp2_with fail
      go_ret2
      exact ⟨_, w2.heap.size, rfl, HO.out, hw2, hbw⟩
theorem dsSelmer_any (a b : Int) (dual : Bool) (w : World) (h : tcB a b = true) : Calls Tryz.prog 16 #[.agg #[.int .i64 a, .int .i64 b], .bool dual] w (NewJ w (seV a b dual).1 (seV a b dual).2) := by
  obtain ⟨i0, hi, iz0, iz1, iz2⟩ := info_parts infoI
  have TB := fun W : World => Lib.hid (dsDivisors_any a b dual W h)
  have TR := Lib.hid (fun (d : Int) (hd : d ∈ ddL a b dual) (W : World) => dsReason_any a b d dual W h hd)
  have hll := ddL_len (dual := dual) h
  unfold seV
  obtain ⟨f, hf⟩ : ∃ f, rdV a b dual = f := ⟨_, rfl⟩
  rw [hf] at TR ⊢
  generalize ddL a b dual = L at *
  obtain ⟨R, hR⟩ : ∃ R, seF f L [] = R := ⟨_, rfl⟩
  rw [hR]
  have HR := Lib.hid hR
  clear hR hf h
  have tok1 : True := trivial
  have tok2 : True := trivial
  have tok3 : True := trivial
  have tok4 : True := trivial
  have tok5 : True := trivial
  have tok6 : True := trivial
  have tok7 : True := trivial
  have tok8 : True := trivial
  go_enter Tryz.func16, Tryz.ntmps16
  go_upto_region 1 with fail
  refine chk (fun W => Below w.heap.size w W ∧ W.heap[w.heap.size]? = some (.cells #[.int .i64 a, .int .i64 b] 26 (0, 0))) (by refine ⟨?_, ?_⟩ <;> (repeat' first | (with_reducible first | assumption | (apply Ne.symm; assumption) | apply Nat.le_refl | apply Nat.le_add_right | apply zL | apply zRf | apply Wx.box | apply Wx.box4 | apply zWa | apply Wx.drew | apply zWn | apply bx_drew | apply bx_drewN | apply bx_set3 | apply bx_set2 | apply bx_set4 | apply bx_set1) | ((with_reducible apply bx_new); (focus (go_size; done))) | (with_reducible first | apply zOl | apply zFa | apply zDn | apply zDr | apply zAl | apply zSt | refine zVi (by assumption) ?_ ?_) | go_size | omega)) ?_
  rintro w1 ⟨hB1, H_E_1⟩
  obtain ⟨k_E_1_0, k_E_1_1, f_E_1, l_E_1⟩ := bk2 H_E_1
  replace H_E_1 := Lib.hid H_E_1
  go_upto_region 3 with (first | (have _t := tok2; go_at_call 21; (with_reducible refine ((TB _).out).mono ?_); rintro e w2 ⟨A, c, rfl, hx, hb2⟩; clear tok2 _t; have hz2 := hb2.size; (try simp only [World.size_alloc, World.size_setCell, World.size_drew, World.size_drewN'] at hz2)))
  have H_E_2 := (hb2.block (w.heap.size) (blk_lt' H_E_1.out)).trans H_E_1.out
  clear k_E_1_0 k_E_1_1 f_E_1 H_E_1
  obtain ⟨k_E_2_0, k_E_2_1, f_E_2, l_E_2⟩ := bk2 H_E_2
  replace H_E_2 := Lib.hid H_E_2
  have hB2 : Below w.heap.size w w2 := below_via hb2 (by assumption) (by go_size)
  have hw2 := hB2.size
  have HX := Lib.hid hx
  clear hx
  go_loopw [6, 15] (fun ov iv wr => SeRel w w2 a b f L R ov iv wr) (fun _ iv _ => (L.length - intOf iv).toNat)
  case atStart => exact ⟨0, [], _, rfl, rfl, by omega, by simp, by simpa using HR.out, ownI_nil _ _ _, H_E_2.out, hB2, Below.refl _ _⟩
  case round =>
    obtain ⟨k, out, v, rfl, rfl, hk, hol, hres, ho, hQ, hbw, hb2w⟩ := hrel
    have hsw := hbw.size
    have HO := Lib.hid ho
    clear ho
    by_cases hlt : k < L.length
    · have hltc : (k : Int) < (L.length : Int) := by omega
      obtain ⟨b9, off, hA9, hbb, hcs⟩ := HX.out.at (by omega)
      cases hA9
      have c1 := (hb2w.cell (p := ⟨b9, off + k, none⟩) hbb).trans (hcs k hlt)
      have hmem : (L[k]?.getD 0) ∈ L := has_at hlt
      rw [drop_at hlt] at hres
      obtain ⟨x, hxe⟩ : ∃ x, L[k]?.getD 0 = x := ⟨_, rfl⟩
      rw [hxe] at hres hmem c1
      have TS := fun W : World => Lib.hid (TR.out x hmem W)
      clear hmem hxe hcs
      unfold seF at hres
      obtain ⟨⟨s1, s2⟩, hsl⟩ : ∃ s, f x = s := ⟨_, rfl⟩
      rw [hsl] at hres TS
      clear hsl
      dsimp only at hres TS
      go_upto_region 5 with fail
      replace H_E_2 := H_E_2.out
      refine chk (fun W => Below w.heap.size w W ∧ W.heap[w.heap.size]? = some (.cells #[.int .i64 a, .int .i64 b] 26 (0, 0)) ∧ wr = W) (by refine ⟨?_, ?_, ?_⟩ <;> (repeat' first | (with_reducible first | assumption | (apply Ne.symm; assumption) | apply Nat.le_refl | apply Nat.le_add_right | apply zL | apply zRf | apply Wx.box | apply Wx.box4 | apply zWa | apply Wx.drew | apply zWn | apply bx_drew | apply bx_drewN | apply bx_set3 | apply bx_set2 | apply bx_set4 | apply bx_set1) | ((with_reducible apply bx_new); (focus (go_size; done))) | (with_reducible first | apply zOl | apply zFa | apply zDn | apply zDr | apply zAl | apply zSt | refine zVi (by assumption) ?_ ?_) | go_size | omega)) ?_
      clear k_E_2_0 k_E_2_1 f_E_2 H_E_2
      clear hB2
      rintro w3 ⟨hB3, H_E_3, HE⟩
      obtain ⟨k_E_3_0, k_E_3_1, f_E_3, l_E_3⟩ := bk2 H_E_3
      replace H_E_3 := Lib.hid H_E_3
      subst HE
      clear hQ c1
      cases s2
      · simp only [if_true] at hres
        subst hres
        go_upto_region 6 with (first | (have _t := tok4; go_at_call 22; (with_reducible refine ((TS _).out).mono ?_); rintro e w4 ⟨rfl, hb4⟩; clear tok4 _t; have hz4 := hb4.size; (try simp only [World.size_alloc, World.size_setCell, World.size_drew, World.size_drewN'] at hz4)))
        have H_E_4 := (hb4.block (w.heap.size) (blk_lt' H_E_3.out)).trans H_E_3.out
        clear k_E_3_0 k_E_3_1 f_E_3 H_E_3
        obtain ⟨k_E_4_0, k_E_4_1, f_E_4, l_E_4⟩ := bk2 H_E_4
        replace H_E_4 := Lib.hid H_E_4
        have hB4 : Below w.heap.size w w4 := below_via hb4 (by assumption) (by go_size)
        go_wp2_with fail
        go_ret2
        exact ⟨_, w.heap.size, rfl, ownI_nil _ _ _, Nat.le_refl _, hB4⟩
      · simp only [Bool.true_eq_false, if_false] at hres
        by_cases hs0 : s1 = 0
        · subst hs0
          rw [if_pos rfl] at hres
          have HRS := Lib.hid hres
          have hz9 : ((0 : Int) == 0) = true := rfl
          clear hres
          go_upto_region 9 with (first | (have _t := tok4; go_at_call 22; (with_reducible refine ((TS _).out).mono ?_); rintro e w4 ⟨rfl, hb4⟩; clear tok4 _t; have hz4 := hb4.size; (try simp only [World.size_alloc, World.size_setCell, World.size_drew, World.size_drewN'] at hz4)))
          have H_E_4 := (hb4.block (w.heap.size) (blk_lt' H_E_3.out)).trans H_E_3.out
          clear k_E_3_0 k_E_3_1 f_E_3 H_E_3
          obtain ⟨k_E_4_0, k_E_4_1, f_E_4, l_E_4⟩ := bk2 H_E_4
          replace H_E_4 := Lib.hid H_E_4
          have hB4 : Below w.heap.size w w4 := below_via hb4 (by assumption) (by go_size)
          replace H_E_4 := H_E_4.out
          refine chk (fun W => Below w.heap.size w W ∧ W.heap[w.heap.size]? = some (.cells #[.int .i64 a, .int .i64 b] 26 (0, 0)) ∧ Below wr.heap.size wr W) (by refine ⟨?_, ?_, ?_⟩ <;> (repeat' first | (with_reducible first | assumption | (apply Ne.symm; assumption) | apply Nat.le_refl | apply Nat.le_add_right | apply zL | apply zRf | apply Wx.box | apply Wx.box4 | apply zWa | apply Wx.drew | apply zWn | apply bx_drew | apply bx_drewN | apply bx_set3 | apply bx_set2 | apply bx_set4 | apply bx_set1) | ((with_reducible apply bx_new); (focus (go_size; done))) | (with_reducible first | apply zOl | apply zFa | apply zDn | apply zDr | apply zAl | apply zSt | refine zVi (by assumption) ?_ ?_) | go_size | omega)) ?_
          clear k_E_4_0 k_E_4_1 f_E_4 H_E_4
          clear hB4
          rintro w5 ⟨hB5, H_E_5, hbr⟩
          obtain ⟨k_E_5_0, k_E_5_1, f_E_5, l_E_5⟩ := bk2 H_E_5
          replace H_E_5 := Lib.hid H_E_5
          have hs5 := hbr.size
          have HO4 := Lib.hid (HO.out.below hbr)
          have q1 := H_E_5.out
          have hb25 := hb2w.trans (hbr.mono hb2w.size)
          have hs25 := hb25.size
          go_wp2_with (first | (at_builtin; refine wpList_append_own_at _ rfl _ _ 33 rfl w2.heap.size 3 i0 (.int .i64 0) 1 8 Tryz.underlying33 hi iz0 iz1 iz2 rfl (by decide) v out.length _ rfl (HO4.out.alloc _) ⟨w5.heap.size, 0, none⟩ 1 1 [_] rfl rfl (cell_one_new _ _ _) (by simp [Value.oneCell']) (by unfold maxLen; omega) (by omega) (by simp; omega) ?_; intro v1 w6 hv1 hg1 _ hat))
          go_roundw
          case rel =>
            refine ⟨k + 1, out ++ [x], v1, by go_num, rfl, by omega, by simp; omega, HRS.out, ?_, ?_, ?_, ?_⟩
            · unfold OwnI
              rw [ints_append, ints_one, List.length_append]
              exact hv1
            · have h5 : (w5.alloc (.cells #[.int .i64 x] 3 (0, 0))).heap[w.heap.size]? = some (.cells #[.int .i64 a, .int .i64 b] 26 (0, 0)) := bx_old q1 _
              exact (hg1.block _ (blk_lt' h5) (row_type4 HO4.out q1 (by decide))).trans h5
            · exact (hB5.alloc (by have := hB5.size; omega) _).grown hg1 (by simp; have := hB5.size; omega) (fun j h => by have := (HO4.out.lt _ h).1; omega)
            · exact (hb25.alloc (by have := hb25.size; omega) _).grown hg1 (by simp; have := hb25.size; omega) (fun j h => (HO4.out.lt _ h).1)
          case measure => simp [intOf]; omega
        · rw [if_neg hs0] at hres
          have hz9 : (s1 == 0) = false := by simpa using hs0
          have HRS := Lib.hid hres
          clear hres hs0
          go_upto_region 10 with (first | (have _t := tok4; go_at_call 22; (with_reducible refine ((TS _).out).mono ?_); rintro e w4 ⟨rfl, hb4⟩; clear tok4 _t; have hz4 := hb4.size; (try simp only [World.size_alloc, World.size_setCell, World.size_drew, World.size_drewN'] at hz4)))
          have H_E_4 := (hb4.block (w.heap.size) (blk_lt' H_E_3.out)).trans H_E_3.out
          clear k_E_3_0 k_E_3_1 f_E_3 H_E_3
          obtain ⟨k_E_4_0, k_E_4_1, f_E_4, l_E_4⟩ := bk2 H_E_4
          replace H_E_4 := Lib.hid H_E_4
          have hB4 : Below w.heap.size w w4 := below_via hb4 (by assumption) (by go_size)
          have q1 := H_E_4.out
          have hb24 := hb2w.trans (hb4.mono hb2w.size)
          go_wp2_with fail
          go_roundw
          case rel => exact ⟨k + 1, out, v, by go_num, rfl, by omega, by omega, HRS.out, HO.out.below hb4, q1, hB4, hb24⟩
          case measure => simp [intOf]; omega
    · obtain rfl : k = L.length := by omega
      rw [List.drop_length] at hres
      unfold seF at hres
      subst hres
      go_wp2_with fail
      go_ret2
      exact ⟨_, w2.heap.size, rfl, HO.out, hw2, hbw⟩
def sdW (a b : Int) (dual : Bool) : List Int × Bool := if tcB a b = true then seV a b dual else ([], false)
theorem sdW_len (a b : Int) (dual : Bool) : (sdW a b dual).1.length ≤ 182400 := by
  unfold sdW; split
  · rename_i h; exact seV_len h
  · simp
theorem sx_keepAll {W W2 : World} {a : Option Addr} {n c : Nat} {zs : List Int} (h : Sx W a n c zs) (hs : W.heap.size ≤ W2.heap.size) (hk : ∀ i, i < W.heap.size → W2.heap[i]? = W.heap[i]?) : Sx W2 a n c zs :=
  ⟨h.len, h.cap, h.max, h.nil, fun h0 => by
    obtain ⟨b, off, h1, h2, h3⟩ := h.row h0
    exact ⟨b, off, h1, Nat.lt_of_lt_of_le h2 hs, fun j hj => (World.cell?_of_block (a := ⟨b, off + j, Option.none⟩) (hk b h2)).trans (h3 j hj)⟩⟩
end Go.Proofs.YtpikckgaonppkaaGreat
