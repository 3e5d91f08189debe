/- The divisors of a side; the reason against a quartic: both sides; the walk of the law of ReasonAgainst. -/
import Derived.Test.YtpikckgaonppkaaDs1
import Derived.Test.YtpikckgaonppkaaDu
import Derived.Test.YtpikckgaonppkaaDs3
import Derived.Test.YtpikckgaonppkaaPr9
import Derived.Test.YtpikckgaonppkaaToL
namespace Go.Proofs.Ytpikckgaonppkaa
open Go.RowKit
set_option linter.unusedVariables false
set_option maxHeartbeats 4000000
set_option maxRecDepth 20000
set_option linter.unusedSimpArgs false
def HasRel (w : World) (zs : List Int) (x : Int) (iv : Value) (wr : World) : Prop := ∃ k : Nat, iv = .int .i64 k ∧ k ≤ zs.length ∧ (∀ i, i < k → zs[i]?.getD 0 ≠ x) ∧ Below w.heap.size w wr
theorem has_at {zs : List Int} {k : Nat} (hk : k < zs.length) : zs[k]?.getD 0 ∈ zs := by rw [List.getElem?_eq_getElem hk]; simp
theorem has_none {zs : List Int} {x : Int} (h : ∀ i, i < zs.length → zs[i]?.getD 0 ≠ x) : decide (x ∈ zs) = false := by
  simp only [decide_eq_false_iff_not]
  intro hx
  obtain ⟨i, hi, e⟩ := List.getElem_of_mem hx
  have := h i hi
  rw [List.getElem?_eq_getElem hi] at this
  exact this e
theorem has_snoc {zs : List Int} {x : Int} {k : Nat} (h : ∀ i, i < k → zs[i]?.getD 0 ≠ x) (h2 : zs[k]?.getD 0 ≠ x) : ∀ i, i < k + 1 → zs[i]?.getD 0 ≠ x := fun i hi => by
  by_cases e : i = k
  · subst e; exact h2
  · exact h i (by omega)
theorem l1Has_any (a : Option Addr) (c : Nat) (zs : List Int) (x : Int) (w : World) (h : Sx w a zs.length c zs) : Calls Try.prog 70 #[.slice a zs.length c, .int .i64 x] w fun e w' => e = .returned (.bool (decide (x ∈ zs))) ∧ Below w.heap.size w w' := by
  have hcap := h.cap
  have hmax := h.max
  unfold maxLen at hmax
  go_enter Try.func70, Try.ntmps70
  go_wp2_with fail
  go_loopw [9] (fun iv wr => HasRel w zs x iv wr) (fun iv _ => (zs.length - intOf iv).toNat)
  case atStart => exact ⟨0, rfl, by omega, (by intro i hi; omega), Below.refl _ _⟩
  case round =>
    obtain ⟨k, rfl, hk, hne, hb⟩ := hrel
    by_cases hlt : k < zs.length
    · have hltc : (k : Int) < (zs.length : Int) := by omega
      obtain ⟨b, off, rfl, hbl, hcs⟩ := h.at (by omega)
      have c0 := (hb.cell (p := ⟨b, off + k, none⟩) hbl).trans (hcs k hlt)
      have hm := has_at hlt
      obtain ⟨y, hy⟩ : ∃ y, zs[k]?.getD 0 = y := ⟨_, rfl⟩
      rw [hy] at c0 hm
      by_cases hxy : y = x
      · subst hxy
        have hd : decide (y ∈ zs) = true := by simpa using hm
        have hyy : (y == y) = true := by simp
        clear hy hcs hne hm
        go_wp2_with fail
        go_ret
        exact ⟨ret_bool (by rw [hd]), hb⟩
      · have hyy : (y == x) = false := by simpa using hxy
        have HN := Lib.hid (has_snoc hne (by rw [hy]; exact hxy))
        clear hy hcs hne hm hxy
        go_wp2_with fail
        go_roundw
        case rel => exact ⟨k + 1, by go_num, by omega, HN.out, hb⟩
        case measure => simp [intOf]; omega
    · obtain rfl : k = zs.length := by omega
      have hd := has_none hne
      clear hne
      go_wp2_with fail
      go_ret
      exact ⟨ret_bool (by rw [hd]), hb⟩
theorem index_any (a : Option Addr) (c : Nat) (zs : List Int) (x : Int) (w : World) (h : Sx w a zs.length c zs) : Calls Try.prog 73 #[.slice a zs.length c, .int .i64 x] w fun e w' => ∃ k : Int, e = .returned (.int .i64 k) ∧ decide (0 ≤ k) = decide (x ∈ zs) ∧ -1 ≤ k ∧ Below w.heap.size w w' := by
  have hcap := h.cap
  have hmax := h.max
  unfold maxLen at hmax
  go_enter Try.func73, Try.ntmps73
  go_wp2_with fail
  go_loopw [8] (fun iv wr => HasRel w zs x iv wr) (fun iv _ => (zs.length - intOf iv).toNat)
  case atStart => exact ⟨0, rfl, by omega, (by intro i hi; omega), Below.refl _ _⟩
  case round =>
    obtain ⟨k, rfl, hk, hne, hb⟩ := hrel
    by_cases hlt : k < zs.length
    · have hltc : (k : Int) < (zs.length : Int) := by omega
      obtain ⟨b, off, rfl, hbl, hcs⟩ := h.at (by omega)
      have c0 := (hb.cell (p := ⟨b, off + k, none⟩) hbl).trans (hcs k hlt)
      have hm := has_at hlt
      obtain ⟨y, hy⟩ : ∃ y, zs[k]?.getD 0 = y := ⟨_, rfl⟩
      rw [hy] at c0 hm
      by_cases hxy : y = x
      · subst hxy
        have hyy : (y == y) = true := by simp
        have HM := Lib.hid hm
        clear hy hcs hne hm
        go_wp2_with fail
        go_ret
        exact ⟨k, rfl, by simp [HM.out], by omega, hb⟩
      · have hyy : (x == y) = false := by simpa using fun e => hxy e.symm
        have HN := Lib.hid (has_snoc hne (by rw [hy]; exact hxy))
        clear hy hcs hne hm hxy
        go_wp2_with fail
        go_roundw
        case rel => exact ⟨k + 1, by go_num, by omega, HN.out, hb⟩
        case measure => simp [intOf]; omega
    · obtain rfl : k = zs.length := by omega
      have HD := Lib.hid (has_none hne)
      clear hne
      go_wp2_with fail
      go_ret
      exact ⟨-1, rfl, by rw [HD.out]; rfl, by omega, hb⟩
theorem contains_any (a : Option Addr) (c : Nat) (zs : List Int) (x : Int) (w : World) (h : Sx w a zs.length c zs) : Calls Try.prog 48 #[.slice a zs.length c, .int .i64 x] w fun e w' => e = .returned (.bool (decide (x ∈ zs))) ∧ Below w.heap.size w w' := by
  have T1 := Lib.hid (index_any a c zs x w h)
  clear h
  have tok1 : True := trivial
  go_enter Try.func48, Try.ntmps48
  go_wp2_with (first | (have _t := tok1; go_at_call 73; (with_reducible refine (T1.out).mono ?_); rintro e w1 ⟨k, rfl, hk, hk1, hb1⟩; clear tok1 _t; have hz1 := hb1.size; (try simp only [World.size_alloc, World.size_setCell, World.size_drew, World.size_drewN'] at hz1)))
  go_ret
  exact ⟨ret_bool rfl, hb1⟩
/-- the divisors of a side -/
def ddL (a b : Int) (dual : Bool) : List Int := dvR (sdV a b dual).2.natAbs
theorem ddL_bd {a b : Int} {dual : Bool} (h : tcB a b = true) : ∀ d ∈ ddL a b dual, d ≠ 0 ∧ (-91200 ≤ d ∧ d ≤ 91200) := fun d hd => by
  have h1 := sdV_bd (dual := dual) h
  have h2 := dvR_bd (n := (sdV a b dual).2.natAbs) (by omega) d hd
  omega
theorem ddL_len {a b : Int} {dual : Bool} (h : tcB a b = true) : (ddL a b dual).length ≤ 182400 := by
  have h1 := sdV_bd (dual := dual) h
  have h2 := dvB_take_len (n := (sdV a b dual).2.natAbs) (by omega) (prL (sdV a b dual).2.natAbs).length
  rw [List.take_length] at h2
  have e : dvB [-1, 1] (prL ((sdV a b dual).2.natAbs : Int)) = ddL a b dual := rfl
  rw [e] at h2
  omega
theorem qaB_side {a b d : Int} {dual : Bool} (h : tcB a b = true) (hd : d ∈ ddL a b dual) : qaB d (sdV a b dual).1 ((sdV a b dual).2.tdiv d) = true := by
  have h1 := sdV_bd (dual := dual) h
  have h2 := ddL_bd h d hd
  have h3 := tdiv_bd (sdV a b dual).2 d
  have h4 := dvR_bd (n := (sdV a b dual).2.natAbs) (by omega) d hd
  have h5 : 0 < ((sdV a b dual).2.tdiv d).natAbs := by rw [Int.natAbs_tdiv]; exact Nat.div_pos (by omega) (by omega)
  simp [qaB, inB]; omega
theorem descentDivisors_any (a b : Int) (dual : Bool) (w : World) (h : tcB a b = true) : Calls Try.prog 49 #[.agg #[.int .i64 a, .int .i64 b], .bool dual] w fun e w' =>
    ∃ A c, e = .returned (.slice (some A) (ddL a b dual).length c) ∧ Sx w' (some A) (ddL a b dual).length c (ddL a b dual) ∧ Below w.heap.size w w' := by
  have hb := tcB_bd h
  have h1 := sdV_bd (dual := dual) h
  have T1 := fun W : World => Lib.hid (side_any a b dual W hb.1 hb.2.1)
  have T2 := fun W : World => Lib.hid (squarefreeDivisors_any (sdV a b dual).2 W h1.2.1 (by omega))
  unfold ddL
  generalize (sdV a b dual).2 = B at *
  generalize (sdV a b dual).1 = A' at *
  generalize dvR B.natAbs = zs at *
  clear h h1
  have tok1 : True := trivial
  have tok2 : True := trivial
  go_enter Try.func49, Try.ntmps49
  go_wp2_with (first | (have _t := tok1; go_at_call 74; (with_reducible refine ((T1 _).out).mono ?_); rintro e w1 ⟨rfl, hb1⟩; clear tok1 _t; have hz1 := hb1.size; (try simp only [World.size_alloc, World.size_setCell, World.size_drew, World.size_drewN'] at hz1); (try (have kq := cellAt hb1 (w.heap.size) (by go_size); have k1_w_0_0 := kq 0; have k1_w_0_1 := kq 1; clear kq; have f1_w_0 := frozAt hb1 (w.heap.size) (by go_size); simp [go_sem, *] at k1_w_0_0 k1_w_0_1 f1_w_0)); (try have l1_w_0 : w.heap.size < w1.heap.size := by omega)) | (have _t := tok2; go_at_call 75; (with_reducible refine ((T2 _).out).mono ?_); rintro e w2 ⟨A, c, rfl, hx2, hb2⟩; clear tok2 _t; have hz2 := hb2.size; (try simp only [World.size_alloc, World.size_setCell, World.size_drew, World.size_drewN'] at hz2); (try (have kq := cellAt hb2 (w.heap.size) (by go_size); have k2_w_0_0 := kq 0; have k2_w_0_1 := kq 1; clear kq; have f2_w_0 := frozAt hb2 (w.heap.size) (by go_size); simp [go_sem, *] at k2_w_0_0 k2_w_0_1 f2_w_0)); (try have l2_w_0 : w.heap.size < w2.heap.size := by omega); (try clear k1_w_0_0 k1_w_0_1 f1_w_0); (try clear l1_w_0)))
  go_ret
  refine ⟨_, _, rfl, hx2, ?_⟩
  repeat' first | (with_reducible first | apply zRf | assumption | apply zDn | apply zDr | apply zAl | apply zSt | refine zVi (by assumption) ?_ ?_) | go_size
theorem dsDivisors_any (a b : Int) (dual : Bool) (w : World) (h : tcB a b = true) : Calls Try.prog 71 #[.agg #[.int .i64 a, .int .i64 b], .bool dual] w fun e w' =>
    ∃ A c, e = .returned (.slice (some A) (ddL a b dual).length c) ∧ Sx w' (some A) (ddL a b dual).length c (ddL a b dual) ∧ Below w.heap.size w w' := by
  have hb := tcB_bd h
  have h1 := sdV_bd (dual := dual) h
  have T1 := fun W : World => Lib.hid (dsSide_any a b dual W hb.1 hb.2.1)
  have T2 := fun W : World => Lib.hid (tcDivisors_any (sdV a b dual).2 W h1.2.1 (by omega))
  unfold ddL
  generalize (sdV a b dual).2 = B at *
  generalize (sdV a b dual).1 = A' at *
  generalize dvR B.natAbs = zs at *
  clear h h1
  have tok1 : True := trivial
  have tok2 : True := trivial
  go_enter Try.func71, Try.ntmps71
  go_wp2_with (first | (have _t := tok1; go_at_call 93; (with_reducible refine ((T1 _).out).mono ?_); rintro e w1 ⟨rfl, hb1⟩; clear tok1 _t; have hz1 := hb1.size; (try simp only [World.size_alloc, World.size_setCell, World.size_drew, World.size_drewN'] at hz1); (try (have kq := cellAt hb1 (w.heap.size) (by go_size); have k1_w_0_0 := kq 0; have k1_w_0_1 := kq 1; clear kq; have f1_w_0 := frozAt hb1 (w.heap.size) (by go_size); simp [go_sem, *] at k1_w_0_0 k1_w_0_1 f1_w_0)); (try have l1_w_0 : w.heap.size < w1.heap.size := by omega)) | (have _t := tok2; go_at_call 94; (with_reducible refine ((T2 _).out).mono ?_); rintro e w2 ⟨A, c, rfl, hx2, hb2⟩; clear tok2 _t; have hz2 := hb2.size; (try simp only [World.size_alloc, World.size_setCell, World.size_drew, World.size_drewN'] at hz2); (try (have kq := cellAt hb2 (w.heap.size) (by go_size); have k2_w_0_0 := kq 0; have k2_w_0_1 := kq 1; clear kq; have f2_w_0 := frozAt hb2 (w.heap.size) (by go_size); simp [go_sem, *] at k2_w_0_0 k2_w_0_1 f2_w_0)); (try have l2_w_0 : w.heap.size < w2.heap.size := by omega); (try clear k1_w_0_0 k1_w_0_1 f1_w_0); (try clear l1_w_0)))
  go_ret
  refine ⟨_, _, rfl, hx2, ?_⟩
  repeat' first | (with_reducible first | apply zRf | assumption | apply zDn | apply zDr | apply zAl | apply zSt | refine zVi (by assumption) ?_ ?_) | go_size
theorem descentQuartic_any (a b d : Int) (dual : Bool) (w : World) (h : tcB a b = true) (hd : d ∈ ddL a b dual) : Calls Try.prog 76 #[.agg #[.int .i64 a, .int .i64 b], .bool dual, .int .i64 d] w fun e w' =>
    e = .returned (.agg #[.int .i64 d, .int .i64 (sdV a b dual).1, .int .i64 ((sdV a b dual).2.tdiv d)]) ∧ Below w.heap.size w w' := by
  have hb := tcB_bd h
  have h1 := sdV_bd (dual := dual) h
  have h2 := ddL_bd h d hd
  have h3 := tdiv_bd (sdV a b dual).2 d
  have hd0 : d ≠ 0 := h2.1
  have T1 := fun W : World => Lib.hid (side_any a b dual W hb.1 hb.2.1)
  generalize (sdV a b dual).2 = B at *
  generalize (sdV a b dual).1 = A' at *
  clear h hd hb
  have tok1 : True := trivial
  go_enter Try.func76, Try.ntmps76
  go_wp2_with (first | (have _t := tok1; go_at_call 74; (with_reducible refine ((T1 _).out).mono ?_); rintro e w1 ⟨rfl, hb1⟩; clear tok1 _t; have hz1 := hb1.size; (try simp only [World.size_alloc, World.size_setCell, World.size_drew, World.size_drewN'] at hz1); (try (have kq := cellAt hb1 (w.heap.size) (by go_size); have k1_w_0_0 := kq 0; have k1_w_0_1 := kq 1; clear kq; have f1_w_0 := frozAt hb1 (w.heap.size) (by go_size); simp [go_sem, *] at k1_w_0_0 k1_w_0_1 f1_w_0)); (try have l1_w_0 : w.heap.size < w1.heap.size := by omega); (try (have kq := cellAt hb1 (w.heap.size + 1) (by go_size); have k1_w_1_0 := kq 0; have k1_w_1_1 := kq 1; have k1_w_1_2 := kq 2; clear kq; have f1_w_1 := frozAt hb1 (w.heap.size + 1) (by go_size); simp [go_sem, *] at k1_w_1_0 k1_w_1_1 k1_w_1_2 f1_w_1)); (try have l1_w_1 : w.heap.size + 1 < w1.heap.size := by omega)))
  refine bodyPost_ret (v := _) (by simp [results, Try.results76, go_sem, *]) rfl ⟨rfl, ?_⟩
  repeat' first | (with_reducible first | apply zRf | assumption | apply zDn | apply zDr | apply zAl | apply zSt | refine zVi (by assumption) ?_ ?_) | go_size
theorem dsQuartic_any (a b d : Int) (dual : Bool) (w : World) (h : tcB a b = true) (hd : d ∈ ddL a b dual) : Calls Try.prog 72 #[.agg #[.int .i64 a, .int .i64 b], .bool dual, .int .i64 d] w fun e w' =>
    e = .returned (.agg #[.int .i64 d, .int .i64 (sdV a b dual).1, .int .i64 ((sdV a b dual).2.tdiv d)]) ∧ Below w.heap.size w w' := by
  have hb := tcB_bd h
  have h1 := sdV_bd (dual := dual) h
  have h2 := ddL_bd h d hd
  have h3 := tdiv_bd (sdV a b dual).2 d
  have hd0 : d ≠ 0 := h2.1
  have T1 := fun W : World => Lib.hid (dsSide_any a b dual W hb.1 hb.2.1)
  generalize (sdV a b dual).2 = B at *
  generalize (sdV a b dual).1 = A' at *
  clear h hd hb
  have tok1 : True := trivial
  go_enter Try.func72, Try.ntmps72
  go_wp2_with (first | (have _t := tok1; go_at_call 93; (with_reducible refine ((T1 _).out).mono ?_); rintro e w1 ⟨rfl, hb1⟩; clear tok1 _t; have hz1 := hb1.size; (try simp only [World.size_alloc, World.size_setCell, World.size_drew, World.size_drewN'] at hz1); (try (have kq := cellAt hb1 (w.heap.size) (by go_size); have k1_w_0_0 := kq 0; have k1_w_0_1 := kq 1; clear kq; have f1_w_0 := frozAt hb1 (w.heap.size) (by go_size); simp [go_sem, *] at k1_w_0_0 k1_w_0_1 f1_w_0)); (try have l1_w_0 : w.heap.size < w1.heap.size := by omega); (try (have kq := cellAt hb1 (w.heap.size + 1) (by go_size); have k1_w_1_0 := kq 0; have k1_w_1_1 := kq 1; have k1_w_1_2 := kq 2; clear kq; have f1_w_1 := frozAt hb1 (w.heap.size + 1) (by go_size); simp [go_sem, *] at k1_w_1_0 k1_w_1_1 k1_w_1_2 f1_w_1)); (try have l1_w_1 : w.heap.size + 1 < w1.heap.size := by omega)))
  refine bodyPost_ret (v := _) (by simp [results, Try.results72, go_sem, *]) rfl ⟨rfl, ?_⟩
  repeat' first | (with_reducible first | apply zRf | assumption | apply zDn | apply zDr | apply zAl | apply zSt | refine zVi (by assumption) ?_ ?_) | go_size
/-- the reason against a quartic -/
def rsV (D A C : Int) : Int × Bool := if (flV D A C).2 = false then (0, false) else if rlB D A C = false then (-1, true) else ((flV D A C).1.headD 0, true)
def rdV (a b : Int) (dual : Bool) (d : Int) : Int × Bool := rsV d (sdV a b dual).1 ((sdV a b dual).2.tdiv d)
theorem reasonAgainst_any (a b d : Int) (dual : Bool) (w : World) (h : tcB a b = true) (hd : d ∈ ddL a b dual) : Calls Try.prog 50 #[.agg #[.int .i64 a, .int .i64 b], .bool dual, .int .i64 d] w fun e w' =>
    e = .returned (.tuple #[.int .i64 (rdV a b dual d).1, .bool (rdV a b dual d).2]) ∧ Below w.heap.size w w' := by
  have hq := qaB_side h hd
  have T1 := fun W : World => Lib.hid (descentQuartic_any a b d dual W h hd)
  have hnot : ∀ (x : Bool) (w : World), (Op.unary .not (.bool x)).run Try.prog w = .ok (.bool (!x)) w := fun _ _ => rfl
  unfold rdV
  generalize (sdV a b dual).2.tdiv d = C at *
  generalize (sdV a b dual).1 = A at *
  have T2 := fun W : World => Lib.hid (failing_any d A C W hq)
  have T3 := fun W : World => Lib.hid (isReal_any d A C W hq)
  clear h hd hq
  unfold NewJ at T2
  unfold rsV
  obtain ⟨⟨zs, ok⟩, hv⟩ : ∃ v, flV d A C = v := ⟨_, rfl⟩
  rw [hv] at T2 ⊢
  clear hv
  generalize rlB d A C = rl at *
  dsimp only at T2 ⊢
  cases zs with
  | nil =>
    have hl0 : ([] : List Int).length = 0 := rfl
    cases ok <;> cases rl
    all_goals
      have tok1 : True := trivial
      have tok2 : True := trivial
      have tok3 : True := trivial
      go_enter Try.func50, Try.ntmps50
      go_upto_region 2 with (first | (have _t := tok1; go_at_call 76; (with_reducible refine ((T1 _).out).mono ?_); rintro e w1 ⟨rfl, hb1⟩; clear tok1 _t; have hz1 := hb1.size; (try simp only [World.size_alloc, World.size_setCell, World.size_drew, World.size_drewN'] at hz1)) | (have _t := tok2; go_at_call 42; (with_reducible refine ((T2 _).out).mono ?_); rintro e w2 ⟨u, B, rfl, hu, hBu, hb2⟩; clear tok2 _t; have hz2 := hb2.size; (try simp only [World.size_alloc, World.size_setCell, World.size_drew, World.size_drewN'] at hz2); obtain ⟨a9, c9, rfl, hx, -⟩ := Sx.of_owns hu; clear hu) | (have _t := tok3; go_at_call 44; (with_reducible refine ((T3 _).out).mono ?_); rintro e w3 ⟨rfl, hb3⟩; clear tok3 _t; have hz3 := hb3.size; (try simp only [World.size_alloc, World.size_setCell, World.size_drew, World.size_drewN'] at hz3); (try have c1 := (hb3.cell (p := ⟨g9, o9, none⟩) hgl).trans c0)))
      refine chk (fun W => Below w.heap.size w W ∧ W.heap[w1.heap.size]? = some (.cells #[.int .i64 d, .int .i64 A, .int .i64 C] 26 (0, 0))) (by refine ⟨?_, ?_⟩ <;> (repeat' first | (with_reducible first | assumption | (apply Ne.symm; assumption) | apply Nat.le_refl | apply Nat.le_add_right | apply zL | apply zRf | apply Wx.box | apply Wx.box4 | apply zWa | apply Wx.drew | apply zWn | apply bx_drew | apply bx_drewN | apply bx_set3 | apply bx_set2 | apply bx_set4 | apply bx_set1) | ((with_reducible apply bx_new); (focus (go_size; done))) | (with_reducible first | apply zOl | apply zFa | apply zDn | apply zDr | apply zAl | apply zSt | refine zVi (by assumption) ?_ ?_) | go_size | omega)) ?_
      rintro w9 ⟨hB9, H_Q_9⟩
      obtain ⟨k_Q_9_0, k_Q_9_1, k_Q_9_2, f_Q_9, l_Q_9⟩ := bk3 H_Q_9
      replace H_Q_9 := Lib.hid H_Q_9
      go_upto_region 3 with (first | (have _t := tok1; go_at_call 76; (with_reducible refine ((T1 _).out).mono ?_); rintro e w1 ⟨rfl, hb1⟩; clear tok1 _t; have hz1 := hb1.size; (try simp only [World.size_alloc, World.size_setCell, World.size_drew, World.size_drewN'] at hz1)) | (have _t := tok2; go_at_call 42; (with_reducible refine ((T2 _).out).mono ?_); rintro e w2 ⟨u, B, rfl, hu, hBu, hb2⟩; clear tok2 _t; have hz2 := hb2.size; (try simp only [World.size_alloc, World.size_setCell, World.size_drew, World.size_drewN'] at hz2); obtain ⟨a9, c9, rfl, hx, -⟩ := Sx.of_owns hu; clear hu) | (have _t := tok3; go_at_call 44; (with_reducible refine ((T3 _).out).mono ?_); rintro e w3 ⟨rfl, hb3⟩; clear tok3 _t; have hz3 := hb3.size; (try simp only [World.size_alloc, World.size_setCell, World.size_drew, World.size_drewN'] at hz3); (try have c1 := (hb3.cell (p := ⟨g9, o9, none⟩) hgl).trans c0)))
      have H_Q_2 := (hb2.block (w1.heap.size) (blk_lt' H_Q_9.out)).trans H_Q_9.out
      clear k_Q_9_0 k_Q_9_1 k_Q_9_2 f_Q_9 H_Q_9
      obtain ⟨k_Q_2_0, k_Q_2_1, k_Q_2_2, f_Q_2, l_Q_2⟩ := bk3 H_Q_2
      replace H_Q_2 := Lib.hid H_Q_2
      have hB2 : Below w.heap.size w w2 := below_via hb2 (by assumption) (by go_size)
      go_wp2_with (first | (have _t := tok1; go_at_call 76; (with_reducible refine ((T1 _).out).mono ?_); rintro e w1 ⟨rfl, hb1⟩; clear tok1 _t; have hz1 := hb1.size; (try simp only [World.size_alloc, World.size_setCell, World.size_drew, World.size_drewN'] at hz1)) | (have _t := tok2; go_at_call 42; (with_reducible refine ((T2 _).out).mono ?_); rintro e w2 ⟨u, B, rfl, hu, hBu, hb2⟩; clear tok2 _t; have hz2 := hb2.size; (try simp only [World.size_alloc, World.size_setCell, World.size_drew, World.size_drewN'] at hz2); obtain ⟨a9, c9, rfl, hx, -⟩ := Sx.of_owns hu; clear hu) | (have _t := tok3; go_at_call 44; (with_reducible refine ((T3 _).out).mono ?_); rintro e w3 ⟨rfl, hb3⟩; clear tok3 _t; have hz3 := hb3.size; (try simp only [World.size_alloc, World.size_setCell, World.size_drew, World.size_drewN'] at hz3); (try have c1 := (hb3.cell (p := ⟨g9, o9, none⟩) hgl).trans c0)))
      go_ret2
      refine ⟨rfl, ?_⟩
      first | exact hB2 | exact below_via hb3 hB2 (by go_size)
  | cons z zs =>
    have hzp : decide ((0 : Int) < (((z :: zs).length : Nat) : Int)) = true := by simp <;> omega
    cases ok <;> cases rl
    all_goals
      have tok1 : True := trivial
      have tok2 : True := trivial
      have tok3 : True := trivial
      go_enter Try.func50, Try.ntmps50
      go_upto_region 2 with (first | (have _t := tok1; go_at_call 76; (with_reducible refine ((T1 _).out).mono ?_); rintro e w1 ⟨rfl, hb1⟩; clear tok1 _t; have hz1 := hb1.size; (try simp only [World.size_alloc, World.size_setCell, World.size_drew, World.size_drewN'] at hz1)) | (have _t := tok2; go_at_call 42; (with_reducible refine ((T2 _).out).mono ?_); rintro e w2 ⟨u, B, rfl, hu, hBu, hb2⟩; clear tok2 _t; have hz2 := hb2.size; (try simp only [World.size_alloc, World.size_setCell, World.size_drew, World.size_drewN'] at hz2); obtain ⟨a9, c9, rfl, hx, -⟩ := Sx.of_owns hu; clear hu) | (have _t := tok3; go_at_call 44; (with_reducible refine ((T3 _).out).mono ?_); rintro e w3 ⟨rfl, hb3⟩; clear tok3 _t; have hz3 := hb3.size; (try simp only [World.size_alloc, World.size_setCell, World.size_drew, World.size_drewN'] at hz3); (try have c1 := (hb3.cell (p := ⟨g9, o9, none⟩) hgl).trans c0)))
      refine chk (fun W => Below w.heap.size w W ∧ W.heap[w1.heap.size]? = some (.cells #[.int .i64 d, .int .i64 A, .int .i64 C] 26 (0, 0))) (by refine ⟨?_, ?_⟩ <;> (repeat' first | (with_reducible first | assumption | (apply Ne.symm; assumption) | apply Nat.le_refl | apply Nat.le_add_right | apply zL | apply zRf | apply Wx.box | apply Wx.box4 | apply zWa | apply Wx.drew | apply zWn | apply bx_drew | apply bx_drewN | apply bx_set3 | apply bx_set2 | apply bx_set4 | apply bx_set1) | ((with_reducible apply bx_new); (focus (go_size; done))) | (with_reducible first | apply zOl | apply zFa | apply zDn | apply zDr | apply zAl | apply zSt | refine zVi (by assumption) ?_ ?_) | go_size | omega)) ?_
      rintro w9 ⟨hB9, H_Q_9⟩
      obtain ⟨k_Q_9_0, k_Q_9_1, k_Q_9_2, f_Q_9, l_Q_9⟩ := bk3 H_Q_9
      replace H_Q_9 := Lib.hid H_Q_9
      go_upto_region 3 with (first | (have _t := tok1; go_at_call 76; (with_reducible refine ((T1 _).out).mono ?_); rintro e w1 ⟨rfl, hb1⟩; clear tok1 _t; have hz1 := hb1.size; (try simp only [World.size_alloc, World.size_setCell, World.size_drew, World.size_drewN'] at hz1)) | (have _t := tok2; go_at_call 42; (with_reducible refine ((T2 _).out).mono ?_); rintro e w2 ⟨u, B, rfl, hu, hBu, hb2⟩; clear tok2 _t; have hz2 := hb2.size; (try simp only [World.size_alloc, World.size_setCell, World.size_drew, World.size_drewN'] at hz2); obtain ⟨a9, c9, rfl, hx, -⟩ := Sx.of_owns hu; clear hu) | (have _t := tok3; go_at_call 44; (with_reducible refine ((T3 _).out).mono ?_); rintro e w3 ⟨rfl, hb3⟩; clear tok3 _t; have hz3 := hb3.size; (try simp only [World.size_alloc, World.size_setCell, World.size_drew, World.size_drewN'] at hz3); (try have c1 := (hb3.cell (p := ⟨g9, o9, none⟩) hgl).trans c0)))
      have H_Q_2 := (hb2.block (w1.heap.size) (blk_lt' H_Q_9.out)).trans H_Q_9.out
      clear k_Q_9_0 k_Q_9_1 k_Q_9_2 f_Q_9 H_Q_9
      obtain ⟨k_Q_2_0, k_Q_2_1, k_Q_2_2, f_Q_2, l_Q_2⟩ := bk3 H_Q_2
      replace H_Q_2 := Lib.hid H_Q_2
      have hB2 : Below w.heap.size w w2 := below_via hb2 (by assumption) (by go_size)
      obtain ⟨g9, o9, rfl, hgl, hcs⟩ := hx.at (by simp)
      have c0 := hcs 0 (by simp)
      rw [Nat.add_zero] at c0
      clear hcs hx
      go_wp2_with (first | (have _t := tok1; go_at_call 76; (with_reducible refine ((T1 _).out).mono ?_); rintro e w1 ⟨rfl, hb1⟩; clear tok1 _t; have hz1 := hb1.size; (try simp only [World.size_alloc, World.size_setCell, World.size_drew, World.size_drewN'] at hz1)) | (have _t := tok2; go_at_call 42; (with_reducible refine ((T2 _).out).mono ?_); rintro e w2 ⟨u, B, rfl, hu, hBu, hb2⟩; clear tok2 _t; have hz2 := hb2.size; (try simp only [World.size_alloc, World.size_setCell, World.size_drew, World.size_drewN'] at hz2); obtain ⟨a9, c9, rfl, hx, -⟩ := Sx.of_owns hu; clear hu) | (have _t := tok3; go_at_call 44; (with_reducible refine ((T3 _).out).mono ?_); rintro e w3 ⟨rfl, hb3⟩; clear tok3 _t; have hz3 := hb3.size; (try simp only [World.size_alloc, World.size_setCell, World.size_drew, World.size_drewN'] at hz3); (try have c1 := (hb3.cell (p := ⟨g9, o9, none⟩) hgl).trans c0)))
      go_ret2
      refine ⟨rfl, ?_⟩
      first | exact hB2 | exact below_via hb3 hB2 (by go_size)
theorem dsReason_any (a b d : Int) (dual : Bool) (w : World) (h : tcB a b = true) (hd : d ∈ ddL a b dual) : Calls Try.prog 46 #[.agg #[.int .i64 a, .int .i64 b], .bool dual, .int .i64 d] w fun e w' =>
    e = .returned (.tuple #[.int .i64 (rdV a b dual d).1, .bool (rdV a b dual d).2]) ∧ Below w.heap.size w w' := by
  have hq := qaB_side h hd
  have T1 := fun W : World => Lib.hid (dsQuartic_any a b d dual W h hd)
  have hnot : ∀ (x : Bool) (w : World), (Op.unary .not (.bool x)).run Try.prog w = .ok (.bool (!x)) w := fun _ _ => rfl
  unfold rdV
  generalize (sdV a b dual).2.tdiv d = C at *
  generalize (sdV a b dual).1 = A at *
  have T2 := fun W : World => Lib.hid (loFailing_any d A C W hq)
  have T3 := fun W : World => Lib.hid (loReal_any d A C W hq)
  clear h hd hq
  unfold NewJ at T2
  unfold rsV
  obtain ⟨⟨zs, ok⟩, hv⟩ : ∃ v, flV d A C = v := ⟨_, rfl⟩
  rw [hv] at T2 ⊢
  clear hv
  generalize rlB d A C = rl at *
  dsimp only at T2 ⊢
  cases zs with
  | nil =>
    have hl0 : ([] : List Int).length = 0 := rfl
    cases ok <;> cases rl
    all_goals
      have tok1 : True := trivial
      have tok2 : True := trivial
      have tok3 : True := trivial
      go_enter Try.func46, Try.ntmps46
      go_upto_region 2 with (first | (have _t := tok1; go_at_call 72; (with_reducible refine ((T1 _).out).mono ?_); rintro e w1 ⟨rfl, hb1⟩; clear tok1 _t; have hz1 := hb1.size; (try simp only [World.size_alloc, World.size_setCell, World.size_drew, World.size_drewN'] at hz1)) | (have _t := tok2; go_at_call 41; (with_reducible refine ((T2 _).out).mono ?_); rintro e w2 ⟨u, B, rfl, hu, hBu, hb2⟩; clear tok2 _t; have hz2 := hb2.size; (try simp only [World.size_alloc, World.size_setCell, World.size_drew, World.size_drewN'] at hz2); obtain ⟨a9, c9, rfl, hx, -⟩ := Sx.of_owns hu; clear hu) | (have _t := tok3; go_at_call 43; (with_reducible refine ((T3 _).out).mono ?_); rintro e w3 ⟨rfl, hb3⟩; clear tok3 _t; have hz3 := hb3.size; (try simp only [World.size_alloc, World.size_setCell, World.size_drew, World.size_drewN'] at hz3); (try have c1 := (hb3.cell (p := ⟨g9, o9, none⟩) hgl).trans c0)))
      refine chk (fun W => Below w.heap.size w W ∧ W.heap[w1.heap.size]? = some (.cells #[.int .i64 d, .int .i64 A, .int .i64 C] 26 (0, 0))) (by refine ⟨?_, ?_⟩ <;> (repeat' first | (with_reducible first | assumption | (apply Ne.symm; assumption) | apply Nat.le_refl | apply Nat.le_add_right | apply zL | apply zRf | apply Wx.box | apply Wx.box4 | apply zWa | apply Wx.drew | apply zWn | apply bx_drew | apply bx_drewN | apply bx_set3 | apply bx_set2 | apply bx_set4 | apply bx_set1) | ((with_reducible apply bx_new); (focus (go_size; done))) | (with_reducible first | apply zOl | apply zFa | apply zDn | apply zDr | apply zAl | apply zSt | refine zVi (by assumption) ?_ ?_) | go_size | omega)) ?_
      rintro w9 ⟨hB9, H_Q_9⟩
      obtain ⟨k_Q_9_0, k_Q_9_1, k_Q_9_2, f_Q_9, l_Q_9⟩ := bk3 H_Q_9
      replace H_Q_9 := Lib.hid H_Q_9
      go_upto_region 3 with (first | (have _t := tok1; go_at_call 72; (with_reducible refine ((T1 _).out).mono ?_); rintro e w1 ⟨rfl, hb1⟩; clear tok1 _t; have hz1 := hb1.size; (try simp only [World.size_alloc, World.size_setCell, World.size_drew, World.size_drewN'] at hz1)) | (have _t := tok2; go_at_call 41; (with_reducible refine ((T2 _).out).mono ?_); rintro e w2 ⟨u, B, rfl, hu, hBu, hb2⟩; clear tok2 _t; have hz2 := hb2.size; (try simp only [World.size_alloc, World.size_setCell, World.size_drew, World.size_drewN'] at hz2); obtain ⟨a9, c9, rfl, hx, -⟩ := Sx.of_owns hu; clear hu) | (have _t := tok3; go_at_call 43; (with_reducible refine ((T3 _).out).mono ?_); rintro e w3 ⟨rfl, hb3⟩; clear tok3 _t; have hz3 := hb3.size; (try simp only [World.size_alloc, World.size_setCell, World.size_drew, World.size_drewN'] at hz3); (try have c1 := (hb3.cell (p := ⟨g9, o9, none⟩) hgl).trans c0)))
      have H_Q_2 := (hb2.block (w1.heap.size) (blk_lt' H_Q_9.out)).trans H_Q_9.out
      clear k_Q_9_0 k_Q_9_1 k_Q_9_2 f_Q_9 H_Q_9
      obtain ⟨k_Q_2_0, k_Q_2_1, k_Q_2_2, f_Q_2, l_Q_2⟩ := bk3 H_Q_2
      replace H_Q_2 := Lib.hid H_Q_2
      have hB2 : Below w.heap.size w w2 := below_via hb2 (by assumption) (by go_size)
      go_wp2_with (first | (have _t := tok1; go_at_call 72; (with_reducible refine ((T1 _).out).mono ?_); rintro e w1 ⟨rfl, hb1⟩; clear tok1 _t; have hz1 := hb1.size; (try simp only [World.size_alloc, World.size_setCell, World.size_drew, World.size_drewN'] at hz1)) | (have _t := tok2; go_at_call 41; (with_reducible refine ((T2 _).out).mono ?_); rintro e w2 ⟨u, B, rfl, hu, hBu, hb2⟩; clear tok2 _t; have hz2 := hb2.size; (try simp only [World.size_alloc, World.size_setCell, World.size_drew, World.size_drewN'] at hz2); obtain ⟨a9, c9, rfl, hx, -⟩ := Sx.of_owns hu; clear hu) | (have _t := tok3; go_at_call 43; (with_reducible refine ((T3 _).out).mono ?_); rintro e w3 ⟨rfl, hb3⟩; clear tok3 _t; have hz3 := hb3.size; (try simp only [World.size_alloc, World.size_setCell, World.size_drew, World.size_drewN'] at hz3); (try have c1 := (hb3.cell (p := ⟨g9, o9, none⟩) hgl).trans c0)))
      go_ret2
      refine ⟨rfl, ?_⟩
      first | exact hB2 | exact below_via hb3 hB2 (by go_size)
  | cons z zs =>
    have hzp : decide ((0 : Int) < (((z :: zs).length : Nat) : Int)) = true := by simp <;> omega
    cases ok <;> cases rl
    all_goals
      have tok1 : True := trivial
      have tok2 : True := trivial
      have tok3 : True := trivial
      go_enter Try.func46, Try.ntmps46
      go_upto_region 2 with (first | (have _t := tok1; go_at_call 72; (with_reducible refine ((T1 _).out).mono ?_); rintro e w1 ⟨rfl, hb1⟩; clear tok1 _t; have hz1 := hb1.size; (try simp only [World.size_alloc, World.size_setCell, World.size_drew, World.size_drewN'] at hz1)) | (have _t := tok2; go_at_call 41; (with_reducible refine ((T2 _).out).mono ?_); rintro e w2 ⟨u, B, rfl, hu, hBu, hb2⟩; clear tok2 _t; have hz2 := hb2.size; (try simp only [World.size_alloc, World.size_setCell, World.size_drew, World.size_drewN'] at hz2); obtain ⟨a9, c9, rfl, hx, -⟩ := Sx.of_owns hu; clear hu) | (have _t := tok3; go_at_call 43; (with_reducible refine ((T3 _).out).mono ?_); rintro e w3 ⟨rfl, hb3⟩; clear tok3 _t; have hz3 := hb3.size; (try simp only [World.size_alloc, World.size_setCell, World.size_drew, World.size_drewN'] at hz3); (try have c1 := (hb3.cell (p := ⟨g9, o9, none⟩) hgl).trans c0)))
      refine chk (fun W => Below w.heap.size w W ∧ W.heap[w1.heap.size]? = some (.cells #[.int .i64 d, .int .i64 A, .int .i64 C] 26 (0, 0))) (by refine ⟨?_, ?_⟩ <;> (repeat' first | (with_reducible first | assumption | (apply Ne.symm; assumption) | apply Nat.le_refl | apply Nat.le_add_right | apply zL | apply zRf | apply Wx.box | apply Wx.box4 | apply zWa | apply Wx.drew | apply zWn | apply bx_drew | apply bx_drewN | apply bx_set3 | apply bx_set2 | apply bx_set4 | apply bx_set1) | ((with_reducible apply bx_new); (focus (go_size; done))) | (with_reducible first | apply zOl | apply zFa | apply zDn | apply zDr | apply zAl | apply zSt | refine zVi (by assumption) ?_ ?_) | go_size | omega)) ?_
      rintro w9 ⟨hB9, H_Q_9⟩
      obtain ⟨k_Q_9_0, k_Q_9_1, k_Q_9_2, f_Q_9, l_Q_9⟩ := bk3 H_Q_9
      replace H_Q_9 := Lib.hid H_Q_9
      go_upto_region 3 with (first | (have _t := tok1; go_at_call 72; (with_reducible refine ((T1 _).out).mono ?_); rintro e w1 ⟨rfl, hb1⟩; clear tok1 _t; have hz1 := hb1.size; (try simp only [World.size_alloc, World.size_setCell, World.size_drew, World.size_drewN'] at hz1)) | (have _t := tok2; go_at_call 41; (with_reducible refine ((T2 _).out).mono ?_); rintro e w2 ⟨u, B, rfl, hu, hBu, hb2⟩; clear tok2 _t; have hz2 := hb2.size; (try simp only [World.size_alloc, World.size_setCell, World.size_drew, World.size_drewN'] at hz2); obtain ⟨a9, c9, rfl, hx, -⟩ := Sx.of_owns hu; clear hu) | (have _t := tok3; go_at_call 43; (with_reducible refine ((T3 _).out).mono ?_); rintro e w3 ⟨rfl, hb3⟩; clear tok3 _t; have hz3 := hb3.size; (try simp only [World.size_alloc, World.size_setCell, World.size_drew, World.size_drewN'] at hz3); (try have c1 := (hb3.cell (p := ⟨g9, o9, none⟩) hgl).trans c0)))
      have H_Q_2 := (hb2.block (w1.heap.size) (blk_lt' H_Q_9.out)).trans H_Q_9.out
      clear k_Q_9_0 k_Q_9_1 k_Q_9_2 f_Q_9 H_Q_9
      obtain ⟨k_Q_2_0, k_Q_2_1, k_Q_2_2, f_Q_2, l_Q_2⟩ := bk3 H_Q_2
      replace H_Q_2 := Lib.hid H_Q_2
      have hB2 : Below w.heap.size w w2 := below_via hb2 (by assumption) (by go_size)
      obtain ⟨g9, o9, rfl, hgl, hcs⟩ := hx.at (by simp)
      have c0 := hcs 0 (by simp)
      rw [Nat.add_zero] at c0
      clear hcs hx
      go_wp2_with (first | (have _t := tok1; go_at_call 72; (with_reducible refine ((T1 _).out).mono ?_); rintro e w1 ⟨rfl, hb1⟩; clear tok1 _t; have hz1 := hb1.size; (try simp only [World.size_alloc, World.size_setCell, World.size_drew, World.size_drewN'] at hz1)) | (have _t := tok2; go_at_call 41; (with_reducible refine ((T2 _).out).mono ?_); rintro e w2 ⟨u, B, rfl, hu, hBu, hb2⟩; clear tok2 _t; have hz2 := hb2.size; (try simp only [World.size_alloc, World.size_setCell, World.size_drew, World.size_drewN'] at hz2); obtain ⟨a9, c9, rfl, hx, -⟩ := Sx.of_owns hu; clear hu) | (have _t := tok3; go_at_call 43; (with_reducible refine ((T3 _).out).mono ?_); rintro e w3 ⟨rfl, hb3⟩; clear tok3 _t; have hz3 := hb3.size; (try simp only [World.size_alloc, World.size_setCell, World.size_drew, World.size_drewN'] at hz3); (try have c1 := (hb3.cell (p := ⟨g9, o9, none⟩) hgl).trans c0)))
      go_ret2
      refine ⟨rfl, ?_⟩
      first | exact hB2 | exact below_via hb3 hB2 (by go_size)
def asB (a b : Int) (dual : Bool) (d : Int) : Bool := tcB a b && decide (d ∈ ddL a b dual)
def raV (a b : Int) (dual : Bool) (d : Int) : Int × Bool := if asB a b dual d = true then rdV a b dual d else (0, false)
theorem asB_mem {a b d : Int} {dual : Bool} (h : asB a b dual d = true) : tcB a b = true ∧ d ∈ ddL a b dual := by
  simpa [asB] using h
theorem ReasonAgainst_any (a b : Int) (dual : Bool) (d : Int) (w : World) : Calls Try.prog 25 #[.agg #[.int .i64 a, .int .i64 b], .bool dual, .int .i64 d] w fun r w' =>
    r = .returned (.tuple #[.int .i64 (raV a b dual d).1, .bool (raV a b dual d).2]) ∧ Below w.heap.size w w' := by
  have T1 := fun W : World => Lib.hid (isTwoCurve_any a b W)
  have hnot : ∀ (x : Bool) (w : World), (Op.unary .not (.bool x)).run Try.prog w = .ok (.bool (!x)) w := fun _ _ => rfl
  unfold raV
  cases h1 : tcB a b
  · rw [h1] at T1
    have ha : asB a b dual d = false := by simp [asB, h1]
    rw [ha]
    have T2 := T1; have T4 := T1
    clear h1 ha
    simp only [Bool.false_eq_true, if_false]
    have tok1 : True := trivial
    have tok2 : True := trivial
    have tok3 : True := trivial
    have tok4 : True := trivial
    go_enter Try.func25, Try.ntmps25
    go_wp2_with (first | (have _t := tok1; go_at_call 47; (with_reducible refine ((T1 _).out).mono ?_); rintro e w1 ⟨rfl, hb1⟩; clear tok1 _t; have hz1 := hb1.size; (try simp only [World.size_alloc, World.size_setCell, World.size_drew, World.size_drewN'] at hz1); (try (have kq := cellAt hb1 (w.heap.size) (by go_size); have k1_w_0_0 := kq 0; have k1_w_0_1 := kq 1; clear kq; have f1_w_0 := frozAt hb1 (w.heap.size) (by go_size); simp [go_sem, *] at k1_w_0_0 k1_w_0_1 f1_w_0)); (try have l1_w_0 : w.heap.size < w1.heap.size := by omega)) | (have _t := tok2; go_at_call 49; (with_reducible refine ((T2 _).out).mono ?_); rintro e w2 ⟨A, c, rfl, hx2, hb2⟩; clear tok2 _t; have hz2 := hb2.size; (try simp only [World.size_alloc, World.size_setCell, World.size_drew, World.size_drewN'] at hz2); (try (have kq := cellAt hb2 (w.heap.size) (by go_size); have k2_w_0_0 := kq 0; have k2_w_0_1 := kq 1; clear kq; have f2_w_0 := frozAt hb2 (w.heap.size) (by go_size); simp [go_sem, *] at k2_w_0_0 k2_w_0_1 f2_w_0)); (try have l2_w_0 : w.heap.size < w2.heap.size := by omega); (try clear k1_w_0_0 k1_w_0_1 f1_w_0); (try clear l1_w_0)) | (have _t := tok3; go_at_call 48; refine (contains_any _ c _ _ _ hx2).mono ?_; rintro e w3 ⟨rfl, hb3⟩; clear tok3 _t; have hz3 := hb3.size; (try simp only [World.size_alloc, World.size_setCell, World.size_drew, World.size_drewN'] at hz3); (try (have kq := cellAt hb3 (w.heap.size) (by go_size); have k3_w_0_0 := kq 0; have k3_w_0_1 := kq 1; clear kq; have f3_w_0 := frozAt hb3 (w.heap.size) (by go_size); simp [go_sem, *] at k3_w_0_0 k3_w_0_1 f3_w_0)); (try have l3_w_0 : w.heap.size < w3.heap.size := by omega); (try clear k1_w_0_0 k1_w_0_1 f1_w_0); (try clear l1_w_0); (try clear k2_w_0_0 k2_w_0_1 f2_w_0); (try clear l2_w_0)) | (have _t := tok4; go_at_call 50; (with_reducible refine ((T4 _).out).mono ?_); rintro e w4 ⟨rfl, hb4⟩; clear tok4 _t; have hz4 := hb4.size; (try simp only [World.size_alloc, World.size_setCell, World.size_drew, World.size_drewN'] at hz4); (try (have kq := cellAt hb4 (w.heap.size) (by go_size); have k4_w_0_0 := kq 0; have k4_w_0_1 := kq 1; clear kq; have f4_w_0 := frozAt hb4 (w.heap.size) (by go_size); simp [go_sem, *] at k4_w_0_0 k4_w_0_1 f4_w_0)); (try have l4_w_0 : w.heap.size < w4.heap.size := by omega); (try clear k1_w_0_0 k1_w_0_1 f1_w_0); (try clear l1_w_0); (try clear k2_w_0_0 k2_w_0_1 f2_w_0); (try clear l2_w_0); (try clear k3_w_0_0 k3_w_0_1 f3_w_0); (try clear l3_w_0)))
    go_ret2
    refine ⟨rfl, ?_⟩
    repeat' first | (with_reducible first | apply zRf | assumption | apply zDn | apply zDr | apply zAl | apply zSt | refine zVi (by assumption) ?_ ?_) | go_size
  · have T2 := fun W : World => Lib.hid (descentDivisors_any a b dual W h1)
    rw [h1] at T1
    by_cases h2 : d ∈ ddL a b dual
    · have T4 := fun W : World => Lib.hid (reasonAgainst_any a b d dual W h1 h2)
      have ha : asB a b dual d = true := by simp [asB, h1, h2]
      have hd : decide (d ∈ ddL a b dual) = true := by simpa using h2
      rw [ha]
      simp only [if_true]
      generalize rdV a b dual d = rv at *
      clear h1 ha h2
      generalize ddL a b dual = zs at *
      have tok1 : True := trivial
      have tok2 : True := trivial
      have tok3 : True := trivial
      have tok4 : True := trivial
      go_enter Try.func25, Try.ntmps25
      go_wp2_with (first | (have _t := tok1; go_at_call 47; (with_reducible refine ((T1 _).out).mono ?_); rintro e w1 ⟨rfl, hb1⟩; clear tok1 _t; have hz1 := hb1.size; (try simp only [World.size_alloc, World.size_setCell, World.size_drew, World.size_drewN'] at hz1); (try (have kq := cellAt hb1 (w.heap.size) (by go_size); have k1_w_0_0 := kq 0; have k1_w_0_1 := kq 1; clear kq; have f1_w_0 := frozAt hb1 (w.heap.size) (by go_size); simp [go_sem, *] at k1_w_0_0 k1_w_0_1 f1_w_0)); (try have l1_w_0 : w.heap.size < w1.heap.size := by omega)) | (have _t := tok2; go_at_call 49; (with_reducible refine ((T2 _).out).mono ?_); rintro e w2 ⟨A, c, rfl, hx2, hb2⟩; clear tok2 _t; have hz2 := hb2.size; (try simp only [World.size_alloc, World.size_setCell, World.size_drew, World.size_drewN'] at hz2); (try (have kq := cellAt hb2 (w.heap.size) (by go_size); have k2_w_0_0 := kq 0; have k2_w_0_1 := kq 1; clear kq; have f2_w_0 := frozAt hb2 (w.heap.size) (by go_size); simp [go_sem, *] at k2_w_0_0 k2_w_0_1 f2_w_0)); (try have l2_w_0 : w.heap.size < w2.heap.size := by omega); (try clear k1_w_0_0 k1_w_0_1 f1_w_0); (try clear l1_w_0)) | (have _t := tok3; go_at_call 48; refine (contains_any _ c _ _ _ hx2).mono ?_; rintro e w3 ⟨rfl, hb3⟩; clear tok3 _t; have hz3 := hb3.size; (try simp only [World.size_alloc, World.size_setCell, World.size_drew, World.size_drewN'] at hz3); (try (have kq := cellAt hb3 (w.heap.size) (by go_size); have k3_w_0_0 := kq 0; have k3_w_0_1 := kq 1; clear kq; have f3_w_0 := frozAt hb3 (w.heap.size) (by go_size); simp [go_sem, *] at k3_w_0_0 k3_w_0_1 f3_w_0)); (try have l3_w_0 : w.heap.size < w3.heap.size := by omega); (try clear k1_w_0_0 k1_w_0_1 f1_w_0); (try clear l1_w_0); (try clear k2_w_0_0 k2_w_0_1 f2_w_0); (try clear l2_w_0)) | (have _t := tok4; go_at_call 50; (with_reducible refine ((T4 _).out).mono ?_); rintro e w4 ⟨rfl, hb4⟩; clear tok4 _t; have hz4 := hb4.size; (try simp only [World.size_alloc, World.size_setCell, World.size_drew, World.size_drewN'] at hz4); (try (have kq := cellAt hb4 (w.heap.size) (by go_size); have k4_w_0_0 := kq 0; have k4_w_0_1 := kq 1; clear kq; have f4_w_0 := frozAt hb4 (w.heap.size) (by go_size); simp [go_sem, *] at k4_w_0_0 k4_w_0_1 f4_w_0)); (try have l4_w_0 : w.heap.size < w4.heap.size := by omega); (try clear k1_w_0_0 k1_w_0_1 f1_w_0); (try clear l1_w_0); (try clear k2_w_0_0 k2_w_0_1 f2_w_0); (try clear l2_w_0); (try clear k3_w_0_0 k3_w_0_1 f3_w_0); (try clear l3_w_0)))
      go_ret2
      refine ⟨rfl, ?_⟩
      repeat' first | (with_reducible first | apply zRf | assumption | apply zDn | apply zDr | apply zAl | apply zSt | refine zVi (by assumption) ?_ ?_) | go_size
    · have T4 := T1
      have ha : asB a b dual d = false := by simp [asB, h2]
      have hd : decide (d ∈ ddL a b dual) = false := by simpa using h2
      rw [ha]
      simp only [Bool.false_eq_true, if_false]
      clear h1 ha h2
      generalize ddL a b dual = zs at *
      have tok1 : True := trivial
      have tok2 : True := trivial
      have tok3 : True := trivial
      have tok4 : True := trivial
      go_enter Try.func25, Try.ntmps25
      go_wp2_with (first | (have _t := tok1; go_at_call 47; (with_reducible refine ((T1 _).out).mono ?_); rintro e w1 ⟨rfl, hb1⟩; clear tok1 _t; have hz1 := hb1.size; (try simp only [World.size_alloc, World.size_setCell, World.size_drew, World.size_drewN'] at hz1); (try (have kq := cellAt hb1 (w.heap.size) (by go_size); have k1_w_0_0 := kq 0; have k1_w_0_1 := kq 1; clear kq; have f1_w_0 := frozAt hb1 (w.heap.size) (by go_size); simp [go_sem, *] at k1_w_0_0 k1_w_0_1 f1_w_0)); (try have l1_w_0 : w.heap.size < w1.heap.size := by omega)) | (have _t := tok2; go_at_call 49; (with_reducible refine ((T2 _).out).mono ?_); rintro e w2 ⟨A, c, rfl, hx2, hb2⟩; clear tok2 _t; have hz2 := hb2.size; (try simp only [World.size_alloc, World.size_setCell, World.size_drew, World.size_drewN'] at hz2); (try (have kq := cellAt hb2 (w.heap.size) (by go_size); have k2_w_0_0 := kq 0; have k2_w_0_1 := kq 1; clear kq; have f2_w_0 := frozAt hb2 (w.heap.size) (by go_size); simp [go_sem, *] at k2_w_0_0 k2_w_0_1 f2_w_0)); (try have l2_w_0 : w.heap.size < w2.heap.size := by omega); (try clear k1_w_0_0 k1_w_0_1 f1_w_0); (try clear l1_w_0)) | (have _t := tok3; go_at_call 48; refine (contains_any _ c _ _ _ hx2).mono ?_; rintro e w3 ⟨rfl, hb3⟩; clear tok3 _t; have hz3 := hb3.size; (try simp only [World.size_alloc, World.size_setCell, World.size_drew, World.size_drewN'] at hz3); (try (have kq := cellAt hb3 (w.heap.size) (by go_size); have k3_w_0_0 := kq 0; have k3_w_0_1 := kq 1; clear kq; have f3_w_0 := frozAt hb3 (w.heap.size) (by go_size); simp [go_sem, *] at k3_w_0_0 k3_w_0_1 f3_w_0)); (try have l3_w_0 : w.heap.size < w3.heap.size := by omega); (try clear k1_w_0_0 k1_w_0_1 f1_w_0); (try clear l1_w_0); (try clear k2_w_0_0 k2_w_0_1 f2_w_0); (try clear l2_w_0)) | (have _t := tok4; go_at_call 50; (with_reducible refine ((T4 _).out).mono ?_); rintro e w4 ⟨rfl, hb4⟩; clear tok4 _t; have hz4 := hb4.size; (try simp only [World.size_alloc, World.size_setCell, World.size_drew, World.size_drewN'] at hz4); (try (have kq := cellAt hb4 (w.heap.size) (by go_size); have k4_w_0_0 := kq 0; have k4_w_0_1 := kq 1; clear kq; have f4_w_0 := frozAt hb4 (w.heap.size) (by go_size); simp [go_sem, *] at k4_w_0_0 k4_w_0_1 f4_w_0)); (try have l4_w_0 : w.heap.size < w4.heap.size := by omega); (try clear k1_w_0_0 k1_w_0_1 f1_w_0); (try clear l1_w_0); (try clear k2_w_0_0 k2_w_0_1 f2_w_0); (try clear l2_w_0); (try clear k3_w_0_0 k3_w_0_1 f3_w_0); (try clear l3_w_0)))
      go_ret2
      refine ⟨rfl, ?_⟩
      repeat' first | (with_reducible first | apply zRf | assumption | apply zDn | apply zDr | apply zAl | apply zSt | refine zVi (by assumption) ?_ ?_) | go_size
theorem dsAsked_any (a b d : Int) (dual : Bool) (w : World) : Calls Try.prog 45 #[.agg #[.int .i64 a, .int .i64 b], .bool dual, .int .i64 d] w fun r w' =>
    r = .returned (.bool (asB a b dual d)) ∧ Below w.heap.size w w' := by
  have T1 := fun W : World => Lib.hid (tcGood_any a b W)
  unfold asB
  cases h1 : tcB a b
  · rw [h1] at T1
    have T2 := T1
    clear h1
    generalize decide (d ∈ ddL a b dual) = hd at *
    have tok1 : True := trivial
    have tok2 : True := trivial
    have tok3 : True := trivial
    have tok4 : True := trivial
    go_enter Try.func45, Try.ntmps45
    go_wp2_with (first | (have _t := tok1; go_at_call 51; (with_reducible refine ((T1 _).out).mono ?_); rintro e w1 ⟨rfl, hb1⟩; clear tok1 _t; have hz1 := hb1.size; (try simp only [World.size_alloc, World.size_setCell, World.size_drew, World.size_drewN'] at hz1); (try (have kq := cellAt hb1 (w.heap.size) (by go_size); have k1_w_0_0 := kq 0; have k1_w_0_1 := kq 1; clear kq; have f1_w_0 := frozAt hb1 (w.heap.size) (by go_size); simp [go_sem, *] at k1_w_0_0 k1_w_0_1 f1_w_0)); (try have l1_w_0 : w.heap.size < w1.heap.size := by omega)) | (have _t := tok2; go_at_call 71; (with_reducible refine ((T2 _).out).mono ?_); rintro e w2 ⟨A, c, rfl, hx2, hb2⟩; clear tok2 _t; have hz2 := hb2.size; (try simp only [World.size_alloc, World.size_setCell, World.size_drew, World.size_drewN'] at hz2); (try (have kq := cellAt hb2 (w.heap.size) (by go_size); have k2_w_0_0 := kq 0; have k2_w_0_1 := kq 1; clear kq; have f2_w_0 := frozAt hb2 (w.heap.size) (by go_size); simp [go_sem, *] at k2_w_0_0 k2_w_0_1 f2_w_0)); (try have l2_w_0 : w.heap.size < w2.heap.size := by omega); (try clear k1_w_0_0 k1_w_0_1 f1_w_0); (try clear l1_w_0)) | (have _t := tok3; go_at_call 70; refine (l1Has_any _ c _ _ _ hx2).mono ?_; rintro e w3 ⟨rfl, hb3⟩; clear tok3 _t; have hz3 := hb3.size; (try simp only [World.size_alloc, World.size_setCell, World.size_drew, World.size_drewN'] at hz3); (try (have kq := cellAt hb3 (w.heap.size) (by go_size); have k3_w_0_0 := kq 0; have k3_w_0_1 := kq 1; clear kq; have f3_w_0 := frozAt hb3 (w.heap.size) (by go_size); simp [go_sem, *] at k3_w_0_0 k3_w_0_1 f3_w_0)); (try have l3_w_0 : w.heap.size < w3.heap.size := by omega); (try clear k1_w_0_0 k1_w_0_1 f1_w_0); (try clear l1_w_0); (try clear k2_w_0_0 k2_w_0_1 f2_w_0); (try clear l2_w_0)))
    go_ret
    refine ⟨rfl, ?_⟩
    repeat' first | (with_reducible first | apply zRf | assumption | apply zDn | apply zDr | apply zAl | apply zSt | refine zVi (by assumption) ?_ ?_) | go_size
  · have T2 := fun W : World => Lib.hid (dsDivisors_any a b dual W h1)
    rw [h1] at T1
    clear h1
    generalize ddL a b dual = zs at *
    rw [Bool.true_and]
    have tok1 : True := trivial
    have tok2 : True := trivial
    have tok3 : True := trivial
    have tok4 : True := trivial
    go_enter Try.func45, Try.ntmps45
    go_wp2_with (first | (have _t := tok1; go_at_call 51; (with_reducible refine ((T1 _).out).mono ?_); rintro e w1 ⟨rfl, hb1⟩; clear tok1 _t; have hz1 := hb1.size; (try simp only [World.size_alloc, World.size_setCell, World.size_drew, World.size_drewN'] at hz1); (try (have kq := cellAt hb1 (w.heap.size) (by go_size); have k1_w_0_0 := kq 0; have k1_w_0_1 := kq 1; clear kq; have f1_w_0 := frozAt hb1 (w.heap.size) (by go_size); simp [go_sem, *] at k1_w_0_0 k1_w_0_1 f1_w_0)); (try have l1_w_0 : w.heap.size < w1.heap.size := by omega)) | (have _t := tok2; go_at_call 71; (with_reducible refine ((T2 _).out).mono ?_); rintro e w2 ⟨A, c, rfl, hx2, hb2⟩; clear tok2 _t; have hz2 := hb2.size; (try simp only [World.size_alloc, World.size_setCell, World.size_drew, World.size_drewN'] at hz2); (try (have kq := cellAt hb2 (w.heap.size) (by go_size); have k2_w_0_0 := kq 0; have k2_w_0_1 := kq 1; clear kq; have f2_w_0 := frozAt hb2 (w.heap.size) (by go_size); simp [go_sem, *] at k2_w_0_0 k2_w_0_1 f2_w_0)); (try have l2_w_0 : w.heap.size < w2.heap.size := by omega); (try clear k1_w_0_0 k1_w_0_1 f1_w_0); (try clear l1_w_0)) | (have _t := tok3; go_at_call 70; refine (l1Has_any _ c _ _ _ hx2).mono ?_; rintro e w3 ⟨rfl, hb3⟩; clear tok3 _t; have hz3 := hb3.size; (try simp only [World.size_alloc, World.size_setCell, World.size_drew, World.size_drewN'] at hz3); (try (have kq := cellAt hb3 (w.heap.size) (by go_size); have k3_w_0_0 := kq 0; have k3_w_0_1 := kq 1; clear kq; have f3_w_0 := frozAt hb3 (w.heap.size) (by go_size); simp [go_sem, *] at k3_w_0_0 k3_w_0_1 f3_w_0)); (try have l3_w_0 : w.heap.size < w3.heap.size := by omega); (try clear k1_w_0_0 k1_w_0_1 f1_w_0); (try clear l1_w_0); (try clear k2_w_0_0 k2_w_0_1 f2_w_0); (try clear l2_w_0)))
    go_ret
    refine ⟨rfl, ?_⟩
    repeat' first | (with_reducible first | apply zRf | assumption | apply zDn | apply zDr | apply zAl | apply zSt | refine zVi (by assumption) ?_ ?_) | go_size
theorem sReasonAgainst_any (a b : Int) (dual : Bool) (d : Int) (w : World) : Calls Try.prog 23 #[.agg #[.int .i64 a, .int .i64 b], .bool dual, .int .i64 d] w fun r w' =>
    r = .returned (.tuple #[.int .i64 (raV a b dual d).1, .bool (raV a b dual d).2]) ∧ Below w.heap.size w w' := by
  have T1 := fun W : World => Lib.hid (dsAsked_any a b d dual W)
  have hnot : ∀ (x : Bool) (w : World), (Op.unary .not (.bool x)).run Try.prog w = .ok (.bool (!x)) w := fun _ _ => rfl
  unfold raV
  cases h1 : asB a b dual d
  · rw [h1] at T1
    have T2 := T1
    clear h1
    simp only [Bool.false_eq_true, if_false]
    have tok1 : True := trivial
    have tok2 : True := trivial
    go_enter Try.func23, Try.ntmps23
    go_wp2_with (first | (have _t := tok1; go_at_call 45; (with_reducible refine ((T1 _).out).mono ?_); rintro e w1 ⟨rfl, hb1⟩; clear tok1 _t; have hz1 := hb1.size; (try simp only [World.size_alloc, World.size_setCell, World.size_drew, World.size_drewN'] at hz1); (try (have kq := cellAt hb1 (w.heap.size) (by go_size); have k1_w_0_0 := kq 0; have k1_w_0_1 := kq 1; clear kq; have f1_w_0 := frozAt hb1 (w.heap.size) (by go_size); simp [go_sem, *] at k1_w_0_0 k1_w_0_1 f1_w_0)); (try have l1_w_0 : w.heap.size < w1.heap.size := by omega)) | (have _t := tok2; go_at_call 46; (with_reducible refine ((T2 _).out).mono ?_); rintro e w2 ⟨rfl, hb2⟩; clear tok2 _t; have hz2 := hb2.size; (try simp only [World.size_alloc, World.size_setCell, World.size_drew, World.size_drewN'] at hz2); (try (have kq := cellAt hb2 (w.heap.size) (by go_size); have k2_w_0_0 := kq 0; have k2_w_0_1 := kq 1; clear kq; have f2_w_0 := frozAt hb2 (w.heap.size) (by go_size); simp [go_sem, *] at k2_w_0_0 k2_w_0_1 f2_w_0)); (try have l2_w_0 : w.heap.size < w2.heap.size := by omega); (try clear k1_w_0_0 k1_w_0_1 f1_w_0); (try clear l1_w_0)))
    go_ret2
    refine ⟨rfl, ?_⟩
    repeat' first | (with_reducible first | apply zRf | assumption | apply zDn | apply zDr | apply zAl | apply zSt | refine zVi (by assumption) ?_ ?_) | go_size
  · have hm := asB_mem h1
    have T2 := fun W : World => Lib.hid (dsReason_any a b d dual W hm.1 hm.2)
    rw [h1] at T1
    clear h1 hm
    simp only [if_true]
    generalize rdV a b dual d = rv at *
    have tok1 : True := trivial
    have tok2 : True := trivial
    go_enter Try.func23, Try.ntmps23
    go_wp2_with (first | (have _t := tok1; go_at_call 45; (with_reducible refine ((T1 _).out).mono ?_); rintro e w1 ⟨rfl, hb1⟩; clear tok1 _t; have hz1 := hb1.size; (try simp only [World.size_alloc, World.size_setCell, World.size_drew, World.size_drewN'] at hz1); (try (have kq := cellAt hb1 (w.heap.size) (by go_size); have k1_w_0_0 := kq 0; have k1_w_0_1 := kq 1; clear kq; have f1_w_0 := frozAt hb1 (w.heap.size) (by go_size); simp [go_sem, *] at k1_w_0_0 k1_w_0_1 f1_w_0)); (try have l1_w_0 : w.heap.size < w1.heap.size := by omega)) | (have _t := tok2; go_at_call 46; (with_reducible refine ((T2 _).out).mono ?_); rintro e w2 ⟨rfl, hb2⟩; clear tok2 _t; have hz2 := hb2.size; (try simp only [World.size_alloc, World.size_setCell, World.size_drew, World.size_drewN'] at hz2); (try (have kq := cellAt hb2 (w.heap.size) (by go_size); have k2_w_0_0 := kq 0; have k2_w_0_1 := kq 1; clear kq; have f2_w_0 := frozAt hb2 (w.heap.size) (by go_size); simp [go_sem, *] at k2_w_0_0 k2_w_0_1 f2_w_0)); (try have l2_w_0 : w.heap.size < w2.heap.size := by omega); (try clear k1_w_0_0 k1_w_0_1 f1_w_0); (try clear l1_w_0)))
    go_ret2
    refine ⟨rfl, ?_⟩
    repeat' first | (with_reducible first | apply zRf | assumption | apply zDn | apply zDr | apply zAl | apply zSt | refine zVi (by assumption) ?_ ?_) | go_size
theorem FnExactReasonAgainst_any (a0_0 : Int) (a0_1 : Int) (a1_0 : Bool) (a2_0 : Int) (w : World) : Calls Try.prog 7 #[.agg #[.int .i64 a0_0, .int .i64 a0_1], .bool a1_0, .int .i64 a2_0] w fun e w' => e = .returned (.bool true) ∧ Below w.heap.size w w' := by
  have CS := fun W : World => Lib.hid (sReasonAgainst_any a0_0 a0_1 a1_0 a2_0 W)
  have CI := fun W : World => Lib.hid (ReasonAgainst_any a0_0 a0_1 a1_0 a2_0 W)
  generalize raV a0_0 a0_1 a1_0 a2_0 = rv at CS CI
  have tok1 : True := trivial
  have tok2 : True := trivial
  have tok3 : True := trivial
  have tok4 : True := trivial
  go_enter Try.func7, Try.ntmps7
  go_wp2_with (first | (have _t := tok1; go_at_call 24; refine (toTwoCurve_any _ _ _).mono ?_; rintro e w1 ⟨rfl, hb1⟩; clear tok1 _t; have hz1 := hb1.size; (try simp only [World.size_alloc, World.size_setCell, World.size_drew, World.size_drewN'] at hz1); (try (have kq := cellAt hb1 (w.heap.size) (by go_size); have k1_w_0_0 := kq 0; have k1_w_0_1 := kq 1; clear kq; have f1_w_0 := frozAt hb1 (w.heap.size) (by go_size); simp [go_sem, *] at k1_w_0_0 k1_w_0_1 f1_w_0)); (try have l1_w_0 : w.heap.size < w1.heap.size := by omega)) | (have _t := tok2; go_at_call 23; refine ((CS _).out).mono ?_; rintro e w2 ⟨rfl, hb2⟩; clear tok2 _t; have hz2 := hb2.size; (try simp only [World.size_alloc, World.size_setCell, World.size_drew, World.size_drewN'] at hz2); (try (have kq := cellAt hb2 (w.heap.size) (by go_size); have k2_w_0_0 := kq 0; have k2_w_0_1 := kq 1; clear kq; have f2_w_0 := frozAt hb2 (w.heap.size) (by go_size); simp [go_sem, *] at k2_w_0_0 k2_w_0_1 f2_w_0)); (try have l2_w_0 : w.heap.size < w2.heap.size := by omega); (try clear k1_w_0_0 k1_w_0_1 f1_w_0); (try clear l1_w_0)) | (have _t := tok3; go_at_call 24; refine (toTwoCurve_any _ _ _).mono ?_; rintro e w3 ⟨rfl, hb3⟩; clear tok3 _t; have hz3 := hb3.size; (try simp only [World.size_alloc, World.size_setCell, World.size_drew, World.size_drewN'] at hz3); (try (have kq := cellAt hb3 (w.heap.size) (by go_size); have k3_w_0_0 := kq 0; have k3_w_0_1 := kq 1; clear kq; have f3_w_0 := frozAt hb3 (w.heap.size) (by go_size); simp [go_sem, *] at k3_w_0_0 k3_w_0_1 f3_w_0)); (try have l3_w_0 : w.heap.size < w3.heap.size := by omega); (try clear k1_w_0_0 k1_w_0_1 f1_w_0); (try clear l1_w_0); (try clear k2_w_0_0 k2_w_0_1 f2_w_0); (try clear l2_w_0)) | (have _t := tok4; go_at_call 25; refine ((CI _).out).mono ?_; rintro e w4 ⟨rfl, hb4⟩; clear tok4 _t; have hz4 := hb4.size; (try simp only [World.size_alloc, World.size_setCell, World.size_drew, World.size_drewN'] at hz4); (try (have kq := cellAt hb4 (w.heap.size) (by go_size); have k4_w_0_0 := kq 0; have k4_w_0_1 := kq 1; clear kq; have f4_w_0 := frozAt hb4 (w.heap.size) (by go_size); simp [go_sem, *] at k4_w_0_0 k4_w_0_1 f4_w_0)); (try have l4_w_0 : w.heap.size < w4.heap.size := by omega); (try clear k1_w_0_0 k1_w_0_1 f1_w_0); (try clear l1_w_0); (try clear k2_w_0_0 k2_w_0_1 f2_w_0); (try clear l2_w_0); (try clear k3_w_0_0 k3_w_0_1 f3_w_0); (try clear l3_w_0)))
  go_ret
  refine ⟨rfl, ?_⟩
  repeat' first | (with_reducible first | apply zRf | assumption | apply zDn | apply zDr | apply zAl | apply zSt | refine zVi (by assumption) ?_ ?_) | go_size
end Go.Proofs.Ytpikckgaonppkaa
