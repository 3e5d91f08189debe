/- The doubled ratios, one after the other: both functions for all arguments; the reference's loop. -/
import Derived.Test.YtijpfnkhaldfeaaWo3
import Derived.Test.YtijpfnkhaldfeaaRa
import Derived.Test.YtijpfnkhaldfeaaXd6
namespace Go.Proofs.Ytijpfnkhaldfeaa
open Go.RowKit
set_option linter.unusedVariables false
set_option maxHeartbeats 4000000
set_option maxRecDepth 20000
set_option linter.unusedSimpArgs false
attribute [local go_sem] openAt openUpon
/-- a valid row of digits is a whole number -/
theorem gw_wx {W : World} {b : Bool} {a : Option Addr} {n c : Nat} {zs : List Int} (h : Sx W a n c zs) (hg : gwB b zs = true) : Wx W b a n c (mkW b (val zs)) := by
  obtain ⟨h1, h2, -⟩ := gw_mk hg
  exact ⟨h2, by rw [← h1]; exact h⟩
theorem rg_wx {W : World} {b b2 : Bool} {a a2 : Option Addr} {n c n2 c2 : Nat} {zs ys : List Int} (h : Sx W a n c zs) (h2 : Sx W a2 n2 c2 ys) (hg : rgB b zs b2 ys = true) :
    Wx W b a n c (mkW b (val zs)) ∧ Wx W b2 a2 n2 c2 (mkW b2 (val ys)) ∧ raB (mkW b (val zs)) (mkW b2 (val ys)) = true := by
  have hg' := hg
  unfold rgB at hg'
  simp only [Bool.and_eq_true] at hg'
  have k1 := gw_wx h hg'.1
  have k2 := gw_wx h2 hg'.2.1
  refine ⟨k1, k2, ?_⟩
  obtain ⟨e1, e2, -⟩ := gw_mk hg'.1
  obtain ⟨e3, e4, -⟩ := gw_mk hg'.2.1
  rw [← rg_self, ← e1, ← e2, ← e3, ← e4]
  exact hg
theorem cvB_out {A B : Int} (h : cvB A B = true) : (-1000 ≤ A ∧ A ≤ 1000) ∧ (-10000 ≤ B ∧ B ≤ 10000) ∧ coV A B ≠ 0 := by
  unfold cvB at h
  simp only [Bool.and_eq_true, decide_eq_true_eq] at h
  exact ⟨inB_iff.1 h.1, inB_iff.1 h.2.1, h.2.2⟩
theorem Wx.only {W W2 : World} {b : Bool} {a : Option Addr} {n c g : Nat} {z : Int} {cs : Array Value} {T : TypeId} (h : Wx W b a n c z) (hk : W.heap[g]? = some (.cells cs T)) (hn : NoInt cs) (hs : W.heap.size ≤ W2.heap.size) (ho : ∀ i, i ≠ g → W2.heap[i]? = W.heap[i]?) : Wx W2 b a n c z :=
  ⟨h.neg, ⟨h.row.len, h.row.cap, h.row.max, h.row.nil, fun h0 => by
    obtain ⟨k, off, h1, h2, h3⟩ := h.row.row h0
    refine ⟨k, off, h1, Nat.lt_of_lt_of_le h2 hs, fun j hj => ?_⟩
    have h4 := h3 j hj
    by_cases e : k = g
    · exfalso
      subst e
      rw [cell_of_row W k (off + j) cs T (0, 0) hk] at h4
      exact hn _ _ h4
    · exact (World.cell?_of_block (a := ⟨k, off + j, none⟩) (ho k e)).trans h4⟩⟩
theorem RowRt.only {W W2 : World} {B g : Nat} {T T' : TypeId} {v : Value} {zs : List (Int × Int)} {cs : Array Value} (h : RowRt W B T v zs) (hg : g < B) (hk : W.heap[g]? = some (.cells cs T')) (hn : NoInt cs) (hs : W.heap.size ≤ W2.heap.size) (ho : ∀ i, i ≠ g → W2.heap[i]? = W.heap[i]?) : RowRt W2 B T v zs := by
  obtain ⟨xs, h1, he⟩ := h
  refine ⟨xs, ⟨h1.1, h1.2.imp id fun ⟨g2, cap, cur, hv, hb, hh, rest⟩ => ⟨g2, cap, cur, hv, hb, (ho g2 (by omega)).trans hh, rest⟩⟩, fun i hi => ?_⟩
  obtain ⟨b, a, n, c, b2, a2, n2, c2, g1, g2, g3, g4, g5, g6, g7, g8⟩ := he i hi
  exact ⟨b, a, n, c, b2, a2, n2, c2, g1, g2, g3, g4, g5.only hk hn hs ho, g6.only hk hn hs ho, g7, g8⟩
/-- the doubled ratios of any arguments -/
def doV (A B : Int) (b : Bool) (zs : List Int) (b2 : Bool) (ys : List Int) (m : Int) : Option (List (Int × Int)) := if cvB A B = true ∧ rgB b zs b2 ys = true ∧ inB m 1 5 = true then dlV (4 * absI (coV A B)) A B m.toNat (mkW b (val zs)) (mkW b2 (val ys)) else none
theorem doV_yes {A B : Int} {b : Bool} {zs : List Int} {b2 : Bool} {ys : List Int} {m : Int} (h1 : cvB A B = true) (h2 : rgB b zs b2 ys = true) (h3 : inB m 1 5 = true) : doV A B b zs b2 ys m = dlV (4 * absI (coV A B)) A B m.toNat (mkW b (val zs)) (mkW b2 (val ys)) := by unfold doV; rw [if_pos ⟨h1, h2, h3⟩]
theorem doV_no {A B : Int} {b : Bool} {zs : List Int} {b2 : Bool} {ys : List Int} {m : Int} (h : cvB A B = false ∨ rgB b zs b2 ys = false ∨ inB m 1 5 = false) : doV A B b zs b2 ys m = none := by
  unfold doV
  rw [if_neg]
  rintro ⟨h1, h2, h3⟩
  rw [h1, h2, h3] at h
  rcases h with h | h | h <;> cases h
theorem DoublingsOf_any (A B : Int) (b b2 : Bool) (a a2 : Option Addr) (n c n2 c2 : Nat) (zs ys : List Int) (m : Int) (w : World) (hs : Sx w a n c zs) (hs2 : Sx w a2 n2 c2 ys) :
    Calls Try.prog 8 #[.agg #[.int .i64 A, .int .i64 B], .agg #[.bool b, .slice a n c, .bool b2, .slice a2 n2 c2], .int .i64 m] w (NewDR w (doV A B b zs b2 ys m)) := by
  have T1 := fun W : World => Lib.hid (isCurve_any A B W)
  have T2 : ∀ W, Below w.heap.size w W → Calls Try.prog 20 #[.agg #[.bool b, .slice a n c, .bool b2, .slice a2 n2 c2]] W fun e w' => e = .returned (.bool (rgB b zs b2 ys)) ∧ Below W.heap.size W w' := fun W hW => isRatio_all b b2 a a2 n c n2 c2 zs ys W (hs.below hW) (hs2.below hW)
  have T3 := fun W : World => Lib.hid (inside_any m 1 5 W)
  cases e1 : cvB A B
  · have HN := Lib.hid (doV_no (A := A) (B := B) (b := b) (zs := zs) (b2 := b2) (ys := ys) (m := m) (.inl e1))
    simp only [e1] at T1
    clear e1 hs hs2
    have tok1 : True := trivial
    have tok2 : True := trivial
    have tok3 : True := trivial
    have tok4 : True := trivial
    go_enter Try.func8, Try.ntmps8
    go_wp2_with (first | (have _t := tok1; go_at_call 19; (with_reducible refine ((T1 _).out).mono ?_); rintro e w1 ⟨rfl, hb1⟩; clear tok1 _t; have hz1 := hb1.size; (try simp only [World.size_alloc, World.size_setCell, World.size_drew, World.size_drewN'] at hz1); (try (have kq := cellAt hb1 (w.heap.size) (by go_size); have k1_w_0_0 := kq 0; have k1_w_0_1 := kq 1; clear kq; have f1_w_0 := frozAt hb1 (w.heap.size) (by go_size); simp [go_sem, *] at k1_w_0_0 k1_w_0_1 f1_w_0)); (try have l1_w_0 : w.heap.size < w1.heap.size := by omega); (try (have kq := cellAt hb1 (w.heap.size + 1) (by go_size); have k1_w_1_0 := kq 0; have k1_w_1_1 := kq 1; have k1_w_1_2 := kq 2; have k1_w_1_3 := kq 3; clear kq; have f1_w_1 := frozAt hb1 (w.heap.size + 1) (by go_size); simp [go_sem, *] at k1_w_1_0 k1_w_1_1 k1_w_1_2 k1_w_1_3 f1_w_1)); (try have l1_w_1 : w.heap.size + 1 < w1.heap.size := by omega)) | (have _t := tok2; go_at_call 20; (with_reducible refine ((T2 _ (by repeat' first | (with_reducible first | apply zRf | assumption | apply zDn | apply zDr | apply zAl | apply zSt | refine zVi (by assumption) ?_ ?_) | go_size))).mono ?_); rintro e w2 ⟨rfl, hb2⟩; clear tok2 _t; have hz2 := hb2.size; (try simp only [World.size_alloc, World.size_setCell, World.size_drew, World.size_drewN'] at hz2); (try (have kq := cellAt hb2 (w.heap.size) (by go_size); have k2_w_0_0 := kq 0; have k2_w_0_1 := kq 1; clear kq; have f2_w_0 := frozAt hb2 (w.heap.size) (by go_size); simp [go_sem, *] at k2_w_0_0 k2_w_0_1 f2_w_0)); (try have l2_w_0 : w.heap.size < w2.heap.size := by omega); (try (have kq := cellAt hb2 (w.heap.size + 1) (by go_size); have k2_w_1_0 := kq 0; have k2_w_1_1 := kq 1; have k2_w_1_2 := kq 2; have k2_w_1_3 := kq 3; clear kq; have f2_w_1 := frozAt hb2 (w.heap.size + 1) (by go_size); simp [go_sem, *] at k2_w_1_0 k2_w_1_1 k2_w_1_2 k2_w_1_3 f2_w_1)); (try have l2_w_1 : w.heap.size + 1 < w2.heap.size := by omega); (try clear k1_w_0_0 k1_w_0_1 f1_w_0); (try clear l1_w_0); (try clear k1_w_1_0 k1_w_1_1 k1_w_1_2 k1_w_1_3 f1_w_1); (try clear l1_w_1)) | (go_at_call 21; (with_reducible refine ((T3 _).out).mono ?_); rintro e w' ⟨rfl, rfl⟩))
    go_ret2
    refine ⟨.slice none 0 0, [], by rw [HN.out]; rfl, by rw [HN.out]; exact OwnW.nil _ _, by rw [HN.out]; exact fun j hj => absurd hj (by simp [dlR]), ?_⟩
    repeat' first | (with_reducible first | apply zRf | assumption | apply zDn | apply zDr | apply zAl | apply zSt | refine zVi (by assumption) ?_ ?_) | go_size
  cases e2 : rgB b zs b2 ys
  · have HN := Lib.hid (doV_no (A := A) (B := B) (b := b) (zs := zs) (b2 := b2) (ys := ys) (m := m) (.inr (.inl e2)))
    simp only [e1] at T1
    simp only [e2] at T2
    clear e1 e2 hs hs2
    have tok1 : True := trivial
    have tok2 : True := trivial
    have tok3 : True := trivial
    have tok4 : True := trivial
    go_enter Try.func8, Try.ntmps8
    go_wp2_with (first | (have _t := tok1; go_at_call 19; (with_reducible refine ((T1 _).out).mono ?_); rintro e w1 ⟨rfl, hb1⟩; clear tok1 _t; have hz1 := hb1.size; (try simp only [World.size_alloc, World.size_setCell, World.size_drew, World.size_drewN'] at hz1); (try (have kq := cellAt hb1 (w.heap.size) (by go_size); have k1_w_0_0 := kq 0; have k1_w_0_1 := kq 1; clear kq; have f1_w_0 := frozAt hb1 (w.heap.size) (by go_size); simp [go_sem, *] at k1_w_0_0 k1_w_0_1 f1_w_0)); (try have l1_w_0 : w.heap.size < w1.heap.size := by omega); (try (have kq := cellAt hb1 (w.heap.size + 1) (by go_size); have k1_w_1_0 := kq 0; have k1_w_1_1 := kq 1; have k1_w_1_2 := kq 2; have k1_w_1_3 := kq 3; clear kq; have f1_w_1 := frozAt hb1 (w.heap.size + 1) (by go_size); simp [go_sem, *] at k1_w_1_0 k1_w_1_1 k1_w_1_2 k1_w_1_3 f1_w_1)); (try have l1_w_1 : w.heap.size + 1 < w1.heap.size := by omega)) | (have _t := tok2; go_at_call 20; (with_reducible refine ((T2 _ (by repeat' first | (with_reducible first | apply zRf | assumption | apply zDn | apply zDr | apply zAl | apply zSt | refine zVi (by assumption) ?_ ?_) | go_size))).mono ?_); rintro e w2 ⟨rfl, hb2⟩; clear tok2 _t; have hz2 := hb2.size; (try simp only [World.size_alloc, World.size_setCell, World.size_drew, World.size_drewN'] at hz2); (try (have kq := cellAt hb2 (w.heap.size) (by go_size); have k2_w_0_0 := kq 0; have k2_w_0_1 := kq 1; clear kq; have f2_w_0 := frozAt hb2 (w.heap.size) (by go_size); simp [go_sem, *] at k2_w_0_0 k2_w_0_1 f2_w_0)); (try have l2_w_0 : w.heap.size < w2.heap.size := by omega); (try (have kq := cellAt hb2 (w.heap.size + 1) (by go_size); have k2_w_1_0 := kq 0; have k2_w_1_1 := kq 1; have k2_w_1_2 := kq 2; have k2_w_1_3 := kq 3; clear kq; have f2_w_1 := frozAt hb2 (w.heap.size + 1) (by go_size); simp [go_sem, *] at k2_w_1_0 k2_w_1_1 k2_w_1_2 k2_w_1_3 f2_w_1)); (try have l2_w_1 : w.heap.size + 1 < w2.heap.size := by omega); (try clear k1_w_0_0 k1_w_0_1 f1_w_0); (try clear l1_w_0); (try clear k1_w_1_0 k1_w_1_1 k1_w_1_2 k1_w_1_3 f1_w_1); (try clear l1_w_1)) | (go_at_call 21; (with_reducible refine ((T3 _).out).mono ?_); rintro e w' ⟨rfl, rfl⟩))
    go_ret2
    refine ⟨.slice none 0 0, [], by rw [HN.out]; rfl, by rw [HN.out]; exact OwnW.nil _ _, by rw [HN.out]; exact fun j hj => absurd hj (by simp [dlR]), ?_⟩
    repeat' first | (with_reducible first | apply zRf | assumption | apply zDn | apply zDr | apply zAl | apply zSt | refine zVi (by assumption) ?_ ?_) | go_size
  cases e3 : inB m 1 5
  · have HN := Lib.hid (doV_no (A := A) (B := B) (b := b) (zs := zs) (b2 := b2) (ys := ys) (m := m) (.inr (.inr e3)))
    simp only [e1] at T1
    simp only [e2] at T2
    simp only [e3] at T3
    clear e1 e2 e3 hs hs2
    have tok1 : True := trivial
    have tok2 : True := trivial
    have tok3 : True := trivial
    have tok4 : True := trivial
    go_enter Try.func8, Try.ntmps8
    go_wp2_with (first | (have _t := tok1; go_at_call 19; (with_reducible refine ((T1 _).out).mono ?_); rintro e w1 ⟨rfl, hb1⟩; clear tok1 _t; have hz1 := hb1.size; (try simp only [World.size_alloc, World.size_setCell, World.size_drew, World.size_drewN'] at hz1); (try (have kq := cellAt hb1 (w.heap.size) (by go_size); have k1_w_0_0 := kq 0; have k1_w_0_1 := kq 1; clear kq; have f1_w_0 := frozAt hb1 (w.heap.size) (by go_size); simp [go_sem, *] at k1_w_0_0 k1_w_0_1 f1_w_0)); (try have l1_w_0 : w.heap.size < w1.heap.size := by omega); (try (have kq := cellAt hb1 (w.heap.size + 1) (by go_size); have k1_w_1_0 := kq 0; have k1_w_1_1 := kq 1; have k1_w_1_2 := kq 2; have k1_w_1_3 := kq 3; clear kq; have f1_w_1 := frozAt hb1 (w.heap.size + 1) (by go_size); simp [go_sem, *] at k1_w_1_0 k1_w_1_1 k1_w_1_2 k1_w_1_3 f1_w_1)); (try have l1_w_1 : w.heap.size + 1 < w1.heap.size := by omega)) | (have _t := tok2; go_at_call 20; (with_reducible refine ((T2 _ (by repeat' first | (with_reducible first | apply zRf | assumption | apply zDn | apply zDr | apply zAl | apply zSt | refine zVi (by assumption) ?_ ?_) | go_size))).mono ?_); rintro e w2 ⟨rfl, hb2⟩; clear tok2 _t; have hz2 := hb2.size; (try simp only [World.size_alloc, World.size_setCell, World.size_drew, World.size_drewN'] at hz2); (try (have kq := cellAt hb2 (w.heap.size) (by go_size); have k2_w_0_0 := kq 0; have k2_w_0_1 := kq 1; clear kq; have f2_w_0 := frozAt hb2 (w.heap.size) (by go_size); simp [go_sem, *] at k2_w_0_0 k2_w_0_1 f2_w_0)); (try have l2_w_0 : w.heap.size < w2.heap.size := by omega); (try (have kq := cellAt hb2 (w.heap.size + 1) (by go_size); have k2_w_1_0 := kq 0; have k2_w_1_1 := kq 1; have k2_w_1_2 := kq 2; have k2_w_1_3 := kq 3; clear kq; have f2_w_1 := frozAt hb2 (w.heap.size + 1) (by go_size); simp [go_sem, *] at k2_w_1_0 k2_w_1_1 k2_w_1_2 k2_w_1_3 f2_w_1)); (try have l2_w_1 : w.heap.size + 1 < w2.heap.size := by omega); (try clear k1_w_0_0 k1_w_0_1 f1_w_0); (try clear l1_w_0); (try clear k1_w_1_0 k1_w_1_1 k1_w_1_2 k1_w_1_3 f1_w_1); (try clear l1_w_1)) | (go_at_call 21; (with_reducible refine ((T3 _).out).mono ?_); rintro e w' ⟨rfl, rfl⟩))
    go_ret2
    refine ⟨.slice none 0 0, [], by rw [HN.out]; rfl, by rw [HN.out]; exact OwnW.nil _ _, by rw [HN.out]; exact fun j hj => absurd hj (by simp [dlR]), ?_⟩
    repeat' first | (with_reducible first | apply zRf | assumption | apply zDn | apply zDr | apply zAl | apply zSt | refine zVi (by assumption) ?_ ?_) | go_size
  obtain ⟨hA, hBB, hcv⟩ := cvB_out e1
  obtain ⟨hx, hz, hra⟩ := rg_wx hs hs2 e2
  have hm15 := inB_iff.1 e3
  obtain ⟨k, rfl⟩ : ∃ k : Nat, m = k := ⟨m.toNat, by omega⟩
  rw [doV_yes e1 e2 e3, Int.toNat_natCast]
  simp only [e1] at T1
  simp only [e2] at T2
  simp only [e3] at T3
  have T4 : ∀ W, Wx W b a n c (mkW b (val zs)) → Wx W b2 a2 n2 c2 (mkW b2 (val ys)) → Calls Try.prog 22 #[.agg #[.int .i64 A, .int .i64 B], .agg #[.bool b, .slice a n c, .bool b2, .slice a2 n2 c2], .int .i64 k] W (NewDR W (dlV (4 * absI (coV A B)) A B k (mkW b (val zs)) (mkW b2 (val ys)))) := fun W g1 g2 => doublings_any A B _ _ b b2 a a2 n c n2 c2 k W hA hBB hcv g1 g2 hra (by omega)
  generalize dlV (4 * absI (coV A B)) A B k (mkW b (val zs)) (mkW b2 (val ys)) = r at *
  clear e1 e2 e3 hA hBB hcv hra hs hs2
  have tok1 : True := trivial
  have tok2 : True := trivial
  have tok3 : True := trivial
  have tok4 : True := trivial
  go_enter Try.func8, Try.ntmps8
  go_wp2_with (first | (first | (have _t := tok1; go_at_call 19; (with_reducible refine ((T1 _).out).mono ?_); rintro e w1 ⟨rfl, hb1⟩; clear tok1 _t; have hz1 := hb1.size; (try simp only [World.size_alloc, World.size_setCell, World.size_drew, World.size_drewN'] at hz1); (try (have kq := cellAt hb1 (w.heap.size) (by go_size); have k1_w_0_0 := kq 0; have k1_w_0_1 := kq 1; clear kq; have f1_w_0 := frozAt hb1 (w.heap.size) (by go_size); simp [go_sem, *] at k1_w_0_0 k1_w_0_1 f1_w_0)); (try have l1_w_0 : w.heap.size < w1.heap.size := by omega); (try (have kq := cellAt hb1 (w.heap.size + 1) (by go_size); have k1_w_1_0 := kq 0; have k1_w_1_1 := kq 1; have k1_w_1_2 := kq 2; have k1_w_1_3 := kq 3; clear kq; have f1_w_1 := frozAt hb1 (w.heap.size + 1) (by go_size); simp [go_sem, *] at k1_w_1_0 k1_w_1_1 k1_w_1_2 k1_w_1_3 f1_w_1)); (try have l1_w_1 : w.heap.size + 1 < w1.heap.size := by omega)) | (have _t := tok2; go_at_call 20; (with_reducible refine ((T2 _ (by repeat' first | (with_reducible first | apply zRf | assumption | apply zDn | apply zDr | apply zAl | apply zSt | refine zVi (by assumption) ?_ ?_) | go_size))).mono ?_); rintro e w2 ⟨rfl, hb2⟩; clear tok2 _t; have hz2 := hb2.size; (try simp only [World.size_alloc, World.size_setCell, World.size_drew, World.size_drewN'] at hz2); (try (have kq := cellAt hb2 (w.heap.size) (by go_size); have k2_w_0_0 := kq 0; have k2_w_0_1 := kq 1; clear kq; have f2_w_0 := frozAt hb2 (w.heap.size) (by go_size); simp [go_sem, *] at k2_w_0_0 k2_w_0_1 f2_w_0)); (try have l2_w_0 : w.heap.size < w2.heap.size := by omega); (try (have kq := cellAt hb2 (w.heap.size + 1) (by go_size); have k2_w_1_0 := kq 0; have k2_w_1_1 := kq 1; have k2_w_1_2 := kq 2; have k2_w_1_3 := kq 3; clear kq; have f2_w_1 := frozAt hb2 (w.heap.size + 1) (by go_size); simp [go_sem, *] at k2_w_1_0 k2_w_1_1 k2_w_1_2 k2_w_1_3 f2_w_1)); (try have l2_w_1 : w.heap.size + 1 < w2.heap.size := by omega); (try clear k1_w_0_0 k1_w_0_1 f1_w_0); (try clear l1_w_0); (try clear k1_w_1_0 k1_w_1_1 k1_w_1_2 k1_w_1_3 f1_w_1); (try clear l1_w_1)) | (go_at_call 21; (with_reducible refine ((T3 _).out).mono ?_); rintro e w' ⟨rfl, rfl⟩)) | (first | (have _t := tok4; go_at_call 22; (with_reducible refine ((T4 _ (hx.below (by repeat' first | (with_reducible first | apply zRf | assumption | apply zDn | apply zDr | apply zAl | apply zSt | refine zVi (by assumption) ?_ ?_) | go_size)) (hz.below (by repeat' first | (with_reducible first | apply zRf | assumption | apply zDn | apply zDr | apply zAl | apply zSt | refine zVi (by assumption) ?_ ?_) | go_size)))).mono ?_); rintro e w4 ⟨v4, M4, rfl, ho4, hv4, hb4⟩; clear tok4 _t; have hz4 := hb4.size; (try simp only [World.size_alloc, World.size_setCell, World.size_drew, World.size_drewN'] at hz4); (try (have kq := cellAt hb4 (w.heap.size) (by go_size); have k4_w_0_0 := kq 0; have k4_w_0_1 := kq 1; clear kq; have f4_w_0 := frozAt hb4 (w.heap.size) (by go_size); simp [go_sem, *] at k4_w_0_0 k4_w_0_1 f4_w_0)); (try have l4_w_0 : w.heap.size < w4.heap.size := by omega); (try (have kq := cellAt hb4 (w.heap.size + 1) (by go_size); have k4_w_1_0 := kq 0; have k4_w_1_1 := kq 1; have k4_w_1_2 := kq 2; have k4_w_1_3 := kq 3; clear kq; have f4_w_1 := frozAt hb4 (w.heap.size + 1) (by go_size); simp [go_sem, *] at k4_w_1_0 k4_w_1_1 k4_w_1_2 k4_w_1_3 f4_w_1)); (try have l4_w_1 : w.heap.size + 1 < w4.heap.size := by omega); (try clear k1_w_0_0 k1_w_0_1 f1_w_0); (try clear l1_w_0); (try clear k1_w_1_0 k1_w_1_1 k1_w_1_2 k1_w_1_3 f1_w_1); (try clear l1_w_1); (try clear k2_w_0_0 k2_w_0_1 f2_w_0); (try clear l2_w_0); (try clear k2_w_1_0 k2_w_1_1 k2_w_1_2 k2_w_1_3 f2_w_1); (try clear l2_w_1); (try clear k3_w_0_0 k3_w_0_1 f3_w_0); (try clear l3_w_0); (try clear k3_w_1_0 k3_w_1_1 k3_w_1_2 k3_w_1_3 f3_w_1); (try clear l3_w_1))))
  go_ret2
  refine ⟨v4, M4, rfl, ho4.low (by go_size), hv4, ?_⟩
  repeat' first | (with_reducible first | apply zRf | assumption | apply zDn | apply zDr | apply zAl | apply zSt | refine zVi (by assumption) ?_ ?_) | go_size
theorem xdAsked_any (A B : Int) (b b2 : Bool) (a a2 : Option Addr) (n c n2 c2 : Nat) (zs ys : List Int) (w : World) (hs : Sx w a n c zs) (hs2 : Sx w a2 n2 c2 ys) :
    Calls Try.prog 15 #[.agg #[.int .i64 A, .int .i64 B], .agg #[.bool b, .slice a n c, .bool b2, .slice a2 n2 c2]] w fun e w' => e = .returned (.bool (cvB A B && rgB b zs b2 ys)) ∧ Below w.heap.size w w' := by
  have T1 := fun W : World => Lib.hid (ecGood_any A B W)
  have T2 : ∀ W, Below w.heap.size w W → Calls Try.prog 29 #[.agg #[.bool b, .slice a n c, .bool b2, .slice a2 n2 c2]] W fun e w' => e = .returned (.bool (rgB b zs b2 ys)) ∧ Below W.heap.size W w' := fun W hW => xdGood_all b b2 a a2 n c n2 c2 zs ys W (hs.below hW) (hs2.below hW)
  generalize cvB A B = g1 at *
  generalize rgB b zs b2 ys = g2 at *
  clear hs hs2
  cases g1
  · have tok1 : True := trivial
    have tok2 : True := trivial
    go_enter Try.func15, Try.ntmps15
    go_wp2_with (first | (have _t := tok1; go_at_call 28; (with_reducible refine ((T1 _).out).mono ?_); rintro e w1 ⟨rfl, hb1⟩; clear tok1 _t; have hz1 := hb1.size; (try simp only [World.size_alloc, World.size_setCell, World.size_drew, World.size_drewN'] at hz1); (try (have kq := cellAt hb1 (w.heap.size) (by go_size); have k1_w_0_0 := kq 0; have k1_w_0_1 := kq 1; clear kq; have f1_w_0 := frozAt hb1 (w.heap.size) (by go_size); simp [go_sem, *] at k1_w_0_0 k1_w_0_1 f1_w_0)); (try have l1_w_0 : w.heap.size < w1.heap.size := by omega); (try (have kq := cellAt hb1 (w.heap.size + 1) (by go_size); have k1_w_1_0 := kq 0; have k1_w_1_1 := kq 1; have k1_w_1_2 := kq 2; have k1_w_1_3 := kq 3; clear kq; have f1_w_1 := frozAt hb1 (w.heap.size + 1) (by go_size); simp [go_sem, *] at k1_w_1_0 k1_w_1_1 k1_w_1_2 k1_w_1_3 f1_w_1)); (try have l1_w_1 : w.heap.size + 1 < w1.heap.size := by omega)) | (have _t := tok2; go_at_call 29; (with_reducible refine ((T2 _ (by repeat' first | (with_reducible first | apply zRf | assumption | apply zDn | apply zDr | apply zAl | apply zSt | refine zVi (by assumption) ?_ ?_) | go_size))).mono ?_); rintro e w2 ⟨rfl, hb2⟩; clear tok2 _t; have hz2 := hb2.size; (try simp only [World.size_alloc, World.size_setCell, World.size_drew, World.size_drewN'] at hz2); (try (have kq := cellAt hb2 (w.heap.size) (by go_size); have k2_w_0_0 := kq 0; have k2_w_0_1 := kq 1; clear kq; have f2_w_0 := frozAt hb2 (w.heap.size) (by go_size); simp [go_sem, *] at k2_w_0_0 k2_w_0_1 f2_w_0)); (try have l2_w_0 : w.heap.size < w2.heap.size := by omega); (try (have kq := cellAt hb2 (w.heap.size + 1) (by go_size); have k2_w_1_0 := kq 0; have k2_w_1_1 := kq 1; have k2_w_1_2 := kq 2; have k2_w_1_3 := kq 3; clear kq; have f2_w_1 := frozAt hb2 (w.heap.size + 1) (by go_size); simp [go_sem, *] at k2_w_1_0 k2_w_1_1 k2_w_1_2 k2_w_1_3 f2_w_1)); (try have l2_w_1 : w.heap.size + 1 < w2.heap.size := by omega); (try clear k1_w_0_0 k1_w_0_1 f1_w_0); (try clear l1_w_0); (try clear k1_w_1_0 k1_w_1_1 k1_w_1_2 k1_w_1_3 f1_w_1); (try clear l1_w_1)))
    go_ret
    refine ⟨rfl, ?_⟩
    repeat' first | (with_reducible first | apply zRf | assumption | apply zDn | apply zDr | apply zAl | apply zSt | refine zVi (by assumption) ?_ ?_) | go_size
  · have tok1 : True := trivial
    have tok2 : True := trivial
    go_enter Try.func15, Try.ntmps15
    go_wp2_with (first | (have _t := tok1; go_at_call 28; (with_reducible refine ((T1 _).out).mono ?_); rintro e w1 ⟨rfl, hb1⟩; clear tok1 _t; have hz1 := hb1.size; (try simp only [World.size_alloc, World.size_setCell, World.size_drew, World.size_drewN'] at hz1); (try (have kq := cellAt hb1 (w.heap.size) (by go_size); have k1_w_0_0 := kq 0; have k1_w_0_1 := kq 1; clear kq; have f1_w_0 := frozAt hb1 (w.heap.size) (by go_size); simp [go_sem, *] at k1_w_0_0 k1_w_0_1 f1_w_0)); (try have l1_w_0 : w.heap.size < w1.heap.size := by omega); (try (have kq := cellAt hb1 (w.heap.size + 1) (by go_size); have k1_w_1_0 := kq 0; have k1_w_1_1 := kq 1; have k1_w_1_2 := kq 2; have k1_w_1_3 := kq 3; clear kq; have f1_w_1 := frozAt hb1 (w.heap.size + 1) (by go_size); simp [go_sem, *] at k1_w_1_0 k1_w_1_1 k1_w_1_2 k1_w_1_3 f1_w_1)); (try have l1_w_1 : w.heap.size + 1 < w1.heap.size := by omega)) | (have _t := tok2; go_at_call 29; (with_reducible refine ((T2 _ (by repeat' first | (with_reducible first | apply zRf | assumption | apply zDn | apply zDr | apply zAl | apply zSt | refine zVi (by assumption) ?_ ?_) | go_size))).mono ?_); rintro e w2 ⟨rfl, hb2⟩; clear tok2 _t; have hz2 := hb2.size; (try simp only [World.size_alloc, World.size_setCell, World.size_drew, World.size_drewN'] at hz2); (try (have kq := cellAt hb2 (w.heap.size) (by go_size); have k2_w_0_0 := kq 0; have k2_w_0_1 := kq 1; clear kq; have f2_w_0 := frozAt hb2 (w.heap.size) (by go_size); simp [go_sem, *] at k2_w_0_0 k2_w_0_1 f2_w_0)); (try have l2_w_0 : w.heap.size < w2.heap.size := by omega); (try (have kq := cellAt hb2 (w.heap.size + 1) (by go_size); have k2_w_1_0 := kq 0; have k2_w_1_1 := kq 1; have k2_w_1_2 := kq 2; have k2_w_1_3 := kq 3; clear kq; have f2_w_1 := frozAt hb2 (w.heap.size + 1) (by go_size); simp [go_sem, *] at k2_w_1_0 k2_w_1_1 k2_w_1_2 k2_w_1_3 f2_w_1)); (try have l2_w_1 : w.heap.size + 1 < w2.heap.size := by omega); (try clear k1_w_0_0 k1_w_0_1 f1_w_0); (try clear l1_w_0); (try clear k1_w_1_0 k1_w_1_1 k1_w_1_2 k1_w_1_3 f1_w_1); (try clear l1_w_1)))
    go_ret
    refine ⟨rfl, ?_⟩
    repeat' first | (with_reducible first | apply zRf | assumption | apply zDn | apply zDr | apply zAl | apply zSt | refine zVi (by assumption) ?_ ?_) | go_size
def DsRel (w : World) (A B : Int) (m : Nat) (r : Option (List (Int × Int))) (nv ov : Value) (wr : World) : Prop := ∃ (k : Nat) (zs : List (Int × Int)) (p q : Int) (b : Bool) (a : Option Addr) (n c : Nat) (b2 : Bool) (a2 : Option Addr) (n2 c2 : Nat),
  nv = .int .i64 ((m : Int) - k) ∧ k ≤ m ∧ zs.length = k ∧ r = (dlV (4 * absI (coV A B)) A B (m - k) p q).map (zs ++ ·) ∧ raB p q = true ∧ Wx wr b a n c p ∧ Wx wr b2 a2 n2 c2 q ∧ RowRt wr (w.heap.size + 1 + 1) 37 ov zs ∧
  wr.heap[w.heap.size]? = some (.cells #[.int .i64 A, .int .i64 B] 33 (0, 0)) ∧ wr.heap[w.heap.size + 1]? = some (.cells #[.bool b, .slice a n c, .bool b2, .slice a2 n2 c2] 37 (0, 0)) ∧ Below w.heap.size w wr
/-- a contract whose values are a row of ratios in memory, and a flag -/
def NewRd (w : World) (r : Option (List (Int × Int))) (e : Ending) (w' : World) : Prop := ∃ v B, e = .returned (.tuple #[v, .bool (dlR r).2]) ∧ RowRt w' B 37 v (dlR r).1 ∧ Below w.heap.size w w'
theorem sDoublingsOf_any (A B : Int) (b b2 : Bool) (a a2 : Option Addr) (n c n2 c2 : Nat) (zs ys : List Int) (m : Int) (w : World) (hs : Sx w a n c zs) (hs2 : Sx w a2 n2 c2 ys) :
    Calls Try.prog 5 #[.agg #[.int .i64 A, .int .i64 B], .agg #[.bool b, .slice a n c, .bool b2, .slice a2 n2 c2], .int .i64 m] w (NewRd w (doV A B b zs b2 ys m)) := by
  have T1 : ∀ W, Below w.heap.size w W → Calls Try.prog 15 #[.agg #[.int .i64 A, .int .i64 B], .agg #[.bool b, .slice a n c, .bool b2, .slice a2 n2 c2]] W fun e w' => e = .returned (.bool (cvB A B && rgB b zs b2 ys)) ∧ Below W.heap.size W w' := fun W hW => xdAsked_any A B b b2 a a2 n c n2 c2 zs ys W (hs.below hW) (hs2.below hW)
  have T3 := fun W : World => Lib.hid (l1In_any m 1 5 W)
  cases e1 : (cvB A B && rgB b zs b2 ys)
  · have HN := Lib.hid (doV_no (A := A) (B := B) (b := b) (zs := zs) (b2 := b2) (ys := ys) (m := m) (by cases h1 : cvB A B; exact .inl rfl; rw [h1] at e1; exact .inr (.inl (by simpa using e1))))
    simp only [e1] at T1
    clear e1 hs hs2
    have tok1 : True := trivial
    have tok2 : True := trivial
    have tok3 : True := trivial
    have tok4 : True := trivial
    go_enter Try.func5, Try.ntmps5
    go_wp2_with (first | (have _t := tok1; go_at_call 15; (with_reducible refine ((T1 _ (by repeat' first | (with_reducible first | apply zRf | assumption | apply zDn | apply zDr | apply zAl | apply zSt | refine zVi (by assumption) ?_ ?_) | go_size))).mono ?_); rintro e w1 ⟨rfl, hb1⟩; clear tok1 _t; have hz1 := hb1.size; (try simp only [World.size_alloc, World.size_setCell, World.size_drew, World.size_drewN'] at hz1); (try (have kq := cellAt hb1 (w.heap.size) (by go_size); have k1_w_0_0 := kq 0; have k1_w_0_1 := kq 1; clear kq; have f1_w_0 := frozAt hb1 (w.heap.size) (by go_size); simp [go_sem, *] at k1_w_0_0 k1_w_0_1 f1_w_0)); (try have l1_w_0 : w.heap.size < w1.heap.size := by omega); (try (have kq := cellAt hb1 (w.heap.size + 1) (by go_size); have k1_w_1_0 := kq 0; have k1_w_1_1 := kq 1; have k1_w_1_2 := kq 2; have k1_w_1_3 := kq 3; clear kq; have f1_w_1 := frozAt hb1 (w.heap.size + 1) (by go_size); simp [go_sem, *] at k1_w_1_0 k1_w_1_1 k1_w_1_2 k1_w_1_3 f1_w_1)); (try have l1_w_1 : w.heap.size + 1 < w1.heap.size := by omega)) | (go_at_call 16; (with_reducible refine ((T3 _).out).mono ?_); rintro e w' ⟨rfl, rfl⟩))
    go_ret2
    refine ⟨.slice none 0 0, 0, by rw [HN.out]; rfl, by rw [HN.out]; exact RowRt.nil _ _ _, ?_⟩
    repeat' first | (with_reducible first | apply zRf | assumption | apply zDn | apply zDr | apply zAl | apply zSt | refine zVi (by assumption) ?_ ?_) | go_size
  cases e3 : inB m 1 5
  · have HN := Lib.hid (doV_no (A := A) (B := B) (b := b) (zs := zs) (b2 := b2) (ys := ys) (m := m) (.inr (.inr e3)))
    simp only [e1] at T1
    simp only [e3] at T3
    clear e1 e3 hs hs2
    have tok1 : True := trivial
    have tok2 : True := trivial
    have tok3 : True := trivial
    have tok4 : True := trivial
    go_enter Try.func5, Try.ntmps5
    go_wp2_with (first | (have _t := tok1; go_at_call 15; (with_reducible refine ((T1 _ (by repeat' first | (with_reducible first | apply zRf | assumption | apply zDn | apply zDr | apply zAl | apply zSt | refine zVi (by assumption) ?_ ?_) | go_size))).mono ?_); rintro e w1 ⟨rfl, hb1⟩; clear tok1 _t; have hz1 := hb1.size; (try simp only [World.size_alloc, World.size_setCell, World.size_drew, World.size_drewN'] at hz1); (try (have kq := cellAt hb1 (w.heap.size) (by go_size); have k1_w_0_0 := kq 0; have k1_w_0_1 := kq 1; clear kq; have f1_w_0 := frozAt hb1 (w.heap.size) (by go_size); simp [go_sem, *] at k1_w_0_0 k1_w_0_1 f1_w_0)); (try have l1_w_0 : w.heap.size < w1.heap.size := by omega); (try (have kq := cellAt hb1 (w.heap.size + 1) (by go_size); have k1_w_1_0 := kq 0; have k1_w_1_1 := kq 1; have k1_w_1_2 := kq 2; have k1_w_1_3 := kq 3; clear kq; have f1_w_1 := frozAt hb1 (w.heap.size + 1) (by go_size); simp [go_sem, *] at k1_w_1_0 k1_w_1_1 k1_w_1_2 k1_w_1_3 f1_w_1)); (try have l1_w_1 : w.heap.size + 1 < w1.heap.size := by omega)) | (go_at_call 16; (with_reducible refine ((T3 _).out).mono ?_); rintro e w' ⟨rfl, rfl⟩))
    go_ret2
    refine ⟨.slice none 0 0, 0, by rw [HN.out]; rfl, by rw [HN.out]; exact RowRt.nil _ _ _, ?_⟩
    repeat' first | (with_reducible first | apply zRf | assumption | apply zDn | apply zDr | apply zAl | apply zSt | refine zVi (by assumption) ?_ ?_) | go_size
  have e12 := e1
  simp only [Bool.and_eq_true] at e12
  obtain ⟨hA, hBB, hcv⟩ := cvB_out e12.1
  obtain ⟨hx, hz, hra⟩ := rg_wx hs hs2 e12.2
  have hm15 := inB_iff.1 e3
  obtain ⟨mm, rfl⟩ : ∃ k : Nat, m = k := ⟨m.toNat, by omega⟩
  rw [doV_yes e12.1 e12.2 e3, Int.toNat_natCast]
  simp only [e1] at T1
  simp only [e3] at T3
  generalize mkW b (val zs) = x at *
  generalize mkW b2 (val ys) = z at *
  clear e1 e12 e3 hs hs2
  obtain ⟨r, hr⟩ : ∃ r, dlV (4 * absI (coV A B)) A B mm x z = r := ⟨_, rfl⟩
  rw [hr]
  have HR0 := Lib.hid (show r = (dlV (4 * absI (coV A B)) A B (mm - 0) x z).map (([] : List (Int × Int)) ++ ·) by rw [Nat.sub_zero, hr]; exact dl_start r)
  clear hr
  obtain ⟨i0, hi, iz0, iz1, iz2⟩ := info_parts infoRatioW
  have tok1 : True := trivial
  have tok2 : True := trivial
  have tok3 : True := trivial
  have tok4 : True := trivial
  have tok5 : True := trivial
  have tok6 : True := trivial
  go_enter Try.func5, Try.ntmps5
  go_wp2_with (first | (have _t := tok1; go_at_call 15; (with_reducible refine ((T1 _ (by repeat' first | (with_reducible first | apply zRf | assumption | apply zDn | apply zDr | apply zAl | apply zSt | refine zVi (by assumption) ?_ ?_) | go_size))).mono ?_); rintro e w1 ⟨rfl, hb1⟩; clear tok1 _t; have hz1 := hb1.size; (try simp only [World.size_alloc, World.size_setCell, World.size_drew, World.size_drewN'] at hz1); (try (have kq := cellAt hb1 (w.heap.size) (by go_size); have k1_w_0_0 := kq 0; have k1_w_0_1 := kq 1; clear kq; have f1_w_0 := frozAt hb1 (w.heap.size) (by go_size); simp [go_sem, *] at k1_w_0_0 k1_w_0_1 f1_w_0)); (try have l1_w_0 : w.heap.size < w1.heap.size := by omega); (try (have kq := cellAt hb1 (w.heap.size + 1) (by go_size); have k1_w_1_0 := kq 0; have k1_w_1_1 := kq 1; have k1_w_1_2 := kq 2; have k1_w_1_3 := kq 3; clear kq; have f1_w_1 := frozAt hb1 (w.heap.size + 1) (by go_size); simp [go_sem, *] at k1_w_1_0 k1_w_1_1 k1_w_1_2 k1_w_1_3 f1_w_1)); (try have l1_w_1 : w.heap.size + 1 < w1.heap.size := by omega)) | (go_at_call 16; (with_reducible refine ((T3 _).out).mono ?_); rintro e w' ⟨rfl, rfl⟩))
  go_loopw [2, 8] (fun nv ov wr => DsRel w A B mm r nv ov wr) (fun nv _ _ => (intOf nv).toNat)
  case atStart =>
    have HC1 := (hb1.block (w.heap.size) (by simp; omega)).trans (bx_old (heap_alloc_new w (.cells #[.int .i64 A, .int .i64 B] 33)) (.cells #[.bool b, .slice a n c, .bool b2, .slice a2 n2 c2] 37))
    have HR1 := (hb1.block (w.heap.size + 1) (by simp)).trans (bx_new (X := .cells #[.bool b, .slice a n c, .bool b2, .slice a2 n2 c2] 37) (by simp))
    exact ⟨0, [], x, z, b, a, n, c, b2, a2, n2, c2, by simp, Nat.zero_le _, rfl, HR0.out, hra, hx.below (by repeat' first | (with_reducible first | apply zRf | assumption | apply zDn | apply zDr | apply zAl | apply zSt | refine zVi (by assumption) ?_ ?_) | go_size), hz.below (by repeat' first | (with_reducible first | apply zRf | assumption | apply zDn | apply zDr | apply zAl | apply zSt | refine zVi (by assumption) ?_ ?_) | go_size), RowRt.nil _ _ _, HC1, HR1, (by repeat' first | (with_reducible first | apply zRf | assumption | apply zDn | apply zDr | apply zAl | apply zSt | refine zVi (by assumption) ?_ ?_) | go_size)⟩
  case round =>
    have hm5 : mm ≤ 5 := by omega
    clear hx hz hra HR0 hb1 T1 T3 hm15
    obtain ⟨k, zs, p, q, b, a, n, c, b2, a2, n2, c2, rfl, hk, hl, hpl, hra, ux, uz, hrow, hC, hRR, hbw⟩ := hrel
    have HP := Lib.hid hpl
    have HL := Lib.hid hl
    have HOW := Lib.hid hrow
    clear hpl hl
    by_cases hlt : k < mm
    · have hlt2 : 0 < (mm : Int) - k := by omega
      have hrb := raB_bd hra
      obtain ⟨DB, hDB⟩ : ∃ v, dbl (4 * absI (coV A B)) A B p q = v := ⟨_, rfl⟩
      have TD : ∀ W, Wx W b a n c p → Wx W b2 a2 n2 c2 q → Calls Try.prog 17 #[.agg #[.int .i64 A, .int .i64 B], .agg #[.bool b, .slice a n c, .bool b2, .slice a2 n2 c2]] W (NewRR W DB.1 DB.2.1 DB.2.2) := fun W g1 g2 => hDB ▸ xdDouble_any A B p q b b2 a a2 n c n2 c2 W hA hBB hcv g1 g2 hrb.1 hrb.2.1
      have hdc := dbl_cases (4 * absI (coV A B)) A B p q
      rw [hDB] at hdc
      have HD := Lib.hid hDB
      clear hDB hrb hra
      have kC0 : wr.cell? ⟨w.heap.size, 0, none⟩ = some (.int .i64 A) := blk_cell hC 0
      have kC1 : wr.cell? ⟨w.heap.size, 1, none⟩ = some (.int .i64 B) := blk_cell hC 1
      have fC := fun o => blk_frozen hC o
      have lC := blk_lt' hC
      have kR0 : wr.cell? ⟨w.heap.size + 1, 0, none⟩ = some (.bool b) := blk_cell hRR 0
      have kR1 : wr.cell? ⟨w.heap.size + 1, 1, none⟩ = some (.slice a n c) := blk_cell hRR 1
      have kR2 : wr.cell? ⟨w.heap.size + 1, 2, none⟩ = some (.bool b2) := blk_cell hRR 2
      have kR3 : wr.cell? ⟨w.heap.size + 1, 3, none⟩ = some (.slice a2 n2 c2) := blk_cell hRR 3
      have fR := fun o => blk_frozen hRR o
      have lR := blk_lt' hRR
      have HC0 := hC
      have HR0 := hRR
      go_upto_region 6 with (fail)
      refine chk (fun W => Below w.heap.size w W ∧ W.heap[w.heap.size]? = some (.cells #[.int .i64 A, .int .i64 B] 33 (0, 0)) ∧ W.heap[w.heap.size + 1]? = some (.cells #[.bool b, .slice a n c, .bool b2, .slice a2 n2 c2] 37 (0, 0)) ∧ Wx W b a n c p ∧ Wx W b2 a2 n2 c2 q ∧ Below wr.heap.size wr W) (by refine ⟨?_, ?_, ?_, ?_, ?_, ?_⟩ <;> (repeat' first | (with_reducible first | assumption | (apply Ne.symm; assumption) | apply Nat.le_refl | apply Nat.le_add_right | apply zL | apply zRf | apply Wx.box | apply Wx.box4 | apply zWa | apply Wx.drew | apply zWn | apply bx_drew | apply bx_drewN | apply bx_set3 | apply bx_set2 | apply bx_set4 | apply bx_set1) | ((with_reducible apply bx_new); (focus (go_size; done))) | (with_reducible first | (refine (blkVia (by assumption) ?_).trans ?_) | (refine Wx.below ?_ (by assumption)) | apply OwS.setLow | apply OwS.alloc | apply OwS.drew | apply OwS.drewN | (refine OwS.low (by assumption) ?_) | (refine OwS.below ?_ (by assumption)) | apply OwnW.setLow | apply zOl | apply zFa | apply zDn | apply zDr | apply zAl | apply zSt | refine zVi (by assumption) ?_ ?_) | go_size | omega)) ?_
      try clear ux
      try clear uz
      rintro w2 ⟨hB2, H_C_2, H_R_2, ux', uz', hbr⟩
      obtain ⟨k_C_2_0, k_C_2_1, f_C_2, l_C_2⟩ := bk2 H_C_2
      replace H_C_2 := Lib.hid H_C_2
      obtain ⟨k_R_2_0, k_R_2_1, k_R_2_2, k_R_2_3, f_R_2, l_R_2⟩ := bk4 H_R_2
      replace H_R_2 := Lib.hid H_R_2
      have ux := ux'
      clear ux'
      have uz := uz'
      clear uz'
      clear HC0 HR0 hC hRR kC0 kC1 fC kR0 kR1 kR2 kR3 fR lC lR
      rcases hdc with rfl | ⟨p1, q1, rfl, hq1⟩
      · have HP2 : r = (dlV (4 * absI (coV A B)) A B (mm - (k + 1) + 1) p q).map (zs ++ ·) := by rw [show mm - (k + 1) + 1 = mm - k by omega]; exact HP.out
        have HN := Lib.hid (dl_fail HP2 HD.out)
        clear HP2
        go_upto_region 7 with (first | (have _t := tok4; go_at_call 17; (with_reducible refine ((TD _ (ux.below (by repeat' first | (with_reducible first | apply zRf | assumption | apply zDn | apply zDr | apply zAl | apply zSt | refine zVi (by assumption) ?_ ?_) | go_size)) (uz.below (by repeat' first | (with_reducible first | apply zRf | assumption | apply zDn | apply zDr | apply zAl | apply zSt | refine zVi (by assumption) ?_ ?_) | go_size)))).mono ?_); rintro e w4 ⟨b6, a6, n6, c6, b7, a7, n7, c7, rfl, vx, vz, f6, f7, hb4⟩; clear tok4 _t; have hz4 := hb4.size; (try simp only [World.size_alloc, World.size_setCell, World.size_drew, World.size_drewN'] at hz4); (try (have kq := cellAt hb4 (w.heap.size) (by go_size); have k4_w_0_0 := kq 0; have k4_w_0_1 := kq 1; clear kq; have f4_w_0 := frozAt hb4 (w.heap.size) (by go_size); simp [go_sem, *] at k4_w_0_0 k4_w_0_1 f4_w_0)); (try have l4_w_0 : w.heap.size < w4.heap.size := by omega); (try (have kq := cellAt hb4 (w.heap.size + 1) (by go_size); have k4_w_1_0 := kq 0; have k4_w_1_1 := kq 1; have k4_w_1_2 := kq 2; have k4_w_1_3 := kq 3; clear kq; have f4_w_1 := frozAt hb4 (w.heap.size + 1) (by go_size); simp [go_sem, *] at k4_w_1_0 k4_w_1_1 k4_w_1_2 k4_w_1_3 f4_w_1)); (try have l4_w_1 : w.heap.size + 1 < w4.heap.size := by omega); (try clear k1_w_0_0 k1_w_0_1 f1_w_0); (try clear l1_w_0); (try clear k1_w_1_0 k1_w_1_1 k1_w_1_2 k1_w_1_3 f1_w_1); (try clear l1_w_1); (try clear k2_w_0_0 k2_w_0_1 f2_w_0); (try clear l2_w_0); (try clear k2_w_1_0 k2_w_1_1 k2_w_1_2 k2_w_1_3 f2_w_1); (try clear l2_w_1); (try clear k3_w_0_0 k3_w_0_1 f3_w_0); (try clear l3_w_0); (try clear k3_w_1_0 k3_w_1_1 k3_w_1_2 k3_w_1_3 f3_w_1); (try clear l3_w_1)))
        have H_C_4 := (hb4.block (w.heap.size) (blk_lt' H_C_2.out)).trans H_C_2.out
        clear k_C_2_0 k_C_2_1 f_C_2 H_C_2
        obtain ⟨k_C_4_0, k_C_4_1, f_C_4, l_C_4⟩ := bk2 H_C_4
        replace H_C_4 := Lib.hid H_C_4
        have H_R_4 := (hb4.block (w.heap.size + 1) (blk_lt' H_R_2.out)).trans H_R_2.out
        clear k_R_2_0 k_R_2_1 k_R_2_2 k_R_2_3 f_R_2 H_R_2
        obtain ⟨k_R_4_0, k_R_4_1, k_R_4_2, k_R_4_3, f_R_4, l_R_4⟩ := bk4 H_R_4
        replace H_R_4 := Lib.hid H_R_4
        replace ux := ux.below hb4
        replace uz := uz.below hb4
        have hB4 : Below w.heap.size w w4 := below_via hb4 (by assumption) (by first | exact hB2.size | go_size)
        go_wp2_with fail
        go_ret2
        refine ⟨.slice none 0 0, 0, by rw [HN.out]; rfl, by rw [HN.out]; exact RowRt.nil _ _ _, ?_⟩
        repeat' first | (with_reducible first | apply zRf | assumption | apply zDn | apply zDr | apply zAl | apply zSt | refine zVi (by assumption) ?_ ?_) | go_size
      · have HP2 : r = (dlV (4 * absI (coV A B)) A B (mm - (k + 1) + 1) p q).map (zs ++ ·) := by rw [show mm - (k + 1) + 1 = mm - k by omega]; exact HP.out
        have HN := Lib.hid (dl_step HP2 HD.out)
        clear HP2
        go_upto_region 7 with (first | (have _t := tok4; go_at_call 17; (with_reducible refine ((TD _ (ux.below (by repeat' first | (with_reducible first | apply zRf | assumption | apply zDn | apply zDr | apply zAl | apply zSt | refine zVi (by assumption) ?_ ?_) | go_size)) (uz.below (by repeat' first | (with_reducible first | apply zRf | assumption | apply zDn | apply zDr | apply zAl | apply zSt | refine zVi (by assumption) ?_ ?_) | go_size)))).mono ?_); rintro e w4 ⟨b6, a6, n6, c6, b7, a7, n7, c7, rfl, vx, vz, f6, f7, hb4⟩; clear tok4 _t; have hz4 := hb4.size; (try simp only [World.size_alloc, World.size_setCell, World.size_drew, World.size_drewN'] at hz4); (try (have kq := cellAt hb4 (w.heap.size) (by go_size); have k4_w_0_0 := kq 0; have k4_w_0_1 := kq 1; clear kq; have f4_w_0 := frozAt hb4 (w.heap.size) (by go_size); simp [go_sem, *] at k4_w_0_0 k4_w_0_1 f4_w_0)); (try have l4_w_0 : w.heap.size < w4.heap.size := by omega); (try (have kq := cellAt hb4 (w.heap.size + 1) (by go_size); have k4_w_1_0 := kq 0; have k4_w_1_1 := kq 1; have k4_w_1_2 := kq 2; have k4_w_1_3 := kq 3; clear kq; have f4_w_1 := frozAt hb4 (w.heap.size + 1) (by go_size); simp [go_sem, *] at k4_w_1_0 k4_w_1_1 k4_w_1_2 k4_w_1_3 f4_w_1)); (try have l4_w_1 : w.heap.size + 1 < w4.heap.size := by omega); (try clear k1_w_0_0 k1_w_0_1 f1_w_0); (try clear l1_w_0); (try clear k1_w_1_0 k1_w_1_1 k1_w_1_2 k1_w_1_3 f1_w_1); (try clear l1_w_1); (try clear k2_w_0_0 k2_w_0_1 f2_w_0); (try clear l2_w_0); (try clear k2_w_1_0 k2_w_1_1 k2_w_1_2 k2_w_1_3 f2_w_1); (try clear l2_w_1); (try clear k3_w_0_0 k3_w_0_1 f3_w_0); (try clear l3_w_0); (try clear k3_w_1_0 k3_w_1_1 k3_w_1_2 k3_w_1_3 f3_w_1); (try clear l3_w_1)))
        have H_C_4 := (hb4.block (w.heap.size) (blk_lt' H_C_2.out)).trans H_C_2.out
        clear k_C_2_0 k_C_2_1 f_C_2 H_C_2
        obtain ⟨k_C_4_0, k_C_4_1, f_C_4, l_C_4⟩ := bk2 H_C_4
        replace H_C_4 := Lib.hid H_C_4
        have H_R_4 := (hb4.block (w.heap.size + 1) (blk_lt' H_R_2.out)).trans H_R_2.out
        clear k_R_2_0 k_R_2_1 k_R_2_2 k_R_2_3 f_R_2 H_R_2
        obtain ⟨k_R_4_0, k_R_4_1, k_R_4_2, k_R_4_3, f_R_4, l_R_4⟩ := bk4 H_R_4
        replace H_R_4 := Lib.hid H_R_4
        replace ux := ux.below hb4
        replace uz := uz.below hb4
        have hB4 : Below w.heap.size w w4 := below_via hb4 (by assumption) (by first | exact hB2.size | go_size)
        have hbr4 := below_via hb4 hbr (by have := hbr.size; omega)
        have hs4 := hbr4.size
        have hs24 := hbr.size
        replace H_C_4 := H_C_4.out
        replace H_R_4 := H_R_4.out
        refine chk (fun W => Below w.heap.size w W ∧ W.heap[w.heap.size]? = some (.cells #[.int .i64 A, .int .i64 B] 33 (0, 0)) ∧ W.heap[w.heap.size + 1]? = some (.cells #[.bool b, .slice a n c, .bool b2, .slice a2 n2 c2] 37 (0, 0)) ∧ W.heap[w4.heap.size]? = some (.cells #[.bool b6, .slice a6 n6 c6, .bool b7, .slice a7 n7 c7] 37 (0, 0)) ∧ Wx W b6 a6 n6 c6 p1 ∧ Wx W b7 a7 n7 c7 q1 ∧ Below w4.heap.size w4 W ∧ Below wr.heap.size wr W) (by refine ⟨?_, ?_, ?_, ?_, ?_, ?_, ?_, ?_⟩ <;> (repeat' first | (with_reducible first | assumption | (apply Ne.symm; assumption) | apply Nat.le_refl | apply Nat.le_add_right | apply zL | apply zRf | apply Wx.box | apply Wx.box4 | apply zWa | apply Wx.drew | apply zWn | apply bx_drew | apply bx_drewN | apply bx_set3 | apply bx_set2 | apply bx_set4 | apply bx_set1) | ((with_reducible apply bx_new); (focus (go_size; done))) | (with_reducible first | (refine (blkVia (by assumption) ?_).trans ?_) | (refine Wx.below ?_ (by assumption)) | apply OwS.setLow | apply OwS.alloc | apply OwS.drew | apply OwS.drewN | (refine OwS.low (by assumption) ?_) | (refine OwS.below ?_ (by assumption)) | apply OwnW.setLow | apply zOl | apply zFa | apply zDn | apply zDr | apply zAl | apply zSt | refine zVi (by assumption) ?_ ?_) | go_size | omega)) ?_
        try clear vx
        try clear vz
        clear k_C_4_0 k_C_4_1 f_C_4 H_C_4
        clear k_R_4_0 k_R_4_1 k_R_4_2 k_R_4_3 f_R_4 H_R_4
        clear hB4
        rintro w5 ⟨hB5, H_C_5, H_R_5, H_T_5, vx', vz', hb45, hbr5⟩
        obtain ⟨k_C_5_0, k_C_5_1, f_C_5, l_C_5⟩ := bk2 H_C_5
        replace H_C_5 := Lib.hid H_C_5
        obtain ⟨k_R_5_0, k_R_5_1, k_R_5_2, k_R_5_3, f_R_5, l_R_5⟩ := bk4 H_R_5
        replace H_R_5 := Lib.hid H_R_5
        obtain ⟨k_T_5_0, k_T_5_1, k_T_5_2, k_T_5_3, f_T_5, l_T_5⟩ := bk4 H_T_5
        replace H_T_5 := Lib.hid H_T_5
        have vx := vx'
        clear vx'
        have vz := vz'
        clear vz'
        obtain ⟨xs, ho, hes⟩ := HOW.out.below hbr5
        have hol := ho.1
        rw [HL.out] at ho
        have HO := Lib.hid ho
        have HE := Lib.hid hes
        have HXL := Lib.hid hol
        clear ho hes hol TD
        have hne : ∀ i, (i < w.heap.size + 1 + 1 ∨ wr.heap.size ≤ i) → some i ≠ u8.ownBlock := fun i hi e => by
          obtain ⟨xs0, ho0, -⟩ := HOW.out
          have := World.ownsRow.lt ho0 _ e.symm
          omega
        have F6 : farR a6 n6 u8 := fun _ A e h => hne A.block (.inr (by have := f6 A e; omega)) h.symm
        have F7 : farR a7 n7 u8 := fun _ A e h => hne A.block (.inr (by have := f7 A e; omega)) h.symm
        clear f6 f7
        go_upto_region 10 with (first | (at_builtin; refine wpList_append_own_at _ rfl _ _ 30 rfl (w.heap.size + 1 + 1) 37 i0 (.agg #[.bool false, .slice none 0 0, .bool false, .slice none 0 0]) 4 64 Try.underlying30 hi iz0 iz1 iz2 rfl (by decide) u8 _ _ rfl (ownsRow_below2 HO.out ((Below.refl _ _).alloc (Nat.le_refl _) _)) ⟨w5.heap.size, 0, none⟩ 1 1 [.bool b6, .slice a6 n6 c6, .bool b7, .slice a7 n7 c7] rfl rfl (cells_new _ _ _) (by simp [Value.oneCell']) (by unfold maxLen; omega) (by omega) (by simp; omega) ?_; intro v1 w6 hv1 hg1 _ hat))
        have hsz5 := hb45.size
        have hl5 : ∀ i, i < w5.heap.size → i < (w5.alloc (Obj.cells #[.bool b6, .slice a6 n6 c6, .bool b7, .slice a7 n7 c7] 37)).heap.size := fun i hi => by simp; omega
        have hC6 := (hg1.block _ (hl5 _ l_C_5) (hne _ (by omega))).trans (bx_old H_C_5.out _)
        have hR6 := (hg1.block _ (hl5 _ l_R_5) (hne _ (by omega))).trans (bx_old H_R_5.out _)
        have hT6 := (hg1.block _ (hl5 _ l_T_5) (hne _ (by omega))).trans (bx_old H_T_5.out _)
        have hB6 : Below w.heap.size w w6 := (hB5.alloc (by omega) _).grown hg1 (by simp; omega) (fun k h => by
          rcases Nat.lt_or_ge k (w.heap.size + 1 + 1) with h' | h'
          · exact absurd h.symm (hne k (.inl h'))
          · omega)
        have hrow6 : RowRt w6 (w.heap.size + 1 + 1) 37 v1 (zs ++ [(p1, q1)]) := ⟨_, by rw [show (zs ++ [(p1, q1)]).length = k + 1 by simp [HL.out]]; exact hv1, HE.out.push HXL.out vx vz F6 F7 hg1 hat⟩
        have hx6 : Wx w6 b6 a6 n6 c6 p1 := (vx.alloc _).grown hg1 (fun h0 A e => F6 h0 A e)
        have hz6 : Wx w6 b7 a7 n7 c7 q1 := (vz.alloc _).grown hg1 (fun h0 A e => F7 h0 A e)
        replace H_C_5 := H_C_5.out
        replace H_R_5 := H_R_5.out
        replace H_T_5 := H_T_5.out
        refine chk (fun W => Below w.heap.size w W ∧ W.heap[w.heap.size]? = some (.cells #[.int .i64 A, .int .i64 B] 33 (0, 0)) ∧ W.heap[w.heap.size + 1]? = some (.cells #[.bool b, .slice a n c, .bool b2, .slice a2 n2 c2] 37 (0, 0)) ∧ W.heap[w4.heap.size]? = some (.cells #[.bool b6, .slice a6 n6 c6, .bool b7, .slice a7 n7 c7] 37 (0, 0)) ∧ w6 = W) (by refine ⟨?_, ?_, ?_, ?_, ?_⟩ <;> (repeat' first | (with_reducible first | assumption | (apply Ne.symm; assumption) | apply Nat.le_refl | apply Nat.le_add_right | apply zL | apply zRf | apply Wx.box | apply Wx.box4 | apply zWa | apply Wx.drew | apply zWn | apply bx_drew | apply bx_drewN | apply bx_set3 | apply bx_set2 | apply bx_set4 | apply bx_set1) | ((with_reducible apply bx_new); (focus (go_size; done))) | (with_reducible first | (refine (blkVia (by assumption) ?_).trans ?_) | (refine Wx.below ?_ (by assumption)) | apply OwS.setLow | apply OwS.alloc | apply OwS.drew | apply OwS.drewN | (refine OwS.low (by assumption) ?_) | (refine OwS.below ?_ (by assumption)) | apply OwnW.setLow | apply zOl | apply zFa | apply zDn | apply zDr | apply zAl | apply zSt | refine zVi (by assumption) ?_ ?_) | go_size | omega)) ?_
        clear k_C_5_0 k_C_5_1 f_C_5 H_C_5
        clear k_R_5_0 k_R_5_1 k_R_5_2 k_R_5_3 f_R_5 H_R_5
        clear k_T_5_0 k_T_5_1 k_T_5_2 k_T_5_3 f_T_5 H_T_5
        clear hB5
        rintro w6 ⟨hB6, H_C_6, H_R_6, H_T_6, HE6⟩
        obtain ⟨k_C_6_0, k_C_6_1, f_C_6, l_C_6⟩ := bk2 H_C_6
        replace H_C_6 := Lib.hid H_C_6
        obtain ⟨k_R_6_0, k_R_6_1, k_R_6_2, k_R_6_3, f_R_6, l_R_6⟩ := bk4 H_R_6
        replace H_R_6 := Lib.hid H_R_6
        obtain ⟨k_T_6_0, k_T_6_1, k_T_6_2, k_T_6_3, f_T_6, l_T_6⟩ := bk4 H_T_6
        replace H_T_6 := Lib.hid H_T_6
        subst HE6
        have hRT : w.heap.size + 1 ≠ w4.heap.size := by omega
        have HC6 := H_C_6.out
        have HR6 := H_R_6.out
        clear vx vz
        go_wp2_with fail
        go_roundw
        case rel =>
          refine ⟨k + 1, zs ++ [(p1, q1)], p1, q1, b6, a6, n6, c6, b7, a7, n7, c7, by congr 1; omega, by omega, by simp [HL.out], HN.out, hq1, hx6.only HR6 (noInt4 _ _ _ _ _ _ _ _) ?_ ?_, hz6.only HR6 (noInt4 _ _ _ _ _ _ _ _) ?_ ?_, hrow6.only (by omega) HR6 (noInt4 _ _ _ _ _ _ _ _) ?_ ?_, ?_, ?_, ?_⟩
          · simp [World.setCell]
          · exact fun i hi => (bx_far hi).trans ((bx_far hi).trans ((bx_far hi).trans (bx_far hi)))
          · simp [World.setCell]
          · exact fun i hi => (bx_far hi).trans ((bx_far hi).trans ((bx_far hi).trans (bx_far hi)))
          · simp [World.setCell]
          · exact fun i hi => (bx_far hi).trans ((bx_far hi).trans ((bx_far hi).trans (bx_far hi)))
          · (repeat' first | (with_reducible first | assumption | (apply Ne.symm; assumption) | apply Nat.le_refl | apply Nat.le_add_right | apply zL | apply zRf | apply Wx.box | apply Wx.box4 | apply zWa | apply Wx.drew | apply zWn | apply bx_drew | apply bx_drewN | apply bx_set3 | apply bx_set2 | apply bx_set4 | apply bx_set1) | ((with_reducible apply bx_new); (focus (go_size; done))) | (with_reducible first | (refine (blkVia (by assumption) ?_).trans ?_) | (refine Wx.below ?_ (by assumption)) | apply OwS.setLow | apply OwS.alloc | apply OwS.drew | apply OwS.drewN | (refine OwS.low (by assumption) ?_) | (refine OwS.below ?_ (by assumption)) | apply OwnW.setLow | apply zOl | apply zFa | apply zDn | apply zDr | apply zAl | apply zSt | refine zVi (by assumption) ?_ ?_) | go_size | omega)
          · exact bx_set4 HR6
          · repeat' first | (with_reducible first | apply zRf | assumption | apply zDn | apply zDr | apply zAl | apply zSt | refine zVi (by assumption) ?_ ?_) | go_size
        case measure => simp [intOf]; omega
    · obtain rfl : k = mm := by omega
      have HP2 : r = (dlV (4 * absI (coV A B)) A B 0 p q).map (zs ++ ·) := by have := HP.out; rwa [Nat.sub_self] at this
      have HN := Lib.hid (dl_end HP2)
      go_wp2_with fail
      go_ret2
      refine ⟨u8, w.heap.size + 1 + 1, by rw [HN.out]; rfl, by rw [HN.out]; exact HOW.out, ?_⟩
      repeat' first | (with_reducible first | apply zRf | assumption | apply zDn | apply zDr | apply zAl | apply zSt | refine zVi (by assumption) ?_ ?_) | go_size
end Go.Proofs.Ytijpfnkhaldfeaa
