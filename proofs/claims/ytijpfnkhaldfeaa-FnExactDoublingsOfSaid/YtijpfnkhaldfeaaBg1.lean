/- Whole numbers in memory: the contracts of cutting off zeros, of copies, of making and turning signs; both sides. -/
import Derived.Test.YtijpfnkhaldfeaaProg
import Derived.Test.YtijpfnkhaldfeaaSl
import Derived.Test.YtijpfnkhaldfeaaPln
import Derived.WalkSpells
import Derived.Lib.SliceRun
namespace Go.Proofs.Ytijpfnkhaldfeaa
open Go.RowKit
set_option linter.unusedVariables false
set_option maxHeartbeats 4000000
set_option maxRecDepth 20000
set_option linter.unusedSimpArgs false
theorem infoInt : (Try.prog.info? 3).map (fun i => (i.zero, i.size, i.bytes)) = some (some (.int .i64 0), 1, 8) := by kernel_rfl

/-- the flag b and the slice are the whole number z -/
structure Wx (W : World) (b : Bool) (a : Option Addr) (n c : Nat) (z : Int) : Prop where
  neg : b = ngB z
  row : Sx W a n c (limbs (ab z))
theorem Wx.below {W W2 : World} {b : Bool} {a : Option Addr} {n c : Nat} {z : Int} (h : Wx W b a n c z) (hb : Below W.heap.size W W2) : Wx W2 b a n c z := ⟨h.neg, h.row.below hb⟩
/-- a contract whose value is a slice of numbers -/
def NewS (w : World) (zs : List Int) (e : Ending) (w' : World) : Prop := ∃ a n c, e = .returned (.slice a n c) ∧ Sx w' a n c zs ∧ Fr w.heap.size a ∧ Below w.heap.size w w'
/-- a contract whose value is a whole number -/
def NewW (w : World) (z : Int) (e : Ending) (w' : World) : Prop := ∃ b a n c, e = .returned (.agg #[.bool b, .slice a n c]) ∧ Wx w' b a n c z ∧ Fr w.heap.size a ∧ Below w.heap.size w w'
theorem clone_any (a : Option Addr) (n c : Nat) (zs : List Int) (w : World) (hs : Sx w a n c zs) (hl : n ≤ 1000000) :
    Calls Try.prog 71 #[.slice a n c] w (NewS w zs) := by
  obtain ⟨i0, hi, hz0, hz1, hz2⟩ := info_parts infoInt
  have hnl := fun (W : World) (a : Option Addr) (n c : Nat) => Lib.run_eql_slice_nil (P := Try.prog) W 24 3 a n c 0 0 Try.underlying24
  cases a with
  | none =>
    have h0 := hs.nil rfl
    have h1 := hs.cap
    have h2 := hs.len
    have : zs = [] := List.length_eq_zero_iff.1 (by omega)
    subst this
    obtain rfl : n = 0 := by omega
    subst h0
    clear hs h1 h2
    go_enter Try.func71, Try.ntmps71
    go_wp2_with fail
    go_ret
    exact ⟨_, _, _, rfl, Sx.none _, (fun A e => by cases e), Below.refl _ _⟩
  | some A =>
    have HO := Lib.hid (World.ownsRow_made w #[] 0 (e := 3) (base := w.heap.size) (size := 1) (Nat.le_refl _) (Nat.zero_le _) (by simp))
    have HS := Lib.hid ((hs.below ((Below.refl _ _).alloc (Nat.le_refl _) (.cells #[] 3))).row.src)
    have HL := Lib.hid hs.len
    clear hs
    go_enter Try.func71, Try.ntmps71
    go_wp2_with (first | (at_builtin; refine wpList_append_own _ rfl _ _ 24 rfl w.heap.size 3 i0 (.int .i64 0) 1 8 Try.underlying24 hi hz0 hz1 hz2 rfl (by decide) _ _ _ rfl HO.out A n c (ints zs) rfl (by simp [ints, HL.out]) HS.out ints_cell (by unfold maxLen; omega) (by omega) (by simp) ?_; intro v1 w1 hv1 hg1 _))
    go_ret
    have hv2 := Sx.of_owns (n := n) (zs := zs) (by simpa using hv1)
    obtain ⟨a1, c1, rfl, h5, h6⟩ := hv2
    refine ⟨_, _, _, rfl, h5, h6, ?_⟩
    refine Below.grown ((Below.refl _ w).alloc (Nat.le_refl _) _) hg1 (by simp) (fun k e => ?_)
    have e2 : some w.heap.size = some k := e
    obtain rfl := Option.some.inj e2
    exact Nat.le_refl _
def lenOf : Value → Nat | .slice _ n _ => n | _ => 0
def TrRel (a : Option Addr) (c n : Nat) (zs : List Int) (v : Value) : Prop := ∃ k : Nat, k ≤ n ∧ v = .slice a k c ∧ ∀ j, k ≤ j → j < n → zs.getD j 0 = 0
theorem tr_next {zs : List Int} {k n : Nat} (h : ∀ j, k ≤ j → j < n → zs.getD j 0 = 0) (hz : zs[k - 1]?.getD 0 = 0) : ∀ j, k - 1 ≤ j → j < n → zs.getD j 0 = 0 := fun j h1 h2 => by
  by_cases hj : k ≤ j
  · exact h j hj h2
  · obtain rfl : j = k - 1 := by omega
    rw [List.getD_eq_getElem?_getD]; exact hz
theorem trimmed_any (neg : Bool) (a : Option Addr) (n c : Nat) (zs : List Int) (w : World) (hs : Sx w a n c zs) (hl : n ≤ 1000000) (hd : Dig zs) :
    Calls Try.prog 65 #[.bool neg, .slice a n c] w (NewW w (mkW neg (val zs))) := by
  have T0 : ∀ (k : Nat) (W : World), k ≤ n → Below w.heap.size w W → Calls Try.prog 71 #[.slice a k c] W (NewS W (zs.take k)) := fun k W hk hW => clone_any a k c (zs.take k) W ((hs.below hW).take hk) (by omega)
  have HR : ∀ (neg : Bool) (k : Nat), k ≤ n → (∀ j, k ≤ j → j < n → zs.getD j 0 = 0) → (k = 0 ∨ zs[k - 1]?.getD 0 ≠ 0) → zs.take k = limbs (ab (mkW neg (val zs))) ∧ ngB (mkW neg (val zs)) = (neg && decide (0 < k)) := fun neg k hk hz h0 => by
    rw [← hs.len] at hk hz
    exact trim_res hd hk hz (by rwa [List.getD_eq_getElem?_getD])
  have HC := hs.cap
  have HH := Lib.hid HR
  clear hd HR
  obtain ⟨nb, hnb⟩ : ∃ nb : Bool, nb = neg := ⟨_, rfl⟩
  cases neg
  all_goals
    have tok1 : True := trivial
    go_enter Try.func65, Try.ntmps65
    go_wp2_with fail
    go_loop [1] (fun v => TrRel a c n zs v) (fun v => lenOf v)
    case atStart => exact ⟨n, Nat.le_refl _, rfl, fun j h1 h2 => by omega⟩
    case round =>
      obtain ⟨k, hk, rfl, hzz⟩ := hrel
      have HZ := Lib.hid hzz
      clear hzz
      by_cases h0 : k = 0
      · subst h0
        have T1 := fun W hW => T0 0 W hk hW
        clear T0
        go_wp2_with (first | (have _t := tok1; go_at_call 71; (with_reducible refine ((T1 _ (by repeat' first | (with_reducible first | apply zRf | assumption | apply zDn | apply zDr | apply zAl | apply zSt | refine zVi (by assumption) ?_ ?_) | go_size))).mono ?_); rintro e w1 ⟨a1, n1, c1, rfl, hv1, hf1, hb1⟩; clear tok1 _t; have hz1 := hb1.size; (try simp only [World.size_alloc, World.size_setCell, World.size_drew, World.size_drewN'] at hz1); (try (have kq := cellAt hb1 (w.heap.size) (by go_size); have k1_w_0_0 := kq 0; have k1_w_0_1 := kq 1; clear kq; have f1_w_0 := frozAt hb1 (w.heap.size) (by go_size); simp [go_sem, *] at k1_w_0_0 k1_w_0_1 f1_w_0)); (try have l1_w_0 : w.heap.size < w1.heap.size := by omega)))
        refine bodyPost_ret (v := .agg #[.bool false, .slice a1 n1 c1]) (by simp [results, Try.results65, go_sem, *]) rfl ⟨_, _, _, _, rfl, ⟨?_, ?_⟩, ?_, ?_⟩
        · rw [(HH.out _ 0 hk HZ.out (.inl rfl)).2]; rfl
        · rw [← (HH.out _ 0 hk HZ.out (.inl rfl)).1]
          (repeat' first | exact hv1 | refine Sx.set ?_ ?_ _ _ | refine Sx.alloc ?_ _ | refine Sx.drew ?_ | (intro A e; have := hf1 A e; (try simp only [World.size_alloc, World.size_setCell, World.size_drew, World.size_drewN'] at this); omega))
        · (intro A e; have := hf1 A e; (try simp only [World.size_alloc, World.size_setCell, World.size_drew, World.size_drewN'] at this); omega)
        repeat' first | (with_reducible first | apply zRf | assumption | apply zDn | apply zDr | apply zAl | apply zSt | refine zVi (by assumption) ?_ ?_) | go_size
      · obtain ⟨b, off, rfl, hb, hcs⟩ := hs.at (by omega)
        have hcell := hcs (k - 1) (by omega)
        clear hcs
        by_cases hzk : zs[k - 1]?.getD 0 = 0
        · have hzk' : (zs[k - 1]?.getD 0 == 0) = true := by simp [hzk]
          have HK := Lib.hid (tr_next HZ.out hzk)
          clear hzk
          generalize zs[k - 1]?.getD 0 = z at *
          go_wp2_with fail
          go_round
          case rel => exact ⟨k - 1, by omega, by simp, HK.out⟩
          case measure => simp [lenOf]; omega
        · have hzk' : (zs[k - 1]?.getD 0 == 0) = false := by simp [hzk]
          have T1 := fun W hW => T0 k W hk hW
          have HK := Lib.hid (fun neg => HH.out neg k hk HZ.out (.inr hzk))
          clear hzk T0
          generalize zs[k - 1]?.getD 0 = z at *
          go_wp2_with (first | (have _t := tok1; go_at_call 71; (with_reducible refine ((T1 _ (by repeat' first | (with_reducible first | apply zRf | assumption | apply zDn | apply zDr | apply zAl | apply zSt | refine zVi (by assumption) ?_ ?_) | go_size))).mono ?_); rintro e w1 ⟨a1, n1, c1, rfl, hv1, hf1, hb1⟩; clear tok1 _t; have hz1 := hb1.size; (try simp only [World.size_alloc, World.size_setCell, World.size_drew, World.size_drewN'] at hz1); (try (have kq := cellAt hb1 (w.heap.size) (by go_size); have k1_w_0_0 := kq 0; have k1_w_0_1 := kq 1; clear kq; have f1_w_0 := frozAt hb1 (w.heap.size) (by go_size); simp [go_sem, *] at k1_w_0_0 k1_w_0_1 f1_w_0)); (try have l1_w_0 : w.heap.size < w1.heap.size := by omega)))
          refine bodyPost_ret (v := .agg #[.bool nb, .slice a1 n1 c1]) (by simp [results, Try.results65, go_sem, *]) rfl ⟨_, _, _, _, rfl, ⟨?_, ?_⟩, ?_, ?_⟩
          · rw [hnb, (HK.out _).2]; simp; try omega
          · rw [← (HK.out _).1]
            (repeat' first | exact hv1 | refine Sx.set ?_ ?_ _ _ | refine Sx.alloc ?_ _ | refine Sx.drew ?_ | (intro A e; have := hf1 A e; (try simp only [World.size_alloc, World.size_setCell, World.size_drew, World.size_drewN'] at this); omega))
          · (intro A e; have := hf1 A e; (try simp only [World.size_alloc, World.size_setCell, World.size_drew, World.size_drewN'] at this); omega)
          repeat' first | (with_reducible first | apply zRf | assumption | apply zDn | apply zDr | apply zAl | apply zSt | refine zVi (by assumption) ?_ ?_) | go_size
end Go.Proofs.Ytijpfnkhaldfeaa
