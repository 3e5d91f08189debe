/- Decimal numerals: the reference's own and the library's. -/
import Derived.Test.YtdcbpgpjiacomaaDoorProg
import Derived.Test.YtdcbpgpjiacomaaDoorBase
import Derived.Test.YtdcbpgpjiacomaaDoorLayI
import Derived.Lib.ItoaLen
import Derived.Lib.ItoaMem
import Derived.Laws.IdiomStrings
import Derived.Lib.SmallJoins
import Derived.Lib.AppendIntMem
import Derived.Laws.Concat
import Derived.Laws.BytesString
namespace Go.Proofs.YtdcbpgpjiacomaaDoor
open Go.RowKit
set_option linter.unusedVariables false
set_option maxHeartbeats 4000000
set_option linter.unusedSimpArgs false
set_option maxRecDepth 8000

theorem bcat (x y : List UInt8) : (⟨x.toArray⟩ : ByteArray) ++ ⟨y.toArray⟩ = ⟨(x ++ y).toArray⟩ := by
  apply ByteArray.ext
  simp
theorem blk_cell' {W : World} {g : Nat} {x : Value} {T : TypeId} (h : W.heap[g]? = some (.cells #[x] T (0, 0))) : W.cell? ⟨g, 0, none⟩ = some x := by
  have := cell_of_row W g 0 #[x] T (0, 0) h
  simpa using this
theorem conv1 (c : Int) (m : Nat) (b : UInt8) (hb : b = UInt8.ofNat m) (hc : c = (m : Int)) (hm : m < 256) (W : World) (g : Nat) (hk : W.heap[g]? = some (.cells #[.int .u8 c] 5 (0, 0))) :
    (convert 40 9 (.slice (some ⟨g, 0, none⟩) 1 1)).run Tryd.prog W = .ok (.string ⟨#[b]⟩) W := by
  subst hc
  subst hb
  refine run_convert_bytes_back W 40 9 5 ⟨g, 0, none⟩ 1 [UInt8.ofNat m] Tryd.underlying40 Tryd.underlying5 Tryd.underlying9 (fun j hj => ?_)
  obtain rfl : j = 0 := by simp at hj; omega
  have := blk_cell' hk
  have e : (UInt8.ofNat m).toNat = m := by simp; omega
  simpa [Addr.add, e] using this
theorem l1Num_any : ∀ (n : Nat), (n : Int) ≤ 9223372036854775807 → ∀ (w : World), Calls Tryd.prog 75 #[.int .i64 (n : Int)] w fun e w' => e = .returned (.string ⟨(Lib.decDigits n).toArray⟩) ∧ Below w.heap.size w w' := by
  intro n
  induction n using Nat.strongRecOn with
  | _ n ih =>
    intro hn w
    by_cases h : n < 10
    · rw [Lib.decDigits_one h]
      obtain ⟨b, hb⟩ : ∃ b, b = UInt8.ofNat (48 + n) := ⟨_, rfl⟩
      rw [← hb]
      have CV := fun W : World => conv1 (48 + (n : Int)) (48 + n) b hb (by omega) (by omega) (W.alloc (.cells #[.int .u8 (48 + (n : Int))] 5)) W.heap.size (heap_alloc_new _ _)
      clear ih hb
      go_enter Tryd.func75, Tryd.ntmps75
      go_wp2_with fail
      go_ret
      refine ⟨rfl, ?_⟩
      repeat' first | (with_reducible first | apply zRf | assumption | apply zDn | apply zDr | apply zAl | apply zSt | refine zVi (by assumption) ?_ ?_) | go_size
    · have ih' := ih (n / 10) (by omega) (by omega)
      rw [show ((n / 10 : Nat) : Int) = (n : Int) / 10 by omega] at ih'
      have IH := fun W : World => Lib.hid (ih' W)
      clear ih'
      obtain ⟨b, hb⟩ : ∃ b, b = UInt8.ofNat (48 + n % 10) := ⟨_, rfl⟩
      have CV := fun W : World => conv1 (48 + (n : Int) % 10) (48 + n % 10) b hb (by omega) (by omega) (W.alloc (.cells #[.int .u8 (48 + (n : Int) % 10)] 5)) W.heap.size (heap_alloc_new _ _)
      have hl := Lib.itoa_length_le ((n / 10 : Nat) : Int) (by omega) (by omega)
      rw [Lib.itoa_nonneg] at hl
      rw [show Lib.decDigits n = Lib.decDigits (n / 10) ++ [UInt8.ofNat (48 + n % 10)] by rw [Lib.decDigits, dif_neg h]]
      rw [← hb]
      have q1 : IntKind.i64.wrap ((n : Int) / 10) = (n : Int) / 10 := by rw [IntKind.wrap_i64]; omega
      have q2 : IntKind.u8.wrap (IntKind.i64.wrap (48 + (n : Int).tmod 10)) = 48 + (n : Int) % 10 := by rw [IntKind.wrap_i64, IntKind.wrap_u8, Int.tmod_eq_emod_of_nonneg (by omega)]; omega
      generalize Lib.decDigits (n / 10) = D at *
      clear ih
      have CV3 := fun (w1 : World) (hk : w1.heap[w.heap.size]? = some (.cells #[.int .u8 (48 + (n : Int) % 10)] 5 (0, 0))) => conv1 (48 + (n : Int) % 10) (48 + n % 10) b hb (by omega) (by omega) w1 w.heap.size hk
      have CV4 := fun W : World => conv1 (48 + (n : Int) % 10) (48 + n % 10) b hb (by omega) (by omega) (W.alloc (.cells #[.int .u8 (48 + (n : Int) % 10)] 5)).drew W.heap.size (heap_alloc_new W _)
      clear hb
      replace CV3 := Lib.hid CV3
      have tok1 : True := trivial
      go_enter Tryd.func75, Tryd.ntmps75
      go_wp2_with fail
      go_region_with ((first | (have _t := tok1; go_at_call 75; (with_reducible refine ((IH _).out).mono ?_); rintro e w1 ⟨rfl, hb1⟩; clear tok1 _t; have hz1 := hb1.size; (try simp only [World.size_alloc, World.size_setCell, World.size_drew, World.size_drewN'] at hz1); try (have CV2 := CV3.out w1 ((hb1.block _ (by simp)).trans (heap_alloc_new w _))))))
      all_goals go_wp2_with fail
      all_goals go_ret
      all_goals refine ⟨by show Ending.returned (.string ((⟨D.toArray⟩ : ByteArray) ++ ⟨#[b]⟩)) = _; rw [show (#[b] : Array UInt8) = [b].toArray from rfl, bcat], ?_⟩
      all_goals repeat' first | (with_reducible first | apply zRf | assumption | apply zDn | apply zDr | apply zAl | apply zSt | refine zVi (by assumption) ?_ ?_) | go_size
theorem itoa_nn (n : Nat) : Lib.itoa (n : Int) = Lib.decDigits n := Lib.itoa_nonneg n
theorem l1Int_any (n : Int) (h0 : -9223372036854775807 ≤ n) (h1 : n ≤ 9223372036854775807) (w : World) : Calls Tryd.prog 53 #[.int .i64 n] w fun e w' => e = .returned (.string ⟨(Lib.itoa n).toArray⟩) ∧ Below w.heap.size w w' := by
  by_cases h : n < 0
  · obtain ⟨m, hm⟩ : ∃ m : Nat, -n = (m : Int) := ⟨(-n).toNat, by omega⟩
    have e := Lib.itoa_neg m (by omega)
    rw [show -(m : Int) = n by omega] at e
    have IH := l1Num_any m (by omega)
    rw [← hm] at IH
    have hl := Lib.itoa_length_le (m : Int) (by omega) (by omega)
    rw [itoa_nn] at hl
    rw [e]
    generalize Lib.decDigits m = D at *
    replace IH := fun W : World => Lib.hid (IH W)
    clear hm e
    have tok1 : True := trivial
    go_enter Tryd.func53, Tryd.ntmps53
    go_wp2_with (first | (have _t := tok1; go_at_call 75; (with_reducible refine ((IH _).out).mono ?_); rintro e w1 ⟨rfl, hb1⟩; clear tok1 _t; have hz1 := hb1.size; (try simp only [World.size_alloc, World.size_setCell, World.size_drew, World.size_drewN'] at hz1)))
    go_ret
    refine ⟨by show Ending.returned (.string ((⟨#[45]⟩ : ByteArray) ++ ⟨D.toArray⟩)) = _; rw [show (#[45] : Array UInt8) = [45].toArray from rfl, bcat]; rfl, ?_⟩
    repeat' first | (with_reducible first | apply zRf | assumption | apply zDn | apply zDr | apply zAl | apply zSt | refine zVi (by assumption) ?_ ?_) | go_size
  · obtain ⟨m, hm⟩ : ∃ m : Nat, n = (m : Int) := ⟨n.toNat, by omega⟩
    have IH := l1Num_any m (by omega)
    rw [hm, itoa_nn]
    rw [← hm] at IH ⊢
    replace IH := fun W : World => Lib.hid (IH W)
    generalize Lib.decDigits m = D at *
    clear hm
    have tok1 : True := trivial
    go_enter Tryd.func53, Tryd.ntmps53
    go_wp2_with (first | (have _t := tok1; go_at_call 75; (with_reducible refine ((IH _).out).mono ?_); rintro e w1 ⟨rfl, hb1⟩; clear tok1 _t; have hz1 := hb1.size; (try simp only [World.size_alloc, World.size_setCell, World.size_drew, World.size_drewN'] at hz1)))
    go_ret
    refine ⟨rfl, ?_⟩
    repeat' first | (with_reducible first | apply zRf | assumption | apply zDn | apply zDr | apply zAl | apply zSt | refine zVi (by assumption) ?_ ?_) | go_size
/-- the library's numerals: the table is known in a world below -/
theorem Itoa_any (n : Int) (h0 : -9223372036854775807 ≤ n) (h1 : n ≤ 9223372036854775807) (w W : World) (ht : Lib.TabIs Tryd.prog w "internal/strconv.uint64pow10" .u64 Lib.pow10Tab) (hb : Below w.heap.size w W) : Calls Tryd.prog 74 #[.int .i64 n] W fun e w' => e = .returned (.string ⟨(Lib.itoa n).toArray⟩) ∧ Below W.heap.size W w' := by
  have hg : Tryd.prog.globalNamed "internal/strconv.uint64pow10" = some 1 := by kernel_rfl
  have hT : Lib.TabIs Tryd.prog W "internal/strconv.uint64pow10" .u64 Lib.pow10Tab := Go.Joins.var_stays (B := w.heap.size) hg ht hb (Nat.le_refl _)
  refine (Go.Proofs.Tryd.strconv_Itoa n (by omega) (by omega) W hT).mono fun e w' h => ?_
  obtain ⟨h1, k, os, rfl⟩ := h
  exact ⟨h1, Lib.below_grow W.heap.size W (Nat.le_refl _) k os⟩
end Go.Proofs.YtdcbpgpjiacomaaDoor
