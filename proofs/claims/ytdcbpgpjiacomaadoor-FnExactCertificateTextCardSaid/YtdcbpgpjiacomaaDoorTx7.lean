/- Texts of certificates: the program. -/
import Derived.Test.YtdcbpgpjiacomaaDoorTx6
namespace Go.Proofs.YtdcbpgpjiacomaaDoor
open Go.RowKit
set_option linter.unusedVariables false
set_option maxHeartbeats 4000000
set_option maxRecDepth 20000
set_option linter.unusedSimpArgs false
/-- the numbers of the points are small -/
def ptOk (zs : List Int) (ln : Nat) : Prop := ∀ j, j < ln → ((zs[j * 3 + 2]?.getD 0 = 0 ∨ 1 ≤ zs[j * 3 + 2]?.getD 0 ∧ zs[j * 3 + 2]?.getD 0 ≤ 20) ∧ -10000 ≤ zs[j * 3]?.getD 0 ∧ zs[j * 3]?.getD 0 ≤ 10000 ∧ -9000000 ≤ zs[j * 3 + 1]?.getD 0 ∧ zs[j * 3 + 1]?.getD 0 ≤ 9000000)
theorem ptK_len {zs : List Int} {ln j : Nat} (h : ptOk zs ln) (hj : j < ln) : (ptK zs j).length ≤ 100 := by
  have := h j hj
  exact ptT_len this.1 ⟨this.2.1, this.2.2.1⟩ this.2.2.2
theorem nmT_len {A B : Int} (h0 : -9223372036854775807 ≤ A ∧ A ≤ 9223372036854775807) (h1 : -9223372036854775807 ≤ B ∧ B ≤ 9223372036854775807) : (nmT A B).length ≤ 100 := by
  have hl := Lib.itoa_length_le A (by omega) (by omega)
  have hl2 := Lib.itoa_length_le B (by omega) (by omega)
  simp [nmT]; omega
theorem idS_len {A B : Int} {zs : List Int} {ln : Nat} (h0 : -9223372036854775807 ≤ A ∧ A ≤ 9223372036854775807) (h1 : -9223372036854775807 ≤ B ∧ B ≤ 9223372036854775807) (h : ptOk zs ln) : ∀ k, k ≤ ln → (idS A B zs k).length ≤ 100 + 101 * k
  | 0, _ => by have := nmT_len h0 h1; simpa [idS, ptL] using this
  | k + 1, hk => by
    have h2 := idS_len h0 h1 h k (by omega)
    have h3 := ptK_len h (show k < ln by omega)
    rw [idS_next, List.length_append, List.length_append]
    simp only [List.length_cons, List.length_nil]
    omega
def IdRel (w : World) (A B n d : Int) (zs : List Int) (ln : Nat) (sv iv : Value) (wr : World) : Prop := ∃ k : Nat, iv = .int .i64 k ∧ k ≤ ln ∧ sv = .string ⟨(idS A B zs k).toArray⟩ ∧ wr.cell? ⟨w.heap.size, 3, none⟩ = some (.int .i64 n) ∧ wr.cell? ⟨w.heap.size, 4, none⟩ = some (.int .i64 d) ∧ w.heap.size < wr.heap.size ∧ Below w.heap.size w wr
theorem idText_any (A B n d : Int) (a : Option Addr) (ln c : Nat) (zs : List Int) (w : World) (h : Px w a ln c zs) (h0 : -9223372036854775807 ≤ A ∧ A ≤ 9223372036854775807) (h1 : -9223372036854775807 ≤ B ∧ B ≤ 9223372036854775807) (hn : -9223372036854775807 ≤ n ∧ n ≤ 9223372036854775807) (hd : 1 ≤ d ∧ d ≤ 9223372036854775807) (hln : ln ≤ 4) (ho : ptOk zs ln) :
    Calls Tryd.prog 29 #[.agg #[.int .i64 A, .int .i64 B, .slice a ln c, .int .i64 n, .int .i64 d]] w fun e w' => e = .returned (.string ⟨(ceT A B zs ln n d).toArray⟩) ∧ Below w.heap.size w w' := by
  have hnm := h.cap
  have hnm2 := h.max
  unfold maxLen at hnm2
  have TE := fun W : World => Lib.hid (ecText_any A B h0 h1 W)
  have TF := fun W : World => Lib.hid (frText_any n d hn hd W)
  have hfl := frT_len n d (by omega) (by omega)
  have HS := Lib.hid (fun k hk => idS_len (zs := zs) (ln := ln) h0 h1 ho k hk)
  have HO := Lib.hid ho
  have HC := Lib.hid (show ceT A B zs ln n d = idS A B zs ln ++ [32] ++ frT n d from rfl)
  have hi0 := Lib.hid (show idS A B zs 0 = Lib.itoa A ++ [32] ++ Lib.itoa B by simp [idS, ptL, nmT])
  rw [← hi0.out] at TE
  generalize frT n d = E at *
  clear h0 h1 hn hd ho
  have tok1 : True := trivial
  have tok2 : True := trivial
  go_enter Tryd.func29, Tryd.ntmps29
  go_wp2_with (first | (have _t := tok1; go_at_call 62; (with_reducible refine ((TE _).out).mono ?_); rintro e w1 ⟨rfl, hb1⟩; clear tok1 _t; have hz1 := hb1.size; (try simp only [World.size_alloc, World.size_setCell, World.size_drew, World.size_drewN'] at hz1); (try (have kq := cellAt hb1 (w.heap.size) (by go_size); have k1_w_0_0 := kq 0; have k1_w_0_1 := kq 1; have k1_w_0_2 := kq 2; have k1_w_0_3 := kq 3; have k1_w_0_4 := kq 4; clear kq; have f1_w_0 := frozAt hb1 (w.heap.size) (by go_size); simp [go_sem, *] at k1_w_0_0 k1_w_0_1 k1_w_0_2 k1_w_0_3 k1_w_0_4 f1_w_0)); (try have l1_w_0 : w.heap.size < w1.heap.size := by omega)))
  go_loopw [3, 12] (fun sv iv wr => IdRel w A B n d zs ln sv iv wr) (fun _ iv _ => (ln - intOf iv).toNat)
  case atStart => exact ⟨0, rfl, by omega, rfl, by assumption, by assumption, by omega, by repeat' first | (with_reducible first | apply zRf | assumption | apply zDn | apply zDr | apply zAl | apply zSt | refine zVi (by assumption) ?_ ?_) | go_size⟩
  case round =>
    obtain ⟨k, rfl, hk, rfl, kN, kD, hsz, hbw⟩ := hrel
    have hsw := hbw.size
    have hsl := HS.out k hk
    by_cases h0 : k < ln
    · obtain ⟨b, off, rfl, hb, hcs⟩ := h.at (by omega)
      have hpt := Lib.hid (show ptK zs k = ptT (zs[k * 3]?.getD 0) (zs[k * 3 + 1]?.getD 0) (zs[k * 3 + 2]?.getD 0) from rfl)
      have hpl := ptK_len HO.out h0
      have hok := HO.out k h0
      have hnx := Lib.hid (idS_next A B zs k)
      have c0 := (hbw.cell (p := ⟨b, off + k * 3, none⟩) hb).trans (hcs (k * 3) (by omega))
      have c1 := (hbw.cell (p := ⟨b, off + k * 3 + 1, none⟩) hb).trans (hcs (k * 3 + 1) (by omega))
      have c2 := (hbw.cell (p := ⟨b, off + k * 3 + 2, none⟩) hb).trans (hcs (k * 3 + 2) (by omega))
      have hk2 : (k : Int) < (ln : Int) := by omega
      clear hcs TE
      generalize zs[k * 3]?.getD 0 = x at *
      generalize zs[k * 3 + 1]?.getD 0 = y at *
      generalize zs[k * 3 + 2]?.getD 0 = z at *
      have TP := fun W : World => Lib.hid (ptText_any x y z hok.1 ⟨hok.2.1, hok.2.2.1⟩ hok.2.2.2 W)
      rw [← hpt.out] at TP
      clear hpt hok
      generalize ptK zs k = D at *
      generalize idS A B zs k = E0 at *
      go_wp2_with (first | (have _t := tok2; go_at_call 63; (with_reducible refine ((TP _).out).mono ?_); rintro e w2 ⟨rfl, hb2⟩; clear tok2 _t; have hz2 := hb2.size; (try simp only [World.size_alloc, World.size_setCell, World.size_drew, World.size_drewN'] at hz2); (try (have kq := cellAt hb2 (w.heap.size) (by go_size); have k2_w_0_0 := kq 0; have k2_w_0_1 := kq 1; have k2_w_0_2 := kq 2; have k2_w_0_3 := kq 3; have k2_w_0_4 := kq 4; clear kq; have f2_w_0 := frozAt hb2 (w.heap.size) (by go_size); simp [go_sem, *] at k2_w_0_0 k2_w_0_1 k2_w_0_2 k2_w_0_3 k2_w_0_4 f2_w_0)); (try have l2_w_0 : w.heap.size < w2.heap.size := by omega); (try clear k1_w_0_0 k1_w_0_1 k1_w_0_2 k1_w_0_3 k1_w_0_4 f1_w_0); (try clear l1_w_0)))
      go_roundw
      case rel =>
        refine ⟨k + 1, by go_num, by omega, ?_, by assumption, by assumption, by omega, by repeat' first | (with_reducible first | apply zRf | assumption | apply zDn | apply zDr | apply zAl | apply zSt | refine zVi (by assumption) ?_ ?_) | go_size⟩
        rw [hnx.out, show (#[32] : Array UInt8) = [32].toArray from rfl, bcat, bcat]
      case measure => simp [intOf]; omega
    · obtain rfl : k = ln := by omega
      have HC' := Lib.hid (show ceT A B zs k n d = idS A B zs k ++ [32] ++ E from HC.out)
      generalize idS A B zs k = E0 at *
      go_wp2_with (first | (have _t := tok2; go_at_call 64; (with_reducible refine ((TF _).out).mono ?_); rintro e w2 ⟨rfl, hb2⟩; clear tok2 _t; have hz2 := hb2.size; (try simp only [World.size_alloc, World.size_setCell, World.size_drew, World.size_drewN'] at hz2); (try (have kq := cellAt hb2 (w.heap.size) (by go_size); have k2_w_0_0 := kq 0; have k2_w_0_1 := kq 1; have k2_w_0_2 := kq 2; have k2_w_0_3 := kq 3; have k2_w_0_4 := kq 4; clear kq; have f2_w_0 := frozAt hb2 (w.heap.size) (by go_size); simp [go_sem, *] at k2_w_0_0 k2_w_0_1 k2_w_0_2 k2_w_0_3 k2_w_0_4 f2_w_0)); (try have l2_w_0 : w.heap.size < w2.heap.size := by omega); (try clear k1_w_0_0 k1_w_0_1 k1_w_0_2 k1_w_0_3 k1_w_0_4 f1_w_0); (try clear l1_w_0)))
      go_ret
      refine ⟨?_, ?_⟩
      · rw [HC'.out]
        clear HC HC'
        show Ending.returned (.string ((⟨E0.toArray⟩ : ByteArray) ++ ⟨#[32]⟩ ++ ⟨E.toArray⟩)) = _
        rw [show (#[32] : Array UInt8) = [32].toArray from rfl, bcat, bcat]
      · repeat' first | (with_reducible first | apply zRf | assumption | apply zDn | apply zDr | apply zAl | apply zSt | refine zVi (by assumption) ?_ ?_) | go_size
end Go.Proofs.YtdcbpgpjiacomaaDoor
