/- Lemmas and contracts of functions. No condition. -/
import Derived.Test.YtbnglnbcfabmgaaPf8
import Derived.Test.YtbnglnbcfabmgaaPf16
import Derived.Test.YtbnglnbcfabmgaaPf17
import Derived.Test.YtbnglnbcfabmgaaPf18
import Derived.Test.YtbnglnbcfabmgaaPf36
namespace Go.Proofs.Ytbnglnbcfabmgaa
open Go.RowKit
set_option linter.unusedVariables false
set_option maxHeartbeats 4000000
set_option maxRecDepth 20000
set_option linter.unusedSimpArgs false
attribute [local go_sem] openAt openUpon
theorem bx_old' {W : World} {g : Nat} {X : Obj} (h : W.heap[g]? = some X) (Y : Obj) : (W.alloc Y).heap[g]? = some X := by
 rw [heap_alloc_old W Y (Array.getElem?_eq_some_iff.1 h).1]; exact h
/-- a list of numbers is a relation -/
noncomputable def rlB (A B : Int) (zs : List Int) (n : Nat) (b : List Int) : Bool := (irV A B zs n b n).1 && (irV A B zs n b n).2
theorem l1Own_own (a : Option Addr) (n c : Nat) (zs : List Int) (w : World) (hs : Sx w a n c zs) (hl : n ≤ 1000000) :
  Calls Try.prog 49 #[.slice a n c] w fun r w' => ∃ v, r = .returned v ∧ OwnI w' w.heap.size 3 v zs ∧ Below w.heap.size w w' := by
 obtain ⟨i0, hi, hz0, hz1, hz2⟩ := info_parts infoInt
 have HO := Lib.hid (World.ownsRow_made w #[] 0 (e := 3) (base := w.heap.size) (size := 1) (Nat.le_refl _) (Nat.zero_le _) (by simp))
 cases a with
 | none =>
  have h0 := hs.nil rfl
  have h1 := hs.cap
  have h2 := hs.len
  have : zs = [] := List.length_eq_zero_iff.1 (by omega)
  subst this
  obtain rfl : n = 0 := by omega
  subst h0
  clear hs h1 h2
  go_enter Try.func49, Try.ntmps49
  go_wp2_with (first | (at_builtin; refine wpList_append_own_none _ rfl _ _ 25 rfl w.heap.size 3 i0 1 Try.underlying25 hi _ _ _ rfl HO.out rfl ?_))
  go_ret
  refine ⟨_, rfl, HO.out, ?_⟩
  exact bel
 | some A =>
  have HS := Lib.hid ((hs.below ((Below.refl _ _).alloc (Nat.le_refl _) (.cells #[] 3))).row.src)
  have HL := Lib.hid hs.len
  clear hs
  go_enter Try.func49, Try.ntmps49
  go_wp2_with (first | (at_builtin; refine wpList_append_own _ rfl _ _ 25 rfl w.heap.size 3 i0 (.int .i64 0) 1 8 Try.underlying25 hi hz0 hz1 hz2 rfl (by decide) _ _ _ rfl HO.out A n c (ints zs) rfl (by simp [ints, HL.out]) HS.out ints_cell (by unfold maxLen; omega) (by omega) (by simp) ?_; intro v1 w1 hv1 hg1 _))
  go_ret
  refine ⟨_, rfl, ?_, ?_⟩
  ·unfold OwnI
   rw [HL.out]
   simpa using hv1
  ·refine Below.grown ((Below.refl _ w).alloc (Nat.le_refl _) _) hg1 (by simp) (fun k e => ?_)
   have e2 : some w.heap.size = some k := e
   obtain rfl := Option.some.inj e2
   exact Nat.le_refl _
theorem own_alloc {W : World} {B : Nat} {T : TypeId} {s : Nat} {v : Value} {n : Nat} {xs : List Value} (h : W.ownsRow B T s v n xs) (X : Obj) : (W.alloc X).ownsRow B T s v n xs :=
 ⟨h.1, h.2.imp id fun ⟨g, cap, cur, hv, hb, hg, rest⟩ => ⟨g, cap, cur, hv, hb, bx_old' hg X, rest⟩⟩
def IfRel (w : World) (A B : Int) (p : List Int → Bool) (m d : Nat) (b r : List Int) (iv : Value) (wr : World) : Prop := ∃ j : Nat, iv = .int .i64 (-(m : Int) + j) ∧ j ≤ 2 * m + 1 ∧ fdL (fun j => fdR p m d (b ++ [-(m : Int) + j])) (2 * m + 1 - j) j = r ∧
 wr.heap[w.heap.size]? = some (.cells #[.int .i64 A, .int .i64 B] 29 (0, 0)) ∧ Below w.heap.size w wr
theorem idFind_any (A B : Int) (a0 : Option Addr) (N c0 m : Nat) (zs : List Int) (hm : 1 ≤ m ∧ m ≤ 3) (hN : N ≤ 3) : ∀ (d : Nat) (b : List Int) (a : Option Addr) (n c : Nat) (w : World), Px w a0 N c0 zs → Sx w a n c b → n + d = N →
  Calls Try.prog 30 #[.agg #[.int .i64 A, .int .i64 B], .slice a0 N c0, .slice a n c, .int .i64 m] w fun r w' => ∃ a' n' c', r = .returned (.slice a' n' c') ∧ Sx w' a' n' c' (fdR (rlB A B zs N) m d b) ∧ Below w.heap.size w w' := by
 obtain ⟨i0, hi, iz0, iz1, iz2⟩ := info_parts infoInt
 intro d
 induction d with
 | zero =>
  intro b a n c w hp hs hn
  obtain rfl : n = N := by omega
  have TR := fun (W : World) (hW : Below w.heap.size w W) => idRelation_any A B a0 a n c0 n c zs b W (hp.below hW) (hs.below hW)
  have hfr : fdR (rlB A B zs n) m 0 b = if ((irV A B zs n b n).1 && (irV A B zs n b n).2) = true then b else [] := rfl
  rw [hfr]
  have hcap := hs.cap
  have hmax := hs.max
  unfold maxLen at hmax
  have hnn : ((n : Int) == (n : Int)) = true := by simp
  obtain ⟨⟨v1, v2⟩, hv⟩ : ∃ v, irV A B zs n b n = v := ⟨_, rfl⟩
  simp only [hv] at TR ⊢
  clear hv hfr
  cases hvv : (v1 && v2)
  ·have hvv2 : v1 = false ∨ (v1 = true ∧ v2 = false) := by cases v1 <;> cases v2 <;> simp_all
   rcases hvv2 with rfl | ⟨rfl, rfl⟩
   ·clear hvv
    have tok1 := trivial
    have tok2 := trivial
    go_enter Try.func30, Try.ntmps30
    go_wp2_with (first | (have _t := tok2; go_at_call 20; (with_reducible refine ((TR _ bel)).mono ?_); rintro e w2 ⟨rfl, hb2⟩; clear tok2 _t; have hz2 := hb2.size; (try simp only [sA, sB, sC, sD] at hz2); (try (obtain ⟨kq, qd⟩ := cfAt hb2 (w.heap.size); have qa := kq 0; have qb := kq 1; clear kq; simp [go_sem, *] at qa qb qd)); (try have qi : w.heap.size < w2.heap.size := by omega); (try clear qf qg qj); (try clear qk)))
    go_ret
    refine ⟨none, 0, 0, rfl, by (try rw [if_neg (by simp)]); exact ⟨rfl, Nat.le_refl _, Nat.zero_le _, fun _ => rfl, fun h => absurd h (by simp)⟩, ?_⟩
    exact bel
   ·clear hvv
    have tok1 := trivial
    have tok2 := trivial
    go_enter Try.func30, Try.ntmps30
    go_wp2_with (first | (have _t := tok2; go_at_call 20; (with_reducible refine ((TR _ bel)).mono ?_); rintro e w2 ⟨rfl, hb2⟩; clear tok2 _t; have hz2 := hb2.size; (try simp only [sA, sB, sC, sD] at hz2); (try (obtain ⟨kq, qd⟩ := cfAt hb2 (w.heap.size); have qa := kq 0; have qb := kq 1; clear kq; simp [go_sem, *] at qa qb qd)); (try have qi : w.heap.size < w2.heap.size := by omega); (try clear qf qg qj); (try clear qk)))
    go_ret
    refine ⟨none, 0, 0, rfl, by (try rw [if_neg (by simp)]); exact ⟨rfl, Nat.le_refl _, Nat.zero_le _, fun _ => rfl, fun h => absurd h (by simp)⟩, ?_⟩
    exact bel
  ·obtain ⟨rfl, rfl⟩ : v1 = true ∧ v2 = true := by cases v1 <;> cases v2 <;> simp_all
   clear hvv
   have tok1 := trivial
   have tok2 := trivial
   go_enter Try.func30, Try.ntmps30
   go_wp2_with (first | (have _t := tok2; go_at_call 20; (with_reducible refine ((TR _ bel)).mono ?_); rintro e w2 ⟨rfl, hb2⟩; clear tok2 _t; have hz2 := hb2.size; (try simp only [sA, sB, sC, sD] at hz2); (try (obtain ⟨kq, qd⟩ := cfAt hb2 (w.heap.size); have qa := kq 0; have qb := kq 1; clear kq; simp [go_sem, *] at qa qb qd)); (try have qi : w.heap.size < w2.heap.size := by omega); (try clear qf qg qj); (try clear qk)))
   go_ret
   refine ⟨a, n, c, rfl, by (try rw [if_pos (by simp)]); exact hs.below bel, ?_⟩
   exact bel
 | succ d ih =>
  intro b a n c w hp hs hn
  have hcap := hs.cap
  have hmax := hs.max
  unfold maxLen at hmax
  have hnn : ((n : Int) == (N : Int)) = false := by simp; omega
  have hfr : fdR (rlB A B zs N) m (d + 1) b = fdL (fun j => fdR (rlB A B zs N) m d (b ++ [-(m : Int) + j])) (2 * m + 1) 0 := rfl
  rw [hfr]
  obtain ⟨r, hr⟩ : ∃ r, fdL (fun j => fdR (rlB A B zs N) m d (b ++ [-(m : Int) + j])) (2 * m + 1) 0 = r := ⟨_, rfl⟩
  rw [hr]
  have HR := Lib.hid hr
  have HIH := Lib.hid ih
  clear ih hr hfr
  have tok1 := trivial
  have tok2 := trivial
  have tok3 := trivial
  go_enter Try.func30, Try.ntmps30
  go_upto_region 1 with fail
  refine chk (fun W => Below w.heap.size w W ∧ W.heap[w.heap.size]? = some (.cells #[.int .i64 A, .int .i64 B] 29 (0, 0))) (by refine ⟨?_, ?_⟩ <;> (exact ck)) ?_
  rintro w1 ⟨hB1, qc⟩
  obtain ⟨ql, qm, qp, qq⟩ := bk2 qc
  replace qc := Lib.hid qc
  go_wp2_with fail
  go_loopw [11] (fun iv wr => IfRel w A B (rlB A B zs N) m d b r iv wr) (fun iv _ => ((m : Int) + 1 - intOf iv).toNat)
  case atStart => exact ⟨0, by simp, by omega, HR.out, qc.out, hB1⟩
  case round =>
   clear HR
   obtain ⟨j, rfl, hj, hrr, hC, hbw⟩ := hrel
   have HRR := Lib.hid hrr
   clear hrr
   by_cases hlt : j < 2 * m + 1
   ·have hle : -(m : Int) + (j : Int) ≤ (m : Int) := by omega
    obtain ⟨x, hx⟩ : ∃ x, -(m : Int) + (j : Int) = x := ⟨_, rfl⟩
    have HX := Lib.hid hx
    have hxb : -3 ≤ x ∧ x ≤ 3 := by omega
    rw [hx] at hle ⊢
    clear hx
    go_upto_region 9 with fail
    replace qc := qc.out
    refine chk (fun W => Below w.heap.size w W ∧ W.heap[w.heap.size]? = some (.cells #[.int .i64 A, .int .i64 B] 29 (0, 0))) (by refine ⟨?_, ?_⟩ <;> (exact ck)) ?_
    clear ql qm qp qc
    clear hB1
    rintro w5 ⟨hB5, qe⟩
    obtain ⟨qn, qo, qr, qh⟩ := bk2 qe
    replace qe := Lib.hid qe
    have hs5 := hB5.size
    have HS6 := Lib.hid (fun (W : World) (hW : Below w5.heap.size w5 W) => (⟨hW, (hW.cell (p := ⟨w.heap.size, 0, none⟩) qh).trans qn, (hW.cell (p := ⟨w.heap.size, 1, none⟩) qh).trans qo⟩ : Below w5.heap.size w5 W ∧ W.cell? ⟨w.heap.size, 0, none⟩ = some (.int .i64 A) ∧ W.cell? ⟨w.heap.size, 1, none⟩ = some (.int .i64 B)))
    have HSI := Lib.hid (fun (W : World) (hW : Below w5.heap.size w5 W ∧ W.cell? ⟨w.heap.size, 0, none⟩ = some (.int .i64 A) ∧ W.cell? ⟨w.heap.size, 1, none⟩ = some (.int .i64 B)) => hW.1)
    have TO := fun (W : World) (hW : Below w5.heap.size w5 W) => Lib.hid (show Calls Try.prog 49 #[.slice a n c] W fun r w' => ∃ v, r = .returned v ∧ w'.ownsRow w5.heap.size 3 1 v n (ints b) ∧ Below W.heap.size W w' from (l1Own_own a n c b W (hs.below (below_via hW hB5 hs5)) (by omega)).mono fun r w' ⟨v, h1, h2, h3⟩ => ⟨v, h1, by have h4 := h2.low hW.size; unfold OwnI at h4; rw [hs.len] at h4; exact h4, h3⟩)
    have HSX := Lib.hid (fun (W : World) (v : Value) (h : W.ownsRow w5.heap.size 3 1 v (n + 1) (ints b ++ [.int .i64 x])) => (show ∃ a2 c2, v = .slice a2 (n + 1) c2 ∧ Sx W a2 (n + 1) c2 (b ++ [x]) by
     obtain ⟨a2, c2, h1, h2, -⟩ := Sx.of_owns (n := n + 1) (zs := b ++ [x]) (by rw [ints_append, ints_one]; exact h)
     exact ⟨a2, c2, h1, h2⟩))
    have TF := fun (a' : Option Addr) (c' : Nat) (W : World) (hW : Below w5.heap.size w5 W) (h : Sx W a' (n + 1) c' (b ++ [x])) => Lib.hid (HIH.out (b ++ [x]) a' (n + 1) c' W (hp.below (below_via hW hB5 hs5)) h (by omega))
    clear HIH hC
    go_region_held3 (fun W => Below w5.heap.size w5 W ∧ W.cell? ⟨w.heap.size, 0, none⟩ = some (.int .i64 A) ∧ W.cell? ⟨w.heap.size, 1, none⟩ = some (.int .i64 B)) (first | exact HS6.out _ (by assumption) | exact HS6.out _ ((HSI.out _ (by assumption)).alloc (by first | exact Nat.le_refl _ | (simp only [World.size_alloc]; omega) | exact (HSI.out _ (by assumption)).size) _) | exact HS6.out _ (below_via (by assumption) (HSI.out _ (by assumption)) (HSI.out _ (by assumption)).size) | exact HS6.out _ bel) (first | (have _t := tok1; go_at_call 49; (with_reducible refine ((TO _ (HSI.out _ (by assumption))).out).mono ?_); rintro e w1 ⟨v1, rfl, ho1, hb1⟩; clear tok1 _t; have hz1 := hb1.size; (try simp only [sA, sB, sC, sD] at hz1)) | ((refine step_app rfl _ _ 25 rfl w5.heap.size 3 i0 (.int .i64 0) 1 8 Try.underlying25 hi iz0 iz1 iz2 rfl (by decide) w5 (HSI.out _ (by assumption)) n (ints b) 1 [.int .i64 x] ?_ ?_ rfl (by simp [Value.oneCell']) ?_ ?_ ?_ ?_; (focus (first | exact ho1 | exact own_alloc ho1 _ | exact own_alloc ho1 _)); (focus (first | exact src_one (heap_alloc_new _ _) | exact src_one (bx_drew (heap_alloc_new _ _)) | exact src_one (keepW hb1 (heap_alloc_new _ _)) | exact src_one (keepW hb1 (bx_drew (heap_alloc_new _ _))))); (focus ((unfold maxLen; omega))); (focus (omega)); (focus (exact (HSI.out _ (by assumption)).size)); intro v2 w2 hv2 hg2 hB2 hat2; (have hz2 := hB2.size); (obtain ⟨a2, c2, rfl, hs2⟩ := HSX.out _ _ hv2))) | (have _t := tok3; go_at_call 30; (with_reducible refine ((TF _ _ _ (HSI.out _ (by assumption)) hs2).out).mono ?_); rintro e w3 ⟨a3, n3, c3, rfl, hs3, hb3⟩; clear tok3 _t; have hz3 := hb3.size; (try simp only [sA, sB, sC, sD] at hz3)))
    all_goals
     have hbb := HSI.out _ (by assumption)
     have hC3 := (hbb.block _ qh).trans qe.out
     have hb03 := below_via hbb hB5 hs5
     have hq := HRR.out
     rw [show 2 * m + 1 - j = (2 * m + 1 - (j + 1)) + 1 by omega, fdL, HX.out] at hq
     have hln := hs3.len
     have hmx := Nat.le_trans hs3.cap hs3.max
     unfold maxLen at hmx
     by_cases hz : fdR (rlB A B zs N) m d (b ++ [x]) = []
     ·rw [if_pos hz] at hq
      have HQ := Lib.hid hq
      rw [hz] at hln
      obtain rfl : 0 = n3 := by simpa using hln
      clear hq hz hln
      go_wp2_with fail
      go_roundw
      case rel => exact ⟨j + 1, by have := HX.out; congr 1; omega, by omega, HQ.out, hC3, hb03⟩
      case measure => simp [intOf]; omega
     ·rw [if_neg hz] at hq
      have HQ := Lib.hid hq
      have hpos : 0 < n3 := by
       rcases Nat.eq_zero_or_pos n3 with h | h
       ·exact absurd (List.length_eq_zero_iff.1 (by omega)) hz
       ·exact h
      have hgt : (0 : Int) < (n3 : Int) := by omega
      clear hq hz hln
      go_wp2_with fail
      go_ret
      exact ⟨a3, n3, c3, rfl, by rw [← HQ.out]; exact hs3, hb03⟩
   ·obtain rfl : j = 2 * m + 1 := by omega
    have hq := HRR.out
    rw [Nat.sub_self, fdL] at hq
    have hnl : ¬ (-(m : Int) + ((2 * m + 1 : Nat) : Int) ≤ (m : Int)) := by omega
    clear HRR HIH
    go_wp2_with fail
    go_ret
    exact ⟨none, 0, 0, rfl, by rw [← hq]; exact ⟨rfl, Nat.le_refl _, Nat.zero_le _, fun _ => rfl, fun h => absurd h (by simp)⟩, hbw⟩
end Go.Proofs.Ytbnglnbcfabmgaa
