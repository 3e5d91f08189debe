/- Lemmas and contracts of functions. No condition. -/
import Derived.Test.YtbnglnbcfabmgaaPk3
import Derived.Test.YtbnglnbcfabmgaaPk13
import Derived.Test.YtbnglnbcfabmgaaPk36
import Derived.Test.YtbnglnbcfabmgaaPk48
import Derived.Test.YtbnglnbcfabmgaaPk49
import Derived.Test.YtbnglnbcfabmgaaPk50
namespace Go.Proofs.Ytbnglnbcfabmgaa
open Go.RowKit
set_option linter.unusedVariables false
set_option maxHeartbeats 4000000
set_option maxRecDepth 20000
set_option linter.unusedSimpArgs false
attribute [local go_sem] openAt openUpon
theorem zeroClosure_any (x : Int) (w : World) : Calls Try.prog 45 #[.int .i64 x] w fun e w' => e = .returned (.bool (!inB x 0 0)) ∧ w = w' := by
 by_cases h : x = 0
 ·subst h
  go_enter Try.func45, Try.ntmps45
  go_wp2_with fail
  go_ret
  exact ⟨rfl, rfl⟩
 ·have hx : (x != 0) = true := by simpa using h
  rw [show inB x 0 0 = false by simp [inB]; omega]
  go_enter Try.func45, Try.ntmps45
  go_wp2_with fail
  go_ret
  exact ⟨rfl, rfl⟩
theorem indexZero_any {a : Option Addr} {n c : Nat} {zs : List Int} (w : World) (h : Sx w a n c zs) :
  Calls Try.prog 58 #[.slice a n c, .func (.func 45) #[] #[]] w fun e w' => ∃ r : Int, e = .returned (.int .i64 r) ∧ decide (0 ≤ r) = !(allB zs 0 0 n) ∧ w = w' := by
 have hnm := h.cap
 have hnm2 := h.max
 unfold maxLen at hnm2
 go_enter Try.func58, Try.ntmps58
 go_wp2_with fail
 go_loopw [5, 8] (fun _ iv wr => ∃ k : Nat, iv = .int .i64 k ∧ k ≤ n ∧ (∀ j, j < k → inB (zs[j]?.getD 0) 0 0 = true) ∧ wr = w) (fun _ iv _ => (n - intOf iv).toNat)
 case atStart => exact ⟨0, rfl, by omega, fun j hj => by omega, rfl⟩
 case round =>
  obtain ⟨k, rfl, hk, hal, rfl⟩ := hrel
  have HAL := Lib.hid hal
  clear hal
  by_cases h0 : k < n
  ·obtain ⟨b, off, rfl, hb, hcs⟩ := h.at (by omega)
   have c0 := hcs k (by omega)
   have hk2 : (k : Int) < (n : Int) := by omega
   clear hcs
   obtain ⟨x, hx⟩ : ∃ v, zs[k]?.getD 0 = v := ⟨_, rfl⟩
   rw [hx] at c0
   have HX := Lib.hid hx
   clear hx
   have T1 := Lib.hid (zeroClosure_any x wr)
   cases hv : inB x 0 0
   ·rw [hv] at T1
    have HV := Lib.hid hv
    clear hv
    go_wp2_with (go_at_call 45; refine (T1.out).mono ?_; rintro e w1 ⟨rfl, rfl⟩)
    go_ret
    exact ⟨_, rfl, by rw [allB_no h0 (by rw [HX.out]; exact HV.out)]; simp, rfl⟩
   ·rw [hv] at T1
    have HV := Lib.hid hv
    clear hv
    go_wp2_with (go_at_call 45; refine (T1.out).mono ?_; rintro e w1 ⟨rfl, rfl⟩)
    go_roundw
    case rel => exact ⟨k + 1, by go_num, by omega, fun j hj => by
     by_cases e : j = k
     ·subst e; rw [HX.out]; exact HV.out
     ·exact HAL.out j (by omega), trivial⟩
    case measure => simp [intOf]; omega
  ·obtain rfl : k = n := by omega
   go_wp2_with fail
   go_ret
   exact ⟨_, rfl, by rw [allB_yes HAL.out]; simp, rfl⟩
theorem containsZero_any {a : Option Addr} {n c : Nat} {zs : List Int} (w : World) (h : Sx w a n c zs) :
  Calls Try.prog 41 #[.slice a n c, .func (.func 45) #[] #[]] w fun e w' => e = .returned (.bool (!(allB zs 0 0 n))) ∧ w = w' := by
 go_enter Try.func41, Try.ntmps41
 go_wp2_with (go_at_call 58; refine (indexZero_any w h).mono ?_; rintro e w1 ⟨r, rfl, hr, rfl⟩; (have HR := Lib.hid hr); clear hr)
 go_ret
 exact ⟨by rw [← HR.out]; rfl, rfl⟩
theorem isZero_any {a : Option Addr} {n c : Nat} {zs : List Int} (w : World) (h : Sx w a n c zs) : Calls Try.prog 25 #[.slice a n c] w fun e w' => e = .returned (.bool (allB zs 0 0 n)) ∧ w = w' := by
 have T1 := fun (W : World) (hW : W = w) => Lib.hid (show Calls Try.prog 41 #[.slice a n c, .func (.func 45) #[] #[]] W fun e w' => e = .returned (.bool (!(allB zs 0 0 n))) ∧ W = w' by subst hW; exact containsZero_any W h)
 generalize allB zs 0 0 n = v at *
 go_enter Try.func25, Try.ntmps25
 go_wp2_with (first | (go_at_call 41; (with_reducible refine ((T1 _ rfl).out).mono ?_); rintro e w' ⟨rfl, rfl⟩))
 go_ret
 exact ⟨by simp, rfl⟩
/-- what IsRelation answers -/
noncomputable def irV (A B : Int) (zs : List Int) (n : Nat) (ns : List Int) (m : Nat) : Bool × Bool :=
 if (plB A B zs n && fitB n m ns) = true then (if (cmS A zs ns n).2.2.2 = true then (!allB ns 0 0 m && orB A (cmS A zs ns n).1 (cmS A zs ns n).2.1 (cmS A zs ns n).2.2.1, true) else (false, false)) else (false, false)
theorem irV_cases (A B : Int) (zs : List Int) (n : Nat) (ns : List Int) (m : Nat) : (plB A B zs n = false ∧ irV A B zs n ns m = (false, false)) ∨ (plB A B zs n = true ∧ (fitB n m ns = false ∧ irV A B zs n ns m = (false, false) ∨ fitB n m ns = true ∧ irV A B zs n ns m = if (cmS A zs ns n).2.2.2 = true then (!allB ns 0 0 m && orB A (cmS A zs ns n).1 (cmS A zs ns n).2.1 (cmS A zs ns n).2.2.1, true) else (false, false))) := by
 unfold irV
 cases h1 : plB A B zs n
 ·exact Or.inl ⟨rfl, by simp⟩
 ·cases h2 : fitB n m ns
  ·exact Or.inr ⟨rfl, Or.inl ⟨rfl, by simp⟩⟩
  ·exact Or.inr ⟨rfl, Or.inr ⟨rfl, by simp⟩⟩
def openPt (l : List P3) : St where
 ok v W := SlX W 0 3 v l.length (flat3 l)
 keep v W W2 h hb := h.via hb
theorem openPt_ok {l : List P3} {v : Value} {W : World} (h : (openPt l).ok v W) : SlX W 0 3 v l.length (flat3 l) := h
theorem open_Pt {P : Program} {f : FuncId} {args : Array Value} {W : World} {l : List P3} (h : Calls P f args W fun r w' => ∃ v, r = .returned v ∧ OwnX w' (W.heap.size + 1) v l ∧ Below W.heap.size W w') : Calls P f args W fun e w' => ∃ v, e = .returned v ∧ (openPt l).ok v w' ∧ Below W.heap.size W w' :=
 h.mono fun e w' ⟨v, h1, h2, h3⟩ => ⟨v, h1, h2.toX.low (Nat.zero_le _), h3⟩
theorem IsRelation_any (A B : Int) (a0 b0 : Option Addr) (n c0 m d0 : Nat) (zs ns : List Int) (w : World) (hp : Px w a0 n c0 zs) (hs : Sx w b0 m d0 ns) :
  Calls Try.prog 10 #[.agg #[.int .i64 A, .int .i64 B], .slice a0 n c0, .slice b0 m d0] w fun r w' => r = .returned (.tuple #[.bool (irV A B zs n ns m).1, .bool (irV A B zs n ns m).2]) ∧ Below w.heap.size w w' := by
 have hnm := hp.cap
 have hnm2 := hp.max
 have T1 := fun (W : World) (hW : Below w.heap.size w W) => Lib.hid (pointList_any A B a0 n c0 zs W (hp.below hW))
 have T2 := fun (W : World) (hW : Below w.heap.size w W) => Lib.hid (factorsFit_any (a := a0) (n := n) (c := c0) W (hs.below hW) (by omega))
 unfold maxLen at hnm2
 rcases irV_cases A B zs n ns m with ⟨h1, e1⟩ | ⟨h1, ⟨h2, e1⟩ | ⟨h2, e1⟩⟩
 ·rw [e1]
  rw [h1] at T1
  clear h1 e1
  have tok1 := trivial
  go_enter Try.func10, Try.ntmps10
  go_wp2_with (first | (have _t := tok1; go_at_call 22; (with_reducible refine ((T1 _ bel).out).mono ?_); rintro e w1 ⟨rfl, hb1⟩; clear tok1 _t; have hz1 := hb1.size; (try simp only [sA, sB, sC, sD] at hz1); (try (obtain ⟨kq, qc⟩ := cfAt hb1 (w.heap.size); have qa := kq 0; have qb := kq 1; clear kq; simp [go_sem, *] at qa qb qc)); (try have qh : w.heap.size < w1.heap.size := by omega)) | (go_at_call 23; (with_reducible refine ((T2 _ bel).out).mono ?_); rintro e w' ⟨rfl, rfl⟩))
  go_ret2
  refine ⟨rfl, ?_⟩
  exact bel
 ·rw [e1]
  rw [h1] at T1
  rw [h2] at T2
  clear h1 h2 e1
  have tok1 := trivial
  go_enter Try.func10, Try.ntmps10
  go_wp2_with (first | (have _t := tok1; go_at_call 22; (with_reducible refine ((T1 _ bel).out).mono ?_); rintro e w1 ⟨rfl, hb1⟩; clear tok1 _t; have hz1 := hb1.size; (try simp only [sA, sB, sC, sD] at hz1); (try (obtain ⟨kq, qc⟩ := cfAt hb1 (w.heap.size); have qa := kq 0; have qb := kq 1; clear kq; simp [go_sem, *] at qa qb qc)); (try have qh : w.heap.size < w1.heap.size := by omega)) | (go_at_call 23; (with_reducible refine ((T2 _ bel).out).mono ?_); rintro e w' ⟨rfl, rfl⟩))
  go_ret2
  refine ⟨rfl, ?_⟩
  exact bel
 ·rw [e1]
  clear e1
  obtain ⟨hcv, hn4, hpt⟩ := plB_out h1
  obtain ⟨rfl, hfit⟩ := fitB_out h2
  rw [h1] at T1
  rw [h2] at T2
  clear h1 h2
  have hcb := cvB_bd hcv
  have TC := fun (W : World) (hW : Below w.heap.size w W) => combine_any A B a0 b0 m c0 d0 zs ns W (hp.below hW) (hs.below hW) hcv (by omega) (by omega) hn4 hpt hfit
  have TZ := fun (W : World) (hW : Below w.heap.size w W) => Lib.hid (isZero_any W (hs.below hW))
  have TT := fun W : World => Lib.hid (torsionPoints_any A B W hcv)
  have hok := cmS_ok (A := A) (B := B) (ns := ns) (n := m) hcb.1 hcb.2.1 hpt m (Nat.le_refl _)
  obtain ⟨r1, r2, r3, r4, hr⟩ := pt4 (cmS A zs ns m)
  simp only [hr] at TC hok ⊢
  obtain ⟨⟨v1, v2⟩, hv⟩ : ∃ v, (if r4 = true then (!allB ns 0 0 m && orB A r1 r2 r3, true) else ((false, false) : Bool × Bool)) = v := ⟨_, rfl⟩
  rw [hv]
  have HV := Lib.hid hv
  clear hv
  have HOK := Lib.hid hok
  have HCV := Lib.hid hcv
  clear hr hpt hfit hcv hok
  have tok1 := trivial
  have tok2 := trivial
  have tok3 := trivial
  go_enter Try.func10, Try.ntmps10
  go_upto_region 1 with fail
  refine chk (fun W => Below w.heap.size w W ∧ W.heap[w.heap.size]? = some (.cells #[.int .i64 A, .int .i64 B] 29 (0, 0))) (by refine ⟨?_, ?_⟩ <;> (exact ck)) ?_
  rintro w40 ⟨hB40, qd⟩
  obtain ⟨qk, ql, xd, xw⟩ := bk2 qd
  replace qd := Lib.hid qd
  go_upto_region 3 with (first | (have _t := tok1; go_at_call 22; (with_reducible refine ((T1 _ bel).out).mono ?_); rintro e w1 ⟨rfl, hb1⟩; clear tok1 _t; have hz1 := hb1.size; (try simp only [sA, sB, sC, sD] at hz1); (try (obtain ⟨kq, qc⟩ := cfAt hb1 (w.heap.size); have qa := kq 0; have qb := kq 1; clear kq; simp [go_sem, *] at qa qb qc)); (try have qh : w.heap.size < w1.heap.size := by omega)) | (go_at_call 23; (with_reducible refine ((T2 _ bel).out).mono ?_); rintro e w' ⟨rfl, rfl⟩))
  have qe := (hb1.block (w.heap.size) (blk_lt' qd.out)).trans qd.out
  clear qk ql xd qd
  obtain ⟨qr, qt, xf, zg⟩ := bk2 qe
  replace qe := Lib.hid qe
  have hB1 : Below w.heap.size w w1 := below_via hb1 (by assumption) (by go_size)
  clear T1 T2
  replace qe := qe.out
  refine chk (fun W => Below w.heap.size w W ∧ W.heap[w.heap.size]? = some (.cells #[.int .i64 A, .int .i64 B] 29 (0, 0))) (by refine ⟨?_, ?_⟩ <;> (exact ck)) ?_
  clear qr qt xf qe
  clear hB1
  rintro w2 ⟨hB2, qf⟩
  obtain ⟨qu, qv, xg, zh⟩ := bk2 qf
  replace qf := Lib.hid qf
  go_upto_region 4 with (first | (have _t := tok3; go_at_call 24; (with_reducible refine ((TC _ bel)).mono ?_); rintro e w3 ⟨rfl, hb3⟩; clear tok3 _t; have hz3 := hb3.size; (try simp only [sA, sB, sC, sD] at hz3)))
  have qg := (hb3.block (w.heap.size) (blk_lt' qf.out)).trans qf.out
  clear qu qv xg qf
  obtain ⟨qw, qx, xh, zi⟩ := bk2 qg
  replace qg := Lib.hid qg
  have hB3 : Below w.heap.size w w3 := below_via hb3 (by assumption) (by go_size)
  clear TC
  replace qg := qg.out
  refine chk (fun W => Below w.heap.size w W ∧ W.heap[w.heap.size]? = some (.cells #[.int .i64 A, .int .i64 B] 29 (0, 0)) ∧ W.heap[w3.heap.size]? = some (.cells #[.int .i64 r1, .int .i64 r2, .int .i64 r3] 45 (0, 0))) (by refine ⟨?_, ?_, ?_⟩ <;> (exact ck)) ?_
  clear qw qx xh qg
  clear hB3
  rintro w4 ⟨hB4, qi, qj⟩
  obtain ⟨qy, qz, zj, zk⟩ := bk2 qi
  replace qi := Lib.hid qi
  obtain ⟨xa, xb, xc, zm, zn⟩ := bk3 qj
  replace qj := Lib.hid qj
  generalize w3.heap.size = gp at *
  try clear hb3
  cases r4
  ·have hv := HV.out
   rw [if_neg (by simp)] at hv
   obtain ⟨rfl, rfl⟩ : false = v1 ∧ false = v2 := by simpa using hv
   clear hv HV
   go_wp2_with fail
   go_ret2
   exact ⟨rfl, hB4⟩
  ·have hv := HV.out
   rw [if_pos rfl] at hv
   obtain ⟨rfl, rfl⟩ : (!allB ns 0 0 m && orB A r1 r2 r3) = v1 ∧ true = v2 := by simpa using hv
   clear hv HV
   have hpr : ptB A B r1 r2 r3 = true := by rcases HOK.out with h | h; exact h.2; simp at h
   have hiff := tp_iff HCV.out hpr
   have TK := fun (v : Value) (W : World) (h : SlX W 0 3 v (tpL A B).length (flat3 (tpL A B))) => Lib.hid (containsP_any v 0 (tpL A B) r1 r2 r3 W h (by simp [tpL]))
   have hdec : decide ((r1, r2, r3) ∈ tpL A B) = orB A r1 r2 r3 := by
    rw [Bool.eq_iff_iff]; simpa using hiff
   rw [hdec] at TK
   clear hiff hdec
   obtain ⟨o, ho⟩ : ∃ o, orB A r1 r2 r3 = o := ⟨_, rfl⟩
   obtain ⟨z, hz⟩ : ∃ z, allB ns 0 0 m = z := ⟨_, rfl⟩
   rw [ho] at TK
   rw [hz] at TZ
   have HO := Lib.hid ho
   have HZ := Lib.hid hz
   clear ho hz
   generalize tpL A B = l at *
   cases z
   ·have _t := trivial
    go_wp2_with fail
    refine wp_open (n := 10) (by kernel_rfl) (by kernel_rfl) (by kernel_rfl) (by kernel_rfl) ?_
    simp only [List.take_succ_cons, List.take_zero]
    apply wpS_quiet
    ·intro γ W hW hp
     refine ⟨rfl, ?_⟩
     go_big_quiet_op
     first | exact rfl
    ·exact locS_const _
    try simp only [Act.put, List.setIfInBounds_toArray, List.set_cons_succ, List.set_cons_zero, Nat.reduceAdd]
    apply wpS_quiet
    ·intro γ W hW hp
     refine ⟨rfl, ?_⟩
     go_big_quiet_op
     apply Exists.intro
     refine ⟨fun x => ?_, ?_⟩
     ·(first | (go_at_call 25; (with_reducible exact draw_of_same _ ((TZ _ (below_via (Over.lies _) (below_via hW bel (by go_size)) (by (have := hW.size; (try simp only [sA, sB, sC, sD] at this); omega)))).out))) | (go_at_call 26; (with_reducible exact draw_of _ ((TK _ _ ((openPt_ok qm).via x.lies)).out))))
     exact rfl
    ·exact locS_const _
    try simp only [Act.put, List.setIfInBounds_toArray, List.set_cons_succ, List.set_cons_zero, Nat.reduceAdd]
    apply wpS_quiet
    ·intro γ W hW hp
     refine ⟨rfl, ?_⟩
     go_big_quiet_op
     first | exact rfl
    ·exact locS_const _
    try simp only [Act.put, List.setIfInBounds_toArray, List.set_cons_succ, List.set_cons_zero, Nat.reduceAdd]
    apply wpS_quiet
    ·intro γ W hW hp
     refine ⟨rfl, ?_⟩
     go_big_quiet_op
     first | exact rfl
    ·exact locS_const _
    try simp only [Act.put, List.setIfInBounds_toArray, List.set_cons_succ, List.set_cons_zero, Nat.reduceAdd]
    apply wpS_quiet
    ·intro γ W hW hp
     have hs := hW.size
     (try simp only [sA, sB, sC, sD] at hs)
     have xj := fun x => (xcA hW (w.heap.size) 0 (by first | omega | go_size) x).trans qy
     have xm := fun x => (xcA hW (w.heap.size) 1 (by first | omega | go_size) x).trans qz
     clear hW hp
     refine ⟨rfl, ?_⟩
     go_big_quiet_op
     first | exact rfl
    ·exact locS_const _
    try simp only [Act.put, List.setIfInBounds_toArray, List.set_cons_succ, List.set_cons_zero, Nat.reduceAdd]
    apply wpS_open (openPt l)
    ·intro γ W hW hp
     refine ⟨rfl, ?_⟩
     go_simp
     refine plainNew rfl ?_
     exact open_Pt (TT _).out
    try simp only [Act.put, List.setIfInBounds_toArray, List.set_cons_succ, List.set_cons_zero, Nat.reduceAdd]
    apply wpS_quiet
    ·intro γ W hW hp
     have hs := hW.size
     (try simp only [sA, sB, sC, sD] at hs)
     have xj := fun x => (xcA hW (gp) 0 (by first | omega | go_size) x).trans xa
     have xm := fun x => (xcA hW (gp) 1 (by first | omega | go_size) x).trans xb
     have zo := fun x => (xcA hW (gp) 2 (by first | omega | go_size) x).trans xc
     clear hW hp
     refine ⟨rfl, ?_⟩
     go_big_quiet_op
     first | exact rfl
    ·exact locS_const _
    try simp only [Act.put, List.setIfInBounds_toArray, List.set_cons_succ, List.set_cons_zero, Nat.reduceAdd]
    apply wpS_quiet
    ·intro γ W hW hp
     have qm := hp _ (mR _) (by kernel_rfl)
     dsimp only at qm
     refine ⟨rfl, ?_⟩
     go_big_quiet_op
     apply Exists.intro
     refine ⟨fun x => ?_, ?_⟩
     ·(first | (go_at_call 25; (with_reducible exact draw_of_same _ ((TZ _ (below_via (Over.lies _) (below_via hW bel (by go_size)) (by (have := hW.size; (try simp only [sA, sB, sC, sD] at this); omega)))).out))) | (go_at_call 26; (with_reducible exact draw_of _ ((TK _ _ ((openPt_ok qm).via x.lies)).out))))
     exact rfl
    ·intro γ k g hk
     have xx : updV γ k g 5 = γ 5 := updV_other γ g (fun e => by subst e; exact absurd hk (by rw [show reachB .any _ 100 7 5 = true from by kernel_rfl]; simp))
     first | rfl | simp only [xx]
    try simp only [Act.put, List.setIfInBounds_toArray, List.set_cons_succ, List.set_cons_zero, Nat.reduceAdd]
    apply wpS_quiet
    ·intro γ W hW hp
     refine ⟨rfl, ?_⟩
     go_big_quiet_op
     first | exact rfl
    ·exact locS_const _
    try simp only [Act.put, List.setIfInBounds_toArray, List.set_cons_succ, List.set_cons_zero, Nat.reduceAdd]
    apply wpS_quiet
    ·intro γ W hW hp
     refine ⟨rfl, ?_⟩
     go_big_quiet_op
     first | exact rfl
    ·exact locS_const _
    try simp only [Act.put, List.setIfInBounds_toArray, List.set_cons_succ, List.set_cons_zero, Nat.reduceAdd]
    apply wpS_end
    intro γ w5 hb5 hG5 hA5
    have xi := hG5 _ (mR _)
    dsimp only at xi
    clear hG5 hA5
    simp only [List.drop_succ_cons, List.drop_zero]
    have hz5 := hb5.size
    (try simp only [sA, sB, sC, sD] at hz5)
    go_wp2_with fail
    go_ret2
    refine ⟨by simp [HO.out, HZ.out], ?_⟩
    exact bel
   ·have _t := trivial
    clear TT TK
    go_wp2_with fail
    refine wp_drawn' (n := 10) (by kernel_rfl) (by kernel_rfl) (by kernel_rfl) ?_
    apply Exists.intro
    refine ⟨?_, ?_⟩
    ·intro W hW
     try (have qn := fun x => xcell hW (w.heap.size) (by go_size) x 0; simp [go_sem, *] at qn)
     try (have qo := fun x => xcell hW (w.heap.size) (by go_size) x 1; simp [go_sem, *] at qo)
     simp only [List.take_succ_cons, List.take_zero]
     repeat (go_big_quiet_step ((first | (go_at_call 25; (with_reducible exact draw_of_same _ ((TZ _ (below_via (Over.lies _) (below_via hW bel (by go_size)) (by (have := hW.size; (try simp only [sA, sB, sC, sD] at this); omega)))).out))))))
     exact wpQuiet_nil rfl
    intro w5 hb5
    simp only [List.drop_succ_cons, List.drop_zero, Act.put, List.setIfInBounds_toArray, List.set_cons_succ, List.set_cons_zero]
    have hz5 := hb5.size
    (try simp only [sA, sB, sC, sD] at hz5)
    (try (obtain ⟨kq, xe⟩ := cfAt hb5 (w.heap.size); have qp := kq 0; have qq := kq 1; clear kq; simp [go_sem, *] at qp qq xe))
    (try have xy : w.heap.size < w5.heap.size := by omega)
    (try clear qa qb qc)
    (try clear qh)
    (try clear xn xo xz)
    (try clear za)
    (try clear xp xr zb)
    (try clear zc)
    (try clear xt xu zd)
    (try clear ze)
    go_wp2_with fail
    go_ret2
    refine ⟨by simp [HO.out, HZ.out], ?_⟩
    exact bel
end Go.Proofs.Ytbnglnbcfabmgaa
