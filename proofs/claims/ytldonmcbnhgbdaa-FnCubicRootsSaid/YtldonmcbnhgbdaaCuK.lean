/- The rational roots of a cubic: the reference. -/
import Derived.Test.YtldonmcbnhgbdaaCuD
import Derived.Test.YtldonmcbnhgbdaaCuJ
import Derived.Test.YtldonmcbnhgbdaaFrac
namespace Go.Proofs.Ytldonmcbnhgbdaa
open Go.RowKit
set_option linter.unusedVariables false
set_option maxHeartbeats 4000000
set_option maxRecDepth 20000
set_option linter.unusedSimpArgs false
theorem mkF_red {n e : Int} (he : 1 ≤ e) (h1 : -1000 ≤ n ∧ n ≤ 1000) (h2 : e ≤ 1000) : mkF n e = ((redF n e).1, (redF n e).2, true) := by
  obtain ⟨l1, l2, l3, l4⟩ := redF_spec (n := n) he
  have hn : mkN n e = (redF n e).1 := by unfold mkN redF; rw [if_neg (by omega)]
  have hd : mkD n e = (redF n e).2 := by unfold mkD redF; rw [if_neg (by omega)]
  refine mkF_yes hn hd ?_
  have b1 := l1.den
  have b2 := l1.low
  have q1 := tdiv_bd n (gcdI n e)
  have q2 := tdiv_bd e (gcdI n e)
  have e1 : (redF n e).1 = n.tdiv (gcdI n e) := rfl
  have e2 : (redF n e).2 = e.tdiv (gcdI n e) := rfl
  simp only [frB, inB, Bool.and_eq_true, decide_eq_true_eq, beq_iff_eq]
  refine ⟨⟨⟨by omega, by omega⟩, by omega, by omega⟩, ?_⟩
  unfold gcdI; rw [b2]; rfl
theorem absN (x : Int) : absI x = (x.natAbs : Int) := by unfold absI; omega
theorem putF_len : ∀ (l : List Fr2) (x : Fr2), (putF l x).length ≤ l.length + 1
  | [], x => by simp [putF]
  | y :: l, x => by
    unfold putF
    have := putF_len l x
    split
    · simp; omega
    · split <;> simp
theorem spP_len (a b c d : Int) (l : List Fr2) (n e : Int) : (spP a b c d l n e).length ≤ l.length + 1 := by
  unfold spP; split
  · exact putF_len _ _
  · omega
def spX (a b c d n e : Int) (l : List Fr2) (t : Nat) : List Fr2 := if t = 0 then l else if t = 1 then spP a b c d l n e else spP a b c d (spP a b c d l n e) (-n) e
theorem spX_len (a b c d n e : Int) (l : List Fr2) (t : Nat) : (spX a b c d n e l t).length ≤ l.length + 2 := by
  unfold spX
  have h1 := spP_len a b c d l n e
  have h2 := spP_len a b c d (spP a b c d l n e) (-n) e
  split
  · omega
  · split <;> omega
theorem spX_end (a b c d n e : Int) (l : List Fr2) : spX a b c d n e l 2 = spE a b c d n l e := by simp [spX, spE]
def spY (n : Int) (t : Nat) : Int := if t = 0 then n else -n
theorem spX_step (a b c d n e : Int) (l : List Fr2) {t : Nat} (h : t < 2) : spX a b c d n e l (t + 1) = spP a b c d (spX a b c d n e l t) (spY n t) e := by
  rcases (show t = 0 ∨ t = 1 by omega) with rfl | rfl <;> simp [spX, spY]
theorem RoL.spX {a b c d n e : Int} {l : List Fr2} (h : RoL a b c d l) (he : 1 ≤ e) (t : Nat) : RoL a b c d (Go.Proofs.Ytldonmcbnhgbdaa.spX a b c d n e l t) := by
  unfold Go.Proofs.Ytldonmcbnhgbdaa.spX
  split
  · exact h
  · split
    · exact h.put he
    · exact (h.put he).put he
theorem cdV_ne {N : Nat} (h : 1 ≤ N) : cdV N N ≠ [] := fun q => by
  have := (cdV_mem (N := N) (k := N) (x := 1)).2 ⟨by omega, by omega, by simp⟩
  rw [q] at this; cases this
/-- the cells of a block hold integers -/
def RowZ (W : World) (g : Nat) (zs : List Int) : Prop := g < W.heap.size ∧ ∀ j, j < zs.length → W.cell? ⟨g, j, none⟩ = some (.int .i64 (zs[j]?.getD 0))
theorem RowZ.via {W V : World} {g : Nat} {zs : List Int} (h : RowZ W g zs) (hb : Below W.heap.size W V) : RowZ V g zs := ⟨Nat.lt_of_lt_of_le h.1 hb.size, fun j hj => (hb.cell (p := ⟨g, j, none⟩) h.1).trans (h.2 j hj)⟩
theorem ownI_row {W : World} {B : Nat} {T : TypeId} {v : Value} {zs : List Int} (h : OwnI W B T v zs) (hne : zs ≠ []) : ∃ g cap, v = .slice (some ⟨g, 0, none⟩) zs.length cap ∧ zs.length ≤ cap ∧ cap ≤ maxLen ∧ RowZ W g zs := by
  rcases h.shape with ⟨-, h2⟩ | ⟨g, cap, h1, h2, h3, h4, h5, h6, h7⟩
  · exact (hne h2).elim
  · exact ⟨g, cap, h1, h2, h3, h5, h6⟩
theorem getD_mem {zs : List Int} {j : Nat} (h : j < zs.length) : zs[j]?.getD 0 ∈ zs := by rw [List.getElem?_eq_getElem h]; simp
theorem take_foldl {α : Type} (f : α → Int → α) (zs : List Int) (z : α) {i : Nat} (h : i < zs.length) : (zs.take (i + 1)).foldl f z = f ((zs.take i).foldl f z) (zs[i]?.getD 0) := by
  rw [List.take_add_one, List.foldl_append, List.getElem?_eq_getElem h]; rfl
def CrIn (w : World) (a b c d : Int) (v : Value) (l : List Fr2) (X : Nat) (wr : World) : Prop := SlR wr w.heap.size v l ∧ RoL a b c d l ∧ l.length ≤ X ∧ wr.heap[w.heap.size]? = some (.cells #[.int .i64 a, .int .i64 b, .int .i64 c, .int .i64 d] 24 (0, 0)) ∧ Below w.heap.size w wr
theorem CrIn.via {w W V : World} {a b c d : Int} {v : Value} {l : List Fr2} {X : Nat} (h : CrIn w a b c d v l X W) (hb : Below W.heap.size W V) : CrIn w a b c d v l X V :=
  ⟨h.1.via hb, h.2.1, h.2.2.1, (hb.block _ (blk_lt' h.2.2.2.1)).trans h.2.2.2.1, h.2.2.2.2.trans (hb.mono h.2.2.2.2.size)⟩
theorem CrIn.more {w W : World} {a b c d : Int} {v : Value} {l : List Fr2} {X Y : Nat} (h : CrIn w a b c d v l X W) (hb : X ≤ Y) : CrIn w a b c d v l Y W := ⟨h.1, h.2.1, Nat.le_trans h.2.2.1 hb, h.2.2.2.1, h.2.2.2.2⟩
def C1Rel (w : World) (a b c d : Int) (g1 : Nat) (D1 D2 : List Int) (l0 : List Fr2) (ov iv : Value) (wr : World) : Prop := ∃ (i : Nat) (v : Value), iv = .int .i64 i ∧ v = ov ∧ i ≤ D1.length ∧ RowZ wr g1 D1 ∧ CrIn w a b c d v ((D1.take i).foldl (spN a b c d D2) l0) (1 + i * 2000) wr
def C2Rel (w : World) (a b c d n : Int) (g1 g2 : Nat) (D1 D2 : List Int) (l1 : List Fr2) (X : Nat) (ov jv : Value) (wr : World) : Prop := ∃ (j : Nat) (v : Value), jv = .int .i64 j ∧ v = ov ∧ j ≤ D2.length ∧ RowZ wr g1 D1 ∧ RowZ wr g2 D2 ∧ CrIn w a b c d v ((D2.take j).foldl (spE a b c d n) l1) (X + 2 * j) wr
def C3Rel (w : World) (a b c d n e : Int) (g1 g2 g3 : Nat) (D1 D2 : List Int) (l2 : List Fr2) (X : Nat) (ov tv : Value) (wr : World) : Prop := ∃ (t : Nat) (v : Value), tv = .int .i64 t ∧ v = ov ∧ t ≤ 2 ∧ RowZ wr g1 D1 ∧ RowZ wr g2 D2 ∧ wr.heap[g3]? = some (.cells #[.int .i64 n, .int .i64 (-n)] 3 (0, 0)) ∧ CrIn w a b c d v (spX a b c d n e l2 t) (X + 2) wr
theorem frInt_any (a : Int) (w : World) : Calls Try.prog 51 #[.int .i64 a] w fun e w' => e = .returned (.agg #[.int .i64 a, .int .i64 1]) ∧ Below w.heap.size w w' := by
  go_enter Try.func51, Try.ntmps51
  go_wp2
  refine bodyPost_ret (v := _) (by simp [results, Try.results51, go_sem, *]) rfl ⟨rfl, ?_⟩
  repeat' first | (with_reducible first | apply zRf | assumption | apply zDn | apply zDr | apply zAl | apply zSt | refine zVi (by assumption) ?_ ?_) | go_size
theorem cuRoots_d (a b c d : Int) (w : World) (hcu : cuB a b c d = true) (hd0 : ¬ d = 0) : Calls Try.prog 28 #[.agg #[.int .i64 a, .int .i64 b, .int .i64 c, .int .i64 d]] w fun r w' => ∃ v, r = .returned v ∧ SlR w' w.heap.size v (spL a b c d) ∧ Below w.heap.size w w' := by
  obtain ⟨i0, hi, iz0, iz1, iz2⟩ := info_parts infoFr
  obtain ⟨h0, ha, hb, hc, hd⟩ := cuB_bd hcu
  have H0 := Lib.hid h0
  clear hcu h0
  have tok1 : True := trivial
  have tok2 : True := trivial
  have tok3 : True := trivial
  have tok4 : True := trivial
  have tok5 : True := trivial
  have tok6 : True := trivial
  have tok7 : True := trivial
  have tok8 : True := trivial
  have tok9 : True := trivial
  go_enter Try.func28, Try.ntmps28
  go_upto_region 3 with fail
  refine chk (fun W => Below w.heap.size w W ∧ W.heap[w.heap.size]? = some (.cells #[.int .i64 a, .int .i64 b, .int .i64 c, .int .i64 d] 24 (0, 0))) (by refine ⟨?_, ?_⟩ <;> (repeat' first | (with_reducible first | assumption | (apply Ne.symm; assumption) | apply Nat.le_refl | apply Nat.le_add_right | apply zL | apply zRf | apply Wx.box | apply Wx.box4 | apply zWa | apply Wx.drew | apply zWn | apply bx_drew | apply bx_drewN | apply bx_set3 | apply bx_set2 | apply bx_set4 | apply bx_set1) | ((with_reducible apply bx_new); (focus (go_size; done))) | (with_reducible first | apply zOl | apply zFa | apply zDn | apply zDr | apply zAl | apply zSt | refine zVi (by assumption) ?_ ?_) | go_size | omega)) ?_
  rintro w1 ⟨hB1, H_Q_1⟩
  obtain ⟨k_Q_1_0, k_Q_1_1, k_Q_1_2, k_Q_1_3, f_Q_1, l_Q_1⟩ := bk4 H_Q_1
  replace H_Q_1 := Lib.hid H_Q_1
  have hs1 := hB1.size
  have HQ := Lib.hid H_Q_1.out
  have hdd : (d == 0) = false := by simpa using hd0
  have HL0 := Lib.hid hd0
  have HL := Lib.hid (show laV b c d = d by unfold laV; rw [if_pos hd0])
  have HST0 := Lib.hid (show CrIn w a b c d (.slice none 0 0) (spB d) 1 w1 from ⟨.inl ⟨rfl, by unfold spB; rw [if_neg hd0]⟩, RoL.base a b c d, by unfold spB; rw [if_neg hd0]; simp, HQ.out, hB1⟩)
  clear hd0
  go_upto_region 10 with fail
  obtain ⟨N, hN⟩ : ∃ N, Int.natAbs d = N := ⟨_, rfl⟩
  obtain ⟨M, hM⟩ : ∃ M, Int.natAbs a = M := ⟨_, rfl⟩
  have hN1 : 1 ≤ N ∧ N ≤ 1000 := by have := HL0.out; omega
  have hM1 : 1 ≤ M ∧ M ≤ 1000 := by have := H0.out; omega
  have TA1 := fun W : World => Lib.hid (l1Abs_any d W (by omega) (by omega))
  rw [absN, hN] at TA1
  have TA2 := fun W : World => Lib.hid (l1Abs_any a W (by omega) (by omega))
  rw [absN, hM] at TA2
  have TD1 := fun W : World => Lib.hid (cuDivisors_any N W (by omega))
  have TD2 := fun W : World => Lib.hid (cuDivisors_any M W (by omega))
  have hD1l := cdV_len N N
  have hD2l := cdV_len M M
  have HD2P := Lib.hid (fun e (he : e ∈ cdV M M) => (cdV_mem.1 he))
  have HD1P := Lib.hid (fun e (he : e ∈ cdV N N) => (cdV_mem.1 he))
  have hD1n := cdV_ne hN1.1
  have hD2n := cdV_ne hM1.1
  have HSL := Lib.hid (show spL a b c d = (cdV N N).foldl (spN a b c d (cdV M M)) (spB d) by unfold spL; rw [HL.out, if_neg HL0.out, hN, hM])
  have HE := Lib.hid (fun e (he : e ∈ cdV M M) => (cdV_mem.1 he).1)
  obtain ⟨D1, hD1⟩ : ∃ D, cdV N N = D := ⟨_, rfl⟩
  obtain ⟨D2, hD2⟩ : ∃ D, cdV M M = D := ⟨_, rfl⟩
  rw [hD1] at hD1l hD1n HSL TD1 HD1P
  rw [hD2] at hD2l hD2n HSL TD2 HD2P HE
  have HDN := Lib.hid (And.intro hD1n hD2n)
  clear hN hM hD1 hD2 hD1n hD2n
  go_wp2_with (first | (go_at_call 43; (with_reducible refine ((TA1 _).out).mono ?_); rintro e w' ⟨rfl, rfl⟩) | (have _t := tok2; go_at_call 52; (with_reducible refine ((TD1 _).out).mono ?_); rintro e w2 ⟨v1, rfl, ho1, hb2⟩; clear tok2 _t; have hz2 := hb2.size; (try simp only [World.size_alloc, World.size_setCell, World.size_drew, World.size_drewN'] at hz2); obtain ⟨g1, c1, rfl, hc1, hm1, hr1⟩ := ownI_row ho1 HDN.out.1; unfold maxLen at hm1))
  have hs2 := hb2.size
  have HST1 := Lib.hid (CrIn.via HST0.out hb2)
  have HR1 := Lib.hid hr1
  clear HST0 ho1 hr1 TA1 TD1
  go_loopw [3, 34] (fun ov iv wr => C1Rel w a b c d g1 D1 D2 (spB d) ov iv wr) (fun _ iv _ => (D1.length - intOf iv).toNat)
  case atStart => exact ⟨0, _, rfl, rfl, by omega, HR1.out, HST1.out⟩
  case round =>
    obtain ⟨i, v, rfl, rfl, hi1, hr1, ho1, hrl1, hln1, hQ1, hb1w⟩ := hrel
    have hs1 := hb1w.size
    have HCR1 := Lib.hid (show CrIn w a b c d v ((D1.take i).foldl (spN a b c d D2) (spB d)) (1 + i * 2000) wr from ⟨ho1, hrl1, hln1, hQ1, hb1w⟩)
    have q0 : wr.cell? ⟨w.heap.size, 0, none⟩ = some (.int .i64 a) := blk_cell hQ1 0
    have lq := blk_lt' hQ1
    have hgl1 := hr1.1
    have HRR1 := Lib.hid hr1
    clear ho1 hrl1 hln1 hQ1
    by_cases hil : i < D1.length
    · have hilc : (i : Int) < (D1.length : Int) := by omega
      have c0 := hr1.2 i hil
      obtain ⟨n1, hn1⟩ : ∃ n1, D1[i]?.getD 0 = n1 := ⟨_, rfl⟩
      have hnb := HD1P.out n1 (by rw [← hn1]; exact getD_mem hil)
      have HTK := Lib.hid (by have := take_foldl (spN a b c d D2) D1 (spB d) hil; rw [hn1] at this; exact this)
      rw [hn1] at c0
      obtain ⟨l1, hl1⟩ : ∃ l1, (D1.take i).foldl (spN a b c d D2) (spB d) = l1 := ⟨_, rfl⟩
      rw [hl1] at HCR1 HTK
      have hi1000 : i < 1000 := by omega
      clear hl1 hn1 hr1
      go_wp2_with (first | (go_at_call 43; (with_reducible refine ((TA2 _).out).mono ?_); rintro e w' ⟨rfl, rfl⟩) | (have _t := tok3; go_at_call 52; (with_reducible refine ((TD2 _).out).mono ?_); rintro e w3 ⟨v2, rfl, ho2, hb3⟩; clear tok3 _t; have hz3 := hb3.size; (try simp only [World.size_alloc, World.size_setCell, World.size_drew, World.size_drewN'] at hz3); obtain ⟨g2, c2, rfl, hc2, hm2, hr2⟩ := ownI_row ho2 HDN.out.2; unfold maxLen at hm2))
      have hs3 := hb3.size
      have HRR13 := Lib.hid (HRR1.out.via hb3)
      have HCR13 := Lib.hid (CrIn.via HCR1.out hb3)
      have HR2 := Lib.hid hr2
      clear HRR1 HCR1 ho2 hr2 q0 c0 TA2 TD2 hb3
      go_loopw [3, 43] (fun ov jv wr => C2Rel w a b c d n1 g1 g2 D1 D2 l1 (1 + i * 2000) ov jv wr) (fun _ jv _ => (D2.length - intOf jv).toNat)
      case atStart => exact ⟨0, v, rfl, rfl, by omega, HRR13.out, HR2.out, HCR13.out⟩
      case round =>
        obtain ⟨j, v, rfl, rfl, hj1, hr1, hr2, ho2, hrl2, hln2, hQ2, hb2w⟩ := hrel
        have hs2' := hb2w.size
        have HCR2 := Lib.hid (show CrIn w a b c d v ((D2.take j).foldl (spE a b c d n1) l1) (1 + i * 2000 + 2 * j) wr from ⟨ho2, hrl2, hln2, hQ2, hb2w⟩)
        have HRR1 := Lib.hid hr1
        have HRR2 := Lib.hid hr2
        have lq2 := blk_lt' hQ2
        clear ho2 hrl2 hln2 hQ2 hr1
        by_cases hjl : j < D2.length
        · have hjlc : (j : Int) < (D2.length : Int) := by omega
          have d0 := hr2.2 j hjl
          have hgl2 := hr2.1
          obtain ⟨e1, he1⟩ : ∃ e1, D2[j]?.getD 0 = e1 := ⟨_, rfl⟩
          have heb := HD2P.out e1 (by rw [← he1]; exact getD_mem hjl)
          have HTK2 := Lib.hid (by have := take_foldl (spE a b c d n1) D2 l1 hjl; rw [he1] at this; exact this)
          rw [he1] at d0
          obtain ⟨l2, hl2⟩ : ∃ l2, (D2.take j).foldl (spE a b c d n1) l1 = l2 := ⟨_, rfl⟩
          rw [hl2] at HCR2 HTK2
          have hj1000 : j < 1000 := by omega
          obtain ⟨wz, hwz⟩ : ∃ wz, wz = wr := ⟨_, rfl⟩
          subst hwz
          have hln2 := HCR2.out.2.2.1
          clear hl2 he1 hr2
          go_wp2_with fail
          go_loopw [3, 52] (fun ov tv W => C3Rel w a b c d n1 e1 g1 g2 wz.heap.size D1 D2 l2 (1 + i * 2000 + 2 * j) ov tv W) (fun _ tv _ => (2 - intOf tv).toNat)
          case atStart => exact ⟨0, v, rfl, rfl, by omega, HRR1.out.via ((Below.refl _ _).alloc (Nat.le_refl _) _), HRR2.out.via ((Below.refl _ _).alloc (Nat.le_refl _) _), heap_alloc_new _ _, CrIn.more (CrIn.via HCR2.out ((Below.refl _ _).alloc (Nat.le_refl _) _)) (by omega)⟩
          case round =>
            obtain ⟨t, v, rfl, rfl, ht, hr1, hr2, hR4, ho4, hrl4, hln4, hQ4, hb4w⟩ := hrel
            have hs4 := hb4w.size
            by_cases htl : t < 2
            · have htc : (t : Int) < 2 := by omega
              have hst := spX_step a b c d n1 e1 l2 htl
              have hle := spX_len a b c d n1 e1 l2 (t + 1)
              obtain ⟨x, hx⟩ : ∃ x, spY n1 t = x := ⟨_, rfl⟩
              have c0 : wr.cell? ⟨wz.heap.size, t, none⟩ = some (.int .i64 x) := by
                have hcc := blk_cell hR4
                rw [← hx]
                rcases (show t = 0 ∨ t = 1 by omega) with rfl | rfl
                · exact hcc 0
                · exact hcc 1
              have hxb : -1000 ≤ x ∧ x ≤ 1000 := by rw [← hx]; unfold spY; split <;> omega
              have p0 : wr.cell? ⟨w.heap.size, 0, none⟩ = some (.int .i64 a) := blk_cell hQ4 0
              have p1 : wr.cell? ⟨w.heap.size, 1, none⟩ = some (.int .i64 b) := blk_cell hQ4 1
              have p2 : wr.cell? ⟨w.heap.size, 2, none⟩ = some (.int .i64 c) := blk_cell hQ4 2
              have p3 : wr.cell? ⟨w.heap.size, 3, none⟩ = some (.int .i64 d) := blk_cell hQ4 3
              have hlr := blk_lt' hR4
              have hlq := blk_lt' hQ4
              have TV := fun W : World => Lib.hid (cuValue_any a b c d x e1 W ha hb hc hd (by omega) (by omega))
              rw [hx] at hst
              have hro := hrl4.put (n := x) (e := e1) heb.1
              rw [← hst] at hro
              rw [hst] at hle
              have hst1 := hst
              unfold spP at hst1
              have hmk := mkF_red (n := x) (e := e1) heb.1 hxb (by omega)
              have hrt := fun hz => redF_root (a := a) (b := b) (c := c) (d := d) (n := x) (e := e1) heb.1 hz
              obtain ⟨z, hz⟩ : ∃ z, cuV a b c d x e1 = z := ⟨_, rfl⟩
              rw [hz] at TV hst1
              obtain ⟨l3, hl3⟩ : ∃ l3, spX a b c d n1 e1 l2 t = l3 := ⟨_, rfl⟩
              rw [hl3] at hst1 ho4 hln4 hrl4
              rw [← hst] at hle
              have HRO := Lib.hid hro
              have HLE := Lib.hid hle
              have HO4 := Lib.hid ho4
              have HRL := Lib.hid hrl4
              have HQ4 := Lib.hid hQ4
              have HR4 := Lib.hid hR4
              have HRR1 := Lib.hid hr1
              have HRR2 := Lib.hid hr2
              clear hst hx hl3 ho4 hrl4 hQ4 hR4 hr1 hr2 hro hle
              by_cases hz0 : z = 0
              · rw [if_pos hz0] at hst1
                have hrt := hrt (by rw [hz]; exact hz0)
                have hfx := rt_fx ha hb hc hd H0.out hrt
                obtain ⟨⟨n5, e5⟩, hre⟩ : ∃ y, redF x e1 = y := ⟨_, rfl⟩
                rw [hre] at hst1 hfx hmk
                simp only at hfx hmk
                have TM := fun W : World => Lib.hid (frMake_any x e1 W (by omega) (by omega) (by omega) (by omega) (by omega))
                rw [hmk] at TM
                have HST := Lib.hid hst1
                have hzz : (z == 0) = true := by simpa using hz0
                have hfs : FrS (n5, e5) := by unfold FrS; simp only; omega
                have HFS := Lib.hid (fun y (hy : y ∈ l3) => (show FrS y by have := rt_fx ha hb hc hd H0.out (HRL.out.all y hy); unfold FrS; omega))
                clear hst1 hrt hz hre hmk hz0 hfx
                go_upto_region 20 with (first | (have _t := tok4; go_at_call 34; (with_reducible refine ((TV _).out).mono ?_); rintro e w4 ⟨rfl, hb4⟩; clear tok4 _t; have hz4 := hb4.size; (try simp only [World.size_alloc, World.size_setCell, World.size_drew, World.size_drewN'] at hz4)))
                have HRR14 := Lib.hid (HRR1.out.via hb4)
                have HRR24 := Lib.hid (HRR2.out.via hb4)
                have HQ44 := Lib.hid (keepR hb4 HQ4.out)
                have HR44 := Lib.hid (keepR hb4 HR4.out)
                have HO44 := Lib.hid (HO4.out.via hb4)
                have hb44w := hb4w.trans (hb4.mono hs4)
                have hs44 := hb44w.size
                clear HRR1 HRR2 HQ4 HR4 HO4 p0 p1 p2 p3 c0 TV hb4w hb4
                go_upto_region 21 with (first | (have _t := tok5; go_at_call 53; (with_reducible refine ((TM _).out).mono ?_); rintro e w5 ⟨rfl, hb5⟩; clear tok5 _t; have hz5 := hb5.size; (try simp only [World.size_alloc, World.size_setCell, World.size_drew, World.size_drewN'] at hz5)))
                have HRR15 := Lib.hid (HRR14.out.via hb5)
                have HRR25 := Lib.hid (HRR24.out.via hb5)
                have HQ45 := Lib.hid (keepR hb5 HQ44.out)
                have HR45 := Lib.hid (keepR hb5 HR44.out)
                have HO45 := Lib.hid (HO44.out.via hb5)
                have hb45w := hb44w.trans (hb5.mono hs44)
                have hs45 := hb45w.size
                have TP := fun (W : World) (hW : Below w5.heap.size w5 W) => Lib.hid (cuPut_any v w.heap.size l3 n5 e5 W (HO45.out.via hW) (Nat.le_trans hs45 hW.size) HFS.out hfs (by omega))
                clear HRR14 HRR24 HQ44 HR44 HO44 TM hb44w hb5
                go_wp2_with (first | (have _t := tok6; go_at_call 54; (with_reducible refine ((TP _ (by repeat' first | (with_reducible first | apply zRf | assumption | apply zDn | apply zDr | apply zAl | apply zSt | refine zVi (by assumption) ?_ ?_) | go_size)).out).mono ?_); rintro e w6 ⟨v6, rfl, hs6, hb6⟩; clear tok6 _t; have hz6 := hb6.size; (try simp only [World.size_alloc, World.size_setCell, World.size_drew, World.size_drewN'] at hz6)))
                have hb56 : Below w5.heap.size w5 w6 := below_via hb6 (by repeat' first | (with_reducible first | apply zRf | assumption | apply zDn | apply zDr | apply zAl | apply zSt | refine zVi (by assumption) ?_ ?_) | go_size) (by simp)
                have hst := HST.out
                go_roundw
                case rel => exact ⟨t + 1, v6, by go_num, rfl, by omega, HRR15.out.via hb56, HRR25.out.via hb56, keepR hb56 HR45.out, (by rw [HST.out]; exact hs6), HRO.out, Nat.le_trans HLE.out (by omega), keepR hb56 HQ45.out, hb45w.trans (hb56.mono hs45)⟩
                case measure => simp [intOf]; omega
              · rw [if_neg hz0] at hst1
                have HST := Lib.hid hst1
                have hzz : (z == 0) = false := by simpa using hz0
                clear hst1 hrt hz hmk hz0
                go_wp2_with (first | (have _t := tok4; go_at_call 34; (with_reducible refine ((TV _).out).mono ?_); rintro e w4 ⟨rfl, hb4⟩; clear tok4 _t; have hz4 := hb4.size; (try simp only [World.size_alloc, World.size_setCell, World.size_drew, World.size_drewN'] at hz4)))
                go_roundw
                case rel => exact ⟨t + 1, v, by go_num, rfl, by omega, HRR1.out.via hb4, HRR2.out.via hb4, keepR hb4 HR4.out, (by rw [HST.out]; exact HO4.out.via hb4), HRO.out, Nat.le_trans HLE.out (by omega), keepR hb4 HQ4.out, hb4w.trans (hb4.mono hs4)⟩
                case measure => simp [intOf]; omega
            · obtain rfl : t = 2 := by omega
              have HX := (show CrIn w a b c d v (spX a b c d n1 e1 l2 2) (1 + i * 2000 + 2 * j + 2) wr from ⟨ho4, hrl4, hln4, hQ4, hb4w⟩)
              rw [spX_end, ← HTK2.out] at HX
              have HX2 := Lib.hid (CrIn.more (Y := 1 + i * 2000 + 2 * (j + 1)) HX (by omega))
              have HRR1 := Lib.hid hr1
              have HRR2 := Lib.hid hr2
              clear HX ho4 hrl4 hln4 hQ4 hR4 hr1 hr2
              go_wp2_with fail
              go_roundw
              case rel =>
                first
                | exact ⟨j + 1, v, by go_num, rfl, by omega, HRR1.out, HRR2.out, HX2.out⟩
                | ((repeat (with_reducible apply Exists.intro)); exact ⟨⟨j + 1, v, by go_num, rfl, by omega, HRR1.out, HRR2.out, HX2.out⟩, rfl⟩)
              case measure => simp [intOf]; omega
        · obtain rfl : j = D2.length := by omega
          have HX := HCR2.out
          rw [List.take_length, show D2.foldl (spE a b c d n1) l1 = spN a b c d D2 l1 n1 from rfl, ← HTK.out] at HX
          have HX2 := Lib.hid (CrIn.more (Y := 1 + (i + 1) * 2000) HX (by omega))
          clear HX HCR2
          go_wp2_with fail
          go_roundw
          case rel =>
            first
            | exact ⟨i + 1, v, by go_num, rfl, by omega, HRR1.out, HX2.out⟩
            | ((repeat (with_reducible apply Exists.intro)); exact ⟨⟨i + 1, v, by go_num, rfl, by omega, HRR1.out, HX2.out⟩, rfl⟩)
          case measure => simp [intOf]; omega
    · obtain rfl : i = D1.length := by omega
      have HX := HCR1.out
      rw [List.take_length, ← HSL.out] at HX
      have HX2 := Lib.hid HX
      clear HX HCR1 hr1
      go_wp2_with fail
      go_ret
      exact ⟨_, rfl, HX2.out.1, hb1w⟩
end Go.Proofs.Ytldonmcbnhgbdaa
