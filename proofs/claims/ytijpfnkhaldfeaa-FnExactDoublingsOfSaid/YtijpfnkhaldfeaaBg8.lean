/- Products of whole numbers: the reference. -/
import Derived.Test.YtijpfnkhaldfeaaBg7
namespace Go.Proofs.Ytijpfnkhaldfeaa
open Go.RowKit
set_option linter.unusedVariables false
set_option maxHeartbeats 1000000
set_option maxRecDepth 20000
set_option linter.unusedSimpArgs false
attribute [local go_sem] openAt openUpon
theorem bgSub_any (b b2 : Bool) (a a2 : Option Addr) (n c n2 c2 : Nat) (x y : Int) (w : World) (hs : Wx w b a n c x) (hs2 : Wx w b2 a2 n2 c2 y) (hl : n ≤ 90000) (hl2 : n2 ≤ 90000) :
    Calls Try.prog 43 #[.agg #[.bool b, .slice a n c], .agg #[.bool b2, .slice a2 n2 c2]] w (NewW w (x - y)) := by
  have HL2 := Lib.hid hs2.ln
  have TA : ∀ (W : World) (b3 : Bool) (a3 : Option Addr) (n3 c3 : Nat), Wx W b a n c x → Wx W b3 a3 n3 c3 (-y) → Calls Try.prog 46 #[.agg #[.bool b, .slice a n c], .agg #[.bool b3, .slice a3 n3 c3]] W (NewW W (x - y)) := fun W b3 a3 n3 c3 h1 h2 => by
    have hn3 := h2.ln
    rw [ln_neg, ← HL2.out] at hn3
    have := bgAdd_any b b3 a a3 n c n3 c3 x (-y) W h1 h2 hl (by omega)
    rw [show x + -y = x - y by omega] at this
    exact this
  go_enter Try.func43, Try.ntmps43
  go_wp2_with fail
  refine wp_open (n := 4) (by kernel_rfl) (by kernel_rfl) (by kernel_rfl) (by kernel_rfl) ?_
  simp only [List.take_succ_cons, List.take_zero]
  apply wpS_quiet
  · intro γ W hW hp
    have hs := hW.size
    (try simp only [World.size_alloc, World.size_setCell, World.size_drew, World.size_drewN'] at hs)
    try (have kx_w_0_0 := fun x : Over W => (cellAt x.lies (w.heap.size) (by omega) 0).trans (cellAt hW (w.heap.size) (by go_size) 0); simp [go_sem, *] at kx_w_0_0)
    try (have kx_w_0_1 := fun x : Over W => (cellAt x.lies (w.heap.size) (by omega) 1).trans (cellAt hW (w.heap.size) (by go_size) 1); simp [go_sem, *] at kx_w_0_1)
    try (have kx_w_1_0 := fun x : Over W => (cellAt x.lies (w.heap.size + 1) (by omega) 0).trans (cellAt hW (w.heap.size + 1) (by go_size) 0); simp [go_sem, *] at kx_w_1_0)
    try (have kx_w_1_1 := fun x : Over W => (cellAt x.lies (w.heap.size + 1) (by omega) 1).trans (cellAt hW (w.heap.size + 1) (by go_size) 1); simp [go_sem, *] at kx_w_1_1)
    try (have kx_w_2_0 := fun x : Over W => (cellAt x.lies (w.heap.size + 1 + 1) (by omega) 0).trans (cellAt hW (w.heap.size + 1 + 1) (by go_size) 0); simp [go_sem, *] at kx_w_2_0)
    try (have kx_w_2_1 := fun x : Over W => (cellAt x.lies (w.heap.size + 1 + 1) (by omega) 1).trans (cellAt hW (w.heap.size + 1 + 1) (by go_size) 1); simp [go_sem, *] at kx_w_2_1)
    clear hW hp
    refine ⟨rfl, ?_⟩
    go_big_quiet_op
    first | exact rfl
  · exact locS_const _
  try simp only [Act.put, List.setIfInBounds_toArray, List.set_cons_succ, List.set_cons_zero, Nat.reduceAdd]
  apply wpS_quiet
  · intro γ W hW hp
    have hs := hW.size
    (try simp only [World.size_alloc, World.size_setCell, World.size_drew, World.size_drewN'] at hs)
    try (have kx_w_0_0 := fun x : Over W => (cellAt x.lies (w.heap.size) (by omega) 0).trans (cellAt hW (w.heap.size) (by go_size) 0); simp [go_sem, *] at kx_w_0_0)
    try (have kx_w_0_1 := fun x : Over W => (cellAt x.lies (w.heap.size) (by omega) 1).trans (cellAt hW (w.heap.size) (by go_size) 1); simp [go_sem, *] at kx_w_0_1)
    try (have kx_w_1_0 := fun x : Over W => (cellAt x.lies (w.heap.size + 1) (by omega) 0).trans (cellAt hW (w.heap.size + 1) (by go_size) 0); simp [go_sem, *] at kx_w_1_0)
    try (have kx_w_1_1 := fun x : Over W => (cellAt x.lies (w.heap.size + 1) (by omega) 1).trans (cellAt hW (w.heap.size + 1) (by go_size) 1); simp [go_sem, *] at kx_w_1_1)
    try (have kx_w_2_0 := fun x : Over W => (cellAt x.lies (w.heap.size + 1 + 1) (by omega) 0).trans (cellAt hW (w.heap.size + 1 + 1) (by go_size) 0); simp [go_sem, *] at kx_w_2_0)
    try (have kx_w_2_1 := fun x : Over W => (cellAt x.lies (w.heap.size + 1 + 1) (by omega) 1).trans (cellAt hW (w.heap.size + 1 + 1) (by go_size) 1); simp [go_sem, *] at kx_w_2_1)
    clear hW hp
    refine ⟨rfl, ?_⟩
    go_big_quiet_op
    first | exact rfl
  · exact locS_const _
  try simp only [Act.put, List.setIfInBounds_toArray, List.set_cons_succ, List.set_cons_zero, Nat.reduceAdd]
  apply wpS_open (openW (w.heap.size + 3) (-y))
  · intro γ W hW hp
    have kc_w_0 := cellAt hW (w.heap.size) (by go_size)
    try simp [go_sem, *] at kc_w_0
    have kc_w_1 := cellAt hW (w.heap.size + 1) (by go_size)
    try simp [go_sem, *] at kc_w_1
    have kc_w_2 := cellAt hW (w.heap.size + 1 + 1) (by go_size)
    try simp [go_sem, *] at kc_w_2
    refine ⟨rfl, ?_⟩
    go_simp
    refine plainNew rfl ?_
    exact open_W (bgMinus_any b2 a2 n2 c2 y W ((hs2.below (by repeat' first | (with_reducible first | apply zRf | assumption | apply zDn | apply zDr | apply zAl | apply zSt | refine zVi (by assumption) ?_ ?_) | go_size)).below hW) (by omega)) (by (have := hW.size; (try simp only [World.size_alloc, World.size_setCell, World.size_drew, World.size_drewN'] at this); omega))
  try simp only [Act.put, List.setIfInBounds_toArray, List.set_cons_succ, List.set_cons_zero, Nat.reduceAdd]
  apply wpS_open (openW (w.heap.size + 3) (x - y))
  · intro γ W hW hp
    have hp_2 := hp _ (List.mem_append_right _ (List.mem_singleton.2 rfl)) (by kernel_rfl)
    dsimp only at hp_2
    have kc_w_0 := cellAt hW (w.heap.size) (by go_size)
    try simp [go_sem, *] at kc_w_0
    have kc_w_1 := cellAt hW (w.heap.size + 1) (by go_size)
    try simp [go_sem, *] at kc_w_1
    have kc_w_2 := cellAt hW (w.heap.size + 1 + 1) (by go_size)
    try simp [go_sem, *] at kc_w_2
    refine ⟨rfl, ?_⟩
    go_simp
    refine plainNew rfl ?_
    obtain ⟨b3, a3, n3, c3, e3, h3, _⟩ := hp_2
    rw [e3]
    exact open_W (TA _ _ _ _ _ ((hs.below (by repeat' first | (with_reducible first | apply zRf | assumption | apply zDn | apply zDr | apply zAl | apply zSt | refine zVi (by assumption) ?_ ?_) | go_size)).below hW) h3) (by (have := hW.size; (try simp only [World.size_alloc, World.size_setCell, World.size_drew, World.size_drewN'] at this); omega))
  try simp only [Act.put, List.setIfInBounds_toArray, List.set_cons_succ, List.set_cons_zero, Nat.reduceAdd]
  apply wpS_end
  intro γ w1 hb1 hG1 hA1
  have hg1_2 := hG1 _ (List.mem_append_left _ (List.mem_append_right _ (List.mem_singleton.2 rfl)))
  dsimp only at hg1_2
  have hg1_3 := hG1 _ (List.mem_append_right _ (List.mem_singleton.2 rfl))
  dsimp only at hg1_3
  clear hG1 hA1
  simp only [List.drop_succ_cons, List.drop_zero]
  have hz1 := hb1.size
  (try simp only [World.size_alloc, World.size_setCell, World.size_drew, World.size_drewN'] at hz1)
  (try (have kq := cellAt hb1 (w.heap.size) (by go_size); have k1_w_0_0 := kq 0; have k1_w_0_1 := kq 1; clear kq; have f1_w_0 := frozAt hb1 (w.heap.size) (by go_size); simp [go_sem, *] at k1_w_0_0 k1_w_0_1 f1_w_0))
  (try have l1_w_0 : w.heap.size < w1.heap.size := by omega)
  (try (have kq := cellAt hb1 (w.heap.size + 1) (by go_size); have k1_w_1_0 := kq 0; have k1_w_1_1 := kq 1; clear kq; have f1_w_1 := frozAt hb1 (w.heap.size + 1) (by go_size); simp [go_sem, *] at k1_w_1_0 k1_w_1_1 f1_w_1))
  (try have l1_w_1 : w.heap.size + 1 < w1.heap.size := by omega)
  (try (have kq := cellAt hb1 (w.heap.size + 1 + 1) (by go_size); have k1_w_2_0 := kq 0; have k1_w_2_1 := kq 1; clear kq; have f1_w_2 := frozAt hb1 (w.heap.size + 1 + 1) (by go_size); simp [go_sem, *] at k1_w_2_0 k1_w_2_1 f1_w_2))
  (try have l1_w_2 : w.heap.size + 1 + 1 < w1.heap.size := by omega)
  obtain ⟨b7, a7, n7, c7, e7, h7, f7⟩ := hg1_3
  simp only [e7]
  clear e7 hg1_2
  go_wp2_with fail
  refine bodyPost_ret (v := .agg #[.bool b7, .slice a7 n7 c7]) (by simp [results, Try.results43, go_sem, *]) rfl ⟨_, _, _, _, rfl, ⟨h7.neg, ?_⟩, ?_, ?_⟩
  · have hr7 := h7.row
    (repeat' first | exact hr7 | refine Sx.set ?_ ?_ _ _ | refine Sx.alloc ?_ _ | refine Sx.drew ?_ | (intro A e; have := f7 A e; (try simp only [World.size_alloc, World.size_setCell, World.size_drew, World.size_drewN'] at this); omega))
  · (intro A e; have := f7 A e; (try simp only [World.size_alloc, World.size_setCell, World.size_drew, World.size_drewN'] at this); omega)
  repeat' first | (with_reducible first | apply zRf | assumption | apply zDn | apply zDr | apply zAl | apply zSt | refine zVi (by assumption) ?_ ?_) | go_size
def sqB (n : Nat) : Int := (n : Int) * 99980001
def MuRel (W0 : World) (g n n2 : Nat) (zs ys : List Int) (iv : Value) (wr : World) : Prop := ∃ (i : Nat) (qs : List Int), iv = .int .i64 i ∧ i ≤ n ∧ qs.length = n + n2 ∧ val qs = val (zs.take i) * val ys ∧ (∀ j, 0 ≤ qs.getD j 0 ∧ qs.getD j 0 ≤ sqB i) ∧ RowW W0 wr g 3 qs
def MiRel (W0 : World) (g n n2 i : Nat) (V x : Int) (ys : List Int) (kv : Value) (wr : World) : Prop := ∃ (k : Nat) (qs : List Int), kv = .int .i64 k ∧ k ≤ n2 ∧ qs.length = n + n2 ∧ val qs = V + 10000 ^ i * (x * val (ys.take k)) ∧ (∀ j, 0 ≤ qs.getD j 0 ∧ qs.getD j 0 ≤ if j < i + k then sqB (i + 1) else sqB i) ∧ RowW W0 wr g 3 qs
def McRel (W0 : World) (g m : Nat) (V : Int) (cv iv : Value) (wr : World) : Prop := ∃ (i : Nat) (qs : List Int) (c : Int), iv = .int .i64 i ∧ cv = .int .i64 c ∧ i ≤ m ∧ qs.length = m ∧ 0 ≤ c ∧ c ≤ 1000000000 ∧ val qs + 10000 ^ i * c = V ∧ Dig (qs.take i) ∧ (∀ j, 0 ≤ qs.getD j 0 ∧ qs.getD j 0 ≤ 1000000000000) ∧ RowW W0 wr g 3 qs
theorem mi_next {qs : List Int} {x y : Int} {i k : Nat} (hk : i + k < qs.length) (h : ∀ j, 0 ≤ qs.getD j 0 ∧ qs.getD j 0 ≤ if j < i + k then sqB (i + 1) else sqB i) (hx : 0 ≤ x ∧ x ≤ 9999) (hy : 0 ≤ y ∧ y ≤ 9999) :
    ∀ j, 0 ≤ (qs.set (i + k) (qs.getD (i + k) 0 + x * y)).getD j 0 ∧ (qs.set (i + k) (qs.getD (i + k) 0 + x * y)).getD j 0 ≤ if j < i + (k + 1) then sqB (i + 1) else sqB i := by
  intro j
  rw [getD_set _ _ _ _ hk]
  have hm := mul_bd (a := x) (b := y) (A := 9999) (B := 9999) (by omega) (by omega)
  have hm0 := Int.mul_nonneg hx.1 hy.1
  by_cases e : j = i + k
  · subst e
    rw [if_pos rfl, if_pos (by omega)]
    have h1 := h (i + k)
    rw [if_neg (by omega)] at h1
    unfold sqB at *
    omega
  · rw [if_neg e]
    have h1 := h j
    refine ⟨h1.1, Int.le_trans h1.2 ?_⟩
    by_cases h2 : j < i + k
    · rw [if_pos h2, if_pos (by omega)]; exact Int.le_refl _
    · rw [if_neg h2, if_neg (by omega)]; exact Int.le_refl _
theorem mc_next {qs : List Int} {i : Nat} {r : Int} (hi : i < qs.length) (hd : Dig (qs.take i)) (hr : 0 ≤ r ∧ r ≤ 9999) (h : ∀ j, 0 ≤ qs.getD j 0 ∧ qs.getD j 0 ≤ 1000000000000) :
    Dig ((qs.set i r).take (i + 1)) ∧ ∀ j, 0 ≤ (qs.set i r).getD j 0 ∧ (qs.set i r).getD j 0 ≤ 1000000000000 := by
  refine ⟨?_, fun j => ?_⟩
  · rw [List.take_succ_eq_append_getElem (by simpa using hi), List.getElem_set_self, List.take_set_of_le (Nat.le_refl _)]
    exact hd.append (Dig.cons hr Dig.nil)
  · rw [getD_set _ _ _ _ hi]
    split
    · omega
    · exact h j
theorem bgMul_any (b b2 : Bool) (a a2 : Option Addr) (n c n2 c2 : Nat) (x y : Int) (w : World) (hs : Wx w b a n c x) (hs2 : Wx w b2 a2 n2 c2 y) (hl : n ≤ 10000) (hl2 : n2 ≤ 10000) :
    Calls Try.prog 45 #[.agg #[.bool b, .slice a n c], .agg #[.bool b2, .slice a2 n2 c2]] w (NewW w (x * y)) := by
  obtain ⟨i0, hi, hz0, hz1, hz2⟩ := info_parts infoInt
  have tok1 : True := trivial
  go_enter Try.func45, Try.ntmps45
  go_wp2_with (first | (at_make; refine wpList_make_full _ rfl _ _ 24 rfl (w.heap.size + 3) 3 i0 (.int .i64 0) 1 Try.underlying24 hi hz0 hz1 .i64 .i64 _ _ (n + n2) rfl rfl rfl rfl (by rw [hz2]; omega) (by unfold maxLen; omega) (by simp) ?_; intro W0 hm0 hg0; have hr0 := RowW.start hm0; have hb0 := made_below (B := w.heap.size) (a := w) (by repeat' first | (with_reducible first | apply zRf | assumption | apply zDn | apply zDr | apply zAl | apply zSt | refine zVi (by assumption) ?_ ?_) | go_size) hg0 (by simp; try omega); have hz0s := hg0.size; have e0 := fun o => World.cell?_of_block (a := ⟨w.heap.size, o, none⟩) (made_at hg0 (by simp; try omega)); have e1 := fun o => World.cell?_of_block (a := ⟨w.heap.size + 1, o, none⟩) (made_at hg0 (by simp; try omega)); have e2 := fun o => World.cell?_of_block (a := ⟨w.heap.size + 1 + 1, o, none⟩) (made_at hg0 (by simp; try omega)); have f2 := fun o => World.frozen?_of_block (a := ⟨w.heap.size + 1 + 1, o, none⟩) (made_at hg0 (by simp; try omega)); have kA := e0 0; have kB := e0 1; have kC := e1 0; have kD := e1 1; have kE := e2 0; have kF := e2 1; clear e0 e1 e2 hm0 hg0; simp [go_sem] at kA kB kC kD kE kF f2; simp only [World.size_alloc] at hr0 hz0s))
  have hnm : n + n2 ≤ maxLen := by unfold maxLen; omega
  have hrow1 := hs.row
  have hrow2 := hs2.row
  have hd := limbs_dig (ab x)
  have hd2 := limbs_dig (ab y)
  have HX := Lib.hid (val_ab x)
  have HY := Lib.hid (val_ab y)
  have HN := Lib.hid hs.neg
  have HN2 := Lib.hid hs2.neg
  have hB1 := hs.row
  clear hs hs2 hB1
  generalize limbs (ab x) = zs at *
  generalize limbs (ab y) = ys at *
  have HL := Lib.hid hrow1.len
  have HL2 := Lib.hid hrow2.len
  have hsz0 := blk_lt' hr0.row
  go_loopw [24] (fun iv wr => MuRel W0 (w.heap.size + 1 + 1 + 1) n n2 zs ys iv wr) (fun iv _ => n - (intOf iv).toNat)
  case atStart => exact ⟨0, List.replicate (n + n2) 0, rfl, by omega, by simp, by simp [val_zeros, val], fun j => by simp [List.getD, List.getElem?_replicate, sqB]; split <;> simp, hr0⟩
  case round =>
    obtain ⟨i, qs, rfl, hi1, hql, hqv, hqb, hrow⟩ := hrel
    have kA1 := (hrow.only.cell (b := w.heap.size) (by omega) 0).trans kA
    have kC1 := (hrow.only.cell (b := w.heap.size + 1) (by omega) 0).trans kC
    have kD1 := (hrow.only.cell (b := w.heap.size + 1) (by omega) 1).trans kD
    have kE1 := (hrow.only.cell (b := w.heap.size + 1 + 1) (by omega) 0).trans kE
    have kF1 := (hrow.only.cell (b := w.heap.size + 1 + 1) (by omega) 1).trans kF
    have fE1 := fun o => (hrow.only.froz (b := w.heap.size + 1 + 1) (by omega) o).trans (f2 o)
    have HQV := Lib.hid hqv
    have HQL := Lib.hid hql
    have HQB := Lib.hid hqb
    clear hqv hql hqb
    by_cases h0 : i < n
    · obtain ⟨b1, off1, rfl, hb1, hcs⟩ := hrow1.at (by omega)
      have c1 := (hrow.only.cell (b := b1) (by omega) (off1 + i)).trans ((hb0.cell (p := ⟨b1, off1 + i, none⟩) hb1).trans (hcs i h0))
      have hlt : (i : Int) < (n : Int) := by omega
      have dz := hd.getD i
      have HS := Lib.hid (val_take_succ zs i)
      rw [List.getD_eq_getElem?_getD] at dz HS
      clear hcs kC1 fE1 kE1 kF1
      generalize zs[i]?.getD 0 = x1 at *
      go_wp2_with fail
      have HR0 := Lib.hid hrow
      clear c1 kA1 kD1
      obtain ⟨wo, hwo⟩ : ∃ wo : World, wo = wr := ⟨_, rfl⟩
      go_loopw [32] (fun kv wr2 => MiRel W0 (w.heap.size + 1 + 1 + 1) n n2 i (val (zs.take i) * val ys) x1 ys kv wr2) (fun kv _ => n2 - (intOf kv).toNat)
      case atStart => exact ⟨0, qs, rfl, by omega, HQL.out, by rw [HQV.out]; simp [val], fun j => by have := HQB.out j; refine ⟨this.1, Int.le_trans this.2 ?_⟩; split <;> (unfold sqB; omega), HR0.out⟩
      case round =>
        obtain ⟨k, ps, rfl, hk1, hpl, hpv, hpb, hrow3⟩ := hrel
        have HPL := Lib.hid hpl
        have HPV := Lib.hid hpv
        have HPB := Lib.hid hpb
        clear hpl hpv hpb
        by_cases h1 : k < n2
        · obtain ⟨b2', off2, rfl, hb2, hcs2⟩ := hrow2.at (by omega)
          have c2 := (hrow3.only.cell (b := b2') (by omega) (off2 + k)).trans ((hb0.cell (p := ⟨b2', off2 + k, none⟩) hb2).trans (hcs2 k h1))
          have hlt2 : (k : Int) < (n2 : Int) := by omega
          have dy := hd2.getD k
          have hg1 := hrow3.cell (j := i + k) (by have := HPL.out; omega)
          have hg2 := hrow3.free (i + k)
          have HB := Lib.hid (mi_next (x := x1) (y := ys.getD k 0) (i := i) (k := k) (by have := HPL.out; omega) HPB.out dz dy)
          have HC := Lib.hid (cross_step (sums := ps) (b := ys) (x := x1) (V := val (zs.take i) * val ys) (i := i) (k := k) (by have := HPL.out; omega) HPV.out rfl)
          have hpb2 := HPB.out (i + k)
          rw [if_neg (by omega)] at hpb2
          unfold sqB at hpb2
          rw [List.getD_eq_getElem?_getD] at dy HB HC hpb2
          rw [List.getD_eq_getElem?_getD] at HB HC
          have hxy := mul_bd (a := x1) (b := ys[k]?.getD 0) (A := 9999) (B := 9999) (by omega) (by omega)
          have hxy0 := Int.mul_nonneg dz.1 dy.1
          clear hcs2
          go_wp2_with fail
          go_roundw
          case rel => exact ⟨k + 1, ps.set (i + k) _, by go_num, by omega, by simp [HPL.out], HC.out, HB.out, hrow3.set _ _⟩
          case measure => simp [intOf]; omega
        · obtain rfl : k = n2 := by omega
          have HE := Lib.hid (val_take_all ys k (by have := HL2.out; omega))
          go_wp2_with fail
          go_roundw
          case rel => exact ⟨i + 1, ps, by go_num, by omega, HPL.out, by rw [HPV.out, HE.out, HS.out]; grind, fun j => by have := HPB.out j; refine ⟨this.1, Int.le_trans this.2 ?_⟩; split <;> (unfold sqB; omega), hrow3⟩
          case measure => simp [intOf]; omega
    · obtain rfl : i = n := by omega
      have HE := Lib.hid (val_take_all zs i (by have := HL.out; omega))
      have HV : val qs = ab x * ab y := by rw [HQV.out, HE.out, HX.out, HY.out]
      have HVV := Lib.hid HV
      have hab := Int.mul_nonneg (ab_nonneg x) (ab_nonneg y)
      have hlt : ab x * ab y < 10000 ^ (i + n2) := by
        rw [Int.pow_add]
        have h1 := val_lt hd
        have h2 := val_lt hd2
        rw [HL.out, HX.out] at h1
        rw [HL2.out, HY.out] at h2
        exact Int.mul_lt_mul' (Int.le_of_lt h1) h2 (ab_nonneg y) (p4_pos _)
      have HLT := Lib.hid hlt
      have HAB := Lib.hid hab
      clear HV hlt hab
      go_wp2_with fail
      have HR0 := Lib.hid hrow
      clear hrow
      go_loopw [10, 52] (fun cv kv wr2 => McRel W0 (w.heap.size + 1 + 1 + 1) (i + n2) (ab x * ab y) cv kv wr2) (fun _ kv _ => i + n2 - (intOf kv).toNat)
      case atStart => exact ⟨0, qs, 0, rfl, rfl, by omega, HQL.out, by omega, by omega, by rw [HVV.out]; simp, by simp [Dig.nil], fun j => by have := HQB.out j; unfold sqB at this; omega, HR0.out⟩
      case round =>
        obtain ⟨k, ps, cc, rfl, rfl, hk1, hpl, hc0, hc1, hpv, hpd, hpb, hrow3⟩ := hrel
        have HPL := Lib.hid hpl
        have HPV := Lib.hid hpv
        have HPB := Lib.hid hpb
        have HPD := Lib.hid hpd
        clear hpl hpv hpb hpd
        by_cases h1 : k < i + n2
        · have hg1 := hrow3.cell (j := k) (by have := HPL.out; omega)
          have hg2 := hrow3.free k
          have hlt2 : (k : Int) < ((i + n2 : Nat) : Int) := by omega
          have hpk := HPB.out k
          have HC := Lib.hid (fun (r q : Int) (e : ps.getD k 0 + cc = r + 10000 * q) => carry_step (sums := ps) (V := ab x * ab y) (c := cc) (i := k) (by have := HPL.out; omega) HPV.out rfl e)
          have HM := Lib.hid (fun (r : Int) (hr : 0 ≤ r ∧ r ≤ 9999) => mc_next (qs := ps) (i := k) (by have := HPL.out; omega) HPD.out hr HPB.out)
          rw [List.getD_eq_getElem?_getD] at hpk HC
          generalize ps[k]?.getD 0 = v at *
          go_wp2_with fail
          go_roundw
          case rel => exact ⟨k + 1, ps.set k _, _, by go_num, rfl, by omega, by simp [HPL.out], by omega, by omega, HC.out _ _ (by omega), (HM.out _ (by omega)).1, (HM.out _ (by omega)).2, hrow3.set _ _⟩
          case measure => simp [intOf]; omega
        · obtain rfl : k = i + n2 := by omega
          have hps : Dig ps := by have := HPD.out; rwa [List.take_of_length_le (by have := HPL.out; omega)] at this
          have HV := Lib.hid (sum_end hps HPL.out HPV.out HAB.out HLT.out)
          have hbw := hrow3.below hb0 (by omega)
          have hsz := hrow3.size
          have T1 : ∀ W, Below wr.heap.size wr W → Calls Try.prog 47 #[.bool (!(b == b2)), .slice (some ⟨w.heap.size + 1 + 1 + 1, 0, none⟩) (i + n2) (i + n2)] W (NewW W (x * y)) := fun W hW => by
            have := bgMake_any (!(b == b2)) _ (i + n2) (i + n2) ps W ((hrow3.sx HPL.out hnm).below hW) (by omega) hps
            have e : mkW (!(b == b2)) (val ps) = x * y := by rw [HV.out, HN.out, HN2.out]; exact mul_sign x y
            rw [e] at this
            exact this
          have kA2 := (hrow3.only.cell (b := w.heap.size) (by omega) 0).trans kA
          have kC2 := (hrow3.only.cell (b := w.heap.size + 1) (by omega) 0).trans kC
          have kE2 := (hrow3.only.cell (b := w.heap.size + 1 + 1) (by omega) 0).trans kE
          have kF2 := (hrow3.only.cell (b := w.heap.size + 1 + 1) (by omega) 1).trans kF
          have fE2 := fun o => (hrow3.only.froz (b := w.heap.size + 1 + 1) (by omega) o).trans (f2 o)
          clear hrow3 kA1 kC1 kE1 kF1 fE1 kD1
          go_wp2_with (first | (have _t := tok1; go_at_call 47; (with_reducible refine ((T1 _ (by repeat' first | (with_reducible first | apply zRf | assumption | apply zDn | apply zDr | apply zAl | apply zSt | refine zVi (by assumption) ?_ ?_) | go_size))).mono ?_); rintro e w1 ⟨b7, a7, n7, c7, rfl, h7, f7, hb1⟩; clear tok1 _t; have hz1 := hb1.size; (try simp only [World.size_alloc, World.size_setCell, World.size_drew, World.size_drewN'] at hz1); (try (have kq := cellAt hb1 (w.heap.size) (by go_size); have k1_w_0_0 := kq 0; have k1_w_0_1 := kq 1; clear kq; have f1_w_0 := frozAt hb1 (w.heap.size) (by go_size); simp [go_sem, *] at k1_w_0_0 k1_w_0_1 f1_w_0)); (try have l1_w_0 : w.heap.size < w1.heap.size := by omega); (try (have kq := cellAt hb1 (w.heap.size + 1) (by go_size); have k1_w_1_0 := kq 0; have k1_w_1_1 := kq 1; clear kq; have f1_w_1 := frozAt hb1 (w.heap.size + 1) (by go_size); simp [go_sem, *] at k1_w_1_0 k1_w_1_1 f1_w_1)); (try have l1_w_1 : w.heap.size + 1 < w1.heap.size := by omega); (try (have kq := cellAt hb1 (w.heap.size + 1 + 1) (by go_size); have k1_w_2_0 := kq 0; have k1_w_2_1 := kq 1; clear kq; have f1_w_2 := frozAt hb1 (w.heap.size + 1 + 1) (by go_size); simp [go_sem, *] at k1_w_2_0 k1_w_2_1 f1_w_2)); (try have l1_w_2 : w.heap.size + 1 + 1 < w1.heap.size := by omega)))
          refine bodyPost_ret (v := .agg #[.bool b7, .slice a7 n7 c7]) (by simp [results, Try.results45, go_sem, *]) rfl ⟨_, _, _, _, rfl, ⟨h7.neg, ?_⟩, ?_, ?_⟩
          · have hr7 := h7.row
            (repeat' first | exact hr7 | refine Sx.set ?_ ?_ _ _ | refine Sx.alloc ?_ _ | refine Sx.drew ?_ | (intro A e; have := f7 A e; (try simp only [World.size_alloc, World.size_setCell, World.size_drew, World.size_drewN'] at this); omega))
          · (intro A e; have := f7 A e; (try simp only [World.size_alloc, World.size_setCell, World.size_drew, World.size_drewN'] at this); omega)
          repeat' first | (with_reducible first | apply zRf | assumption | apply zDn | apply zDr | apply zAl | apply zSt | refine zVi (by assumption) ?_ ?_) | go_size
theorem bgTimes_any (b : Bool) (a : Option Addr) (n c : Nat) (x d : Int) (w : World) (hs : Wx w b a n c x) (hl : n ≤ 10000) (h1 : -9223372036854775807 ≤ d) (h2 : d ≤ 9223372036854775807) :
    Calls Try.prog 44 #[.agg #[.bool b, .slice a n c], .int .i64 d] w (NewW w (x * d)) := by
  have TA : ∀ (W : World) (b3 : Bool) (a3 : Option Addr) (n3 c3 : Nat), Wx W b a n c x → Wx W b3 a3 n3 c3 d → Calls Try.prog 45 #[.agg #[.bool b, .slice a n c], .agg #[.bool b3, .slice a3 n3 c3]] W (NewW W (x * d)) := fun W b3 a3 n3 c3 g1 g2 => by
    have hn3 := g2.ln
    have := ln_small (a := d) (by omega) (by omega)
    exact bgMul_any b b3 a a3 n c n3 c3 x d W g1 g2 hl (by omega)
  go_enter Try.func44, Try.ntmps44
  go_wp2_with fail
  refine wp_open (n := 4) (by kernel_rfl) (by kernel_rfl) (by kernel_rfl) (by kernel_rfl) ?_
  simp only [List.take_succ_cons, List.take_zero]
  apply wpS_quiet
  · intro γ W hW hp
    have hs := hW.size
    (try simp only [World.size_alloc, World.size_setCell, World.size_drew, World.size_drewN'] at hs)
    try (have kx_w_0_0 := fun x : Over W => (cellAt x.lies (w.heap.size) (by omega) 0).trans (cellAt hW (w.heap.size) (by go_size) 0); simp [go_sem, *] at kx_w_0_0)
    try (have kx_w_0_1 := fun x : Over W => (cellAt x.lies (w.heap.size) (by omega) 1).trans (cellAt hW (w.heap.size) (by go_size) 1); simp [go_sem, *] at kx_w_0_1)
    try (have kx_w_1_0 := fun x : Over W => (cellAt x.lies (w.heap.size + 1) (by omega) 0).trans (cellAt hW (w.heap.size + 1) (by go_size) 0); simp [go_sem, *] at kx_w_1_0)
    try (have kx_w_1_1 := fun x : Over W => (cellAt x.lies (w.heap.size + 1) (by omega) 1).trans (cellAt hW (w.heap.size + 1) (by go_size) 1); simp [go_sem, *] at kx_w_1_1)
    clear hW hp
    refine ⟨rfl, ?_⟩
    go_big_quiet_op
    first | exact rfl
  · exact locS_const _
  try simp only [Act.put, List.setIfInBounds_toArray, List.set_cons_succ, List.set_cons_zero, Nat.reduceAdd]
  apply wpS_quiet
  · intro γ W hW hp
    refine ⟨rfl, ?_⟩
    go_big_quiet_op
    first | exact rfl
  · exact locS_const _
  try simp only [Act.put, List.setIfInBounds_toArray, List.set_cons_succ, List.set_cons_zero, Nat.reduceAdd]
  apply wpS_open (openW (w.heap.size + 2) d)
  · intro γ W hW hp
    have kc_w_0 := cellAt hW (w.heap.size) (by go_size)
    try simp [go_sem, *] at kc_w_0
    have kc_w_1 := cellAt hW (w.heap.size + 1) (by go_size)
    try simp [go_sem, *] at kc_w_1
    refine ⟨rfl, ?_⟩
    go_simp
    refine plainNew rfl ?_
    exact open_W (bgOf_any d W (by omega) (by omega)) (by (have := hW.size; (try simp only [World.size_alloc, World.size_setCell, World.size_drew, World.size_drewN'] at this); omega))
  try simp only [Act.put, List.setIfInBounds_toArray, List.set_cons_succ, List.set_cons_zero, Nat.reduceAdd]
  apply wpS_open (openW (w.heap.size + 2) (x * d))
  · intro γ W hW hp
    have hp_2 := hp _ (List.mem_append_right _ (List.mem_singleton.2 rfl)) (by kernel_rfl)
    dsimp only at hp_2
    have kc_w_0 := cellAt hW (w.heap.size) (by go_size)
    try simp [go_sem, *] at kc_w_0
    have kc_w_1 := cellAt hW (w.heap.size + 1) (by go_size)
    try simp [go_sem, *] at kc_w_1
    refine ⟨rfl, ?_⟩
    go_simp
    refine plainNew rfl ?_
    obtain ⟨b3, a3, n3, c3, e3, h3, _⟩ := hp_2
    rw [e3]
    exact open_W (TA _ _ _ _ _ ((hs.below (by repeat' first | (with_reducible first | apply zRf | assumption | apply zDn | apply zDr | apply zAl | apply zSt | refine zVi (by assumption) ?_ ?_) | go_size)).below hW) h3) (by (have := hW.size; (try simp only [World.size_alloc, World.size_setCell, World.size_drew, World.size_drewN'] at this); omega))
  try simp only [Act.put, List.setIfInBounds_toArray, List.set_cons_succ, List.set_cons_zero, Nat.reduceAdd]
  apply wpS_end
  intro γ w1 hb1 hG1 hA1
  have hg1_2 := hG1 _ (List.mem_append_left _ (List.mem_append_right _ (List.mem_singleton.2 rfl)))
  dsimp only at hg1_2
  have hg1_3 := hG1 _ (List.mem_append_right _ (List.mem_singleton.2 rfl))
  dsimp only at hg1_3
  clear hG1 hA1
  simp only [List.drop_succ_cons, List.drop_zero]
  have hz1 := hb1.size
  (try simp only [World.size_alloc, World.size_setCell, World.size_drew, World.size_drewN'] at hz1)
  (try (have kq := cellAt hb1 (w.heap.size) (by go_size); have k1_w_0_0 := kq 0; have k1_w_0_1 := kq 1; clear kq; have f1_w_0 := frozAt hb1 (w.heap.size) (by go_size); simp [go_sem, *] at k1_w_0_0 k1_w_0_1 f1_w_0))
  (try have l1_w_0 : w.heap.size < w1.heap.size := by omega)
  (try (have kq := cellAt hb1 (w.heap.size + 1) (by go_size); have k1_w_1_0 := kq 0; have k1_w_1_1 := kq 1; clear kq; have f1_w_1 := frozAt hb1 (w.heap.size + 1) (by go_size); simp [go_sem, *] at k1_w_1_0 k1_w_1_1 f1_w_1))
  (try have l1_w_1 : w.heap.size + 1 < w1.heap.size := by omega)
  obtain ⟨b7, a7, n7, c7, e7, h7, f7⟩ := hg1_3
  simp only [e7]
  clear e7 hg1_2
  go_wp2_with fail
  refine bodyPost_ret (v := .agg #[.bool b7, .slice a7 n7 c7]) (by simp [results, Try.results44, go_sem, *]) rfl ⟨_, _, _, _, rfl, ⟨h7.neg, ?_⟩, ?_, ?_⟩
  · have hr7 := h7.row
    (repeat' first | exact hr7 | refine Sx.set ?_ ?_ _ _ | refine Sx.alloc ?_ _ | refine Sx.drew ?_ | (intro A e; have := f7 A e; (try simp only [World.size_alloc, World.size_setCell, World.size_drew, World.size_drewN'] at this); omega))
  · (intro A e; have := f7 A e; (try simp only [World.size_alloc, World.size_setCell, World.size_drew, World.size_drewN'] at this); omega)
  repeat' first | (with_reducible first | apply zRf | assumption | apply zDn | apply zDr | apply zAl | apply zSt | refine zVi (by assumption) ?_ ?_) | go_size
end Go.Proofs.Ytijpfnkhaldfeaa
