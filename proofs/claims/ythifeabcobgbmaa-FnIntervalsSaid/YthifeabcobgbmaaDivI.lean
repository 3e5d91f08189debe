/- The contract of the program's quotients of intervals. -/
import Derived.Test.YthifeabcobgbmaaIv2
import Derived.Test.YthifeabcobgbmaaDivPlain
import Derived.Test.YthifeabcobgbmaaOwn
import Derived.OwnWalk
namespace Go.Proofs.Ythifeabcobgbmaa
open Go.RowKit
set_option linter.unusedVariables false
set_option maxHeartbeats 8000000
set_option maxRecDepth 20000
set_option linter.unusedSimpArgs false
def foK (f : Int → Int → Int) (zs : List Int) (k : Nat) : Int := (zs.take k).tail.foldl f (zs.getD 0 0)
def FoldRel (f : Int → Int → Int) (zs : List Int) (m i : Value) : Prop := ∃ k : Nat, 1 ≤ k ∧ k ≤ zs.length ∧ i = .int .i64 k ∧ m = .int .i64 (foK f zs k)
theorem foK_one (f : Int → Int → Int) (zs : List Int) : foK f zs 1 = zs.getD 0 0 := by cases zs <;> rfl
theorem foK_succ (f : Int → Int → Int) (zs : List Int) (k : Nat) (h1 : 1 ≤ k) (h : k < zs.length) : foK f zs (k + 1) = f (foK f zs k) (zs.getD k 0) := by
  unfold foK
  rw [List.take_succ_eq_append_getElem h, List.tail_append_of_ne_nil (by intro e; have := congrArg List.length e; simp at this; rcases this with x | x <;> simp_all), List.foldl_append]
  simp [List.getD, h]
theorem slicesMin_any (b off c : Nat) (zs : List Int) (w : World) (h0 : 1 ≤ zs.length) (hbig : zs.length ≤ 1000000) (hc : ∀ j, j < zs.length → w.cell? ⟨b, off + j, none⟩ = some (.int .i64 (zs.getD j 0))) :
    Calls Try.prog 57 #[.slice (some ⟨b, off, none⟩) zs.length c] w fun e w' => e = .returned (.int .i64 (foK min zs zs.length)) ∧ w = w' := by
  have hc0 := hc 0 (by omega)
  have HZ := Lib.hid (foK_one min zs)
  simp only [Nat.add_zero] at hc0
  generalize zs.getD 0 0 = z0 at *
  have HC := Lib.hid hc
  clear hc
  go_enter Try.func57, Try.ntmps57
  go_wp2
  go_loop [3, 4] (fun m i => FoldRel min zs m i) (fun _ i => zs.length - (intOf i).toNat)
  case atStart => exact ⟨1, by omega, by omega, by go_num, by rw [HZ.out]⟩
  case round =>
    obtain ⟨k, hk1, hk, rfl, rfl⟩ := hrel
    by_cases hlt : k < zs.length
    · have hcell := HC.out k hlt
      have HF := Lib.hid (foK_succ min zs k hk1 hlt)
      generalize zs.getD k 0 = zk at *
      generalize foK min zs k = m at *
      go_wp2
      all_goals
        go_round
        case rel => exact ⟨k + 1, by omega, by omega, by go_num, by rw [HF.out]; congr 1; first | omega | (split <;> omega)⟩
        case measure => simp [intOf]; omega
    · have : k = zs.length := by omega
      subst this
      go_wp2
      go_ret
      exact ⟨rfl, rfl⟩
theorem slicesMax_any (b off c : Nat) (zs : List Int) (w : World) (h0 : 1 ≤ zs.length) (hbig : zs.length ≤ 1000000) (hc : ∀ j, j < zs.length → w.cell? ⟨b, off + j, none⟩ = some (.int .i64 (zs.getD j 0))) :
    Calls Try.prog 58 #[.slice (some ⟨b, off, none⟩) zs.length c] w fun e w' => e = .returned (.int .i64 (foK max zs zs.length)) ∧ w = w' := by
  have hc0 := hc 0 (by omega)
  have HZ := Lib.hid (foK_one max zs)
  simp only [Nat.add_zero] at hc0
  generalize zs.getD 0 0 = z0 at *
  have HC := Lib.hid hc
  clear hc
  go_enter Try.func58, Try.ntmps58
  go_wp2
  go_loop [3, 4] (fun m i => FoldRel max zs m i) (fun _ i => zs.length - (intOf i).toNat)
  case atStart => exact ⟨1, by omega, by omega, by go_num, by rw [HZ.out]⟩
  case round =>
    obtain ⟨k, hk1, hk, rfl, rfl⟩ := hrel
    by_cases hlt : k < zs.length
    · have hcell := HC.out k hlt
      have HF := Lib.hid (foK_succ max zs k hk1 hlt)
      generalize zs.getD k 0 = zk at *
      generalize foK max zs k = m at *
      go_wp2
      all_goals
        go_round
        case rel => exact ⟨k + 1, by omega, by omega, by go_num, by rw [HF.out]; congr 1; first | omega | (split <;> omega)⟩
        case measure => simp [intOf]; omega
    · have : k = zs.length := by omega
      subst this
      go_wp2
      go_ret
      exact ⟨rfl, rfl⟩
def Rows2 (T : TypeId) (B : Nat) (w : World) (v u : Value) (L M : List Int) : Prop := w.ownsRow B T 1 v L.length (L.map (Value.int .i64)) ∧ w.ownsRow B T 1 u M.length (M.map (Value.int .i64)) ∧ apart v u
def Lit2 (B lit : Nat) (c d : Int) (W w : World) (v u : Value) : Prop := v.ownBlock ≠ some lit ∧ u.ownBlock ≠ some lit ∧ w.cell? ⟨lit, 0, none⟩ = some (.int .i64 c) ∧ w.cell? ⟨lit, 1, none⟩ = some (.int .i64 d) ∧ lit < w.heap.size ∧ Below B W w
/-- what two appends in a row do to the two rows and to a literal that lies apart -/
theorem rows_step {T : TypeId} {B lit : Nat} {c d x y : Int} {W w w1 w2 : World} {v u v1 u1 : Value} {L M : List Int} (hR : Rows2 T B w v u L M) (hL : Lit2 B lit c d W w v u) (hBW : B ≤ w.heap.size)
    (hv1 : w1.ownsRow B T 1 v1 (L.length + 1) (L.map (Value.int .i64) ++ [.int .i64 x])) (hg1 : (w.alloc (Obj.cells #[.int .i64 x] T)).grownBy w1 v.ownBlock) (ha1 : v1.ownBlock = v.ownBlock ∨ v1.ownBlock = some (w.alloc (Obj.cells #[.int .i64 x] T)).heap.size)
    (hu1 : w2.ownsRow B T 1 u1 (M.length + 1) (M.map (Value.int .i64) ++ [.int .i64 y])) (hg2 : (w1.alloc (Obj.cells #[.int .i64 y] T)).grownBy w2 u.ownBlock) (ha2 : u1.ownBlock = u.ownBlock ∨ u1.ownBlock = some (w1.alloc (Obj.cells #[.int .i64 y] T)).heap.size) :
    Rows2 T B w2 v1 u1 (L ++ [x]) (M ++ [y]) ∧ Lit2 B lit c d W w2 v1 u1 := by
  obtain ⟨hv, hu, hap⟩ := hR
  obtain ⟨h1, h2, h3, h4, h5, h6⟩ := hL
  have hs1 := hg1.size
  have hs2 := hg2.size
  simp only [World.size_alloc] at hs1 hs2
  have hua : (w.alloc (Obj.cells #[.int .i64 x] T)).ownsRow B T 1 u M.length (M.map (Value.int .i64)) := hu.alloc _
  have hap1 : apart v1 u := hap.grown hua ha1
  have hv1a : (w1.alloc (Obj.cells #[.int .i64 y] T)).ownsRow B T 1 v1 (L.length + 1) (L.map (Value.int .i64) ++ [.int .i64 x]) := hv1.alloc _
  have hv2 := hv1a.kept hg2 (hap1.symm.kept)
  have hap2 : apart u1 v1 := hap1.symm.grown hv1a ha2
  have l1 : v1.ownBlock ≠ some lit := apart.lit h1 (by simp; omega) ha1
  have l2 : u1.ownBlock ≠ some lit := apart.lit h2 (by simp; omega) ha2
  have hlu : ∀ k, u.ownBlock = some k → B ≤ k := fun k hk => (hu.lt k hk).1
  have hlv : ∀ k, v.ownBlock = some k → B ≤ k := fun k hk => (hv.lt k hk).1
  have hc : ∀ o z, w.cell? ⟨lit, o, none⟩ = some z → w2.cell? ⟨lit, o, none⟩ = some z := fun o z hz => by
    have a1 : (w.alloc (Obj.cells #[.int .i64 x] T)).cell? ⟨lit, o, none⟩ = some z := by rw [World.cell?_alloc_past _ _ _ (by simpa using h5)]; exact hz
    have a2 := hg1.cell a1 (Ne.symm h1)
    have a3 : (w1.alloc (Obj.cells #[.int .i64 y] T)).cell? ⟨lit, o, none⟩ = some z := by rw [World.cell?_alloc_past _ _ _ (by omega)]; exact a2
    exact hg2.cell a3 (Ne.symm h2)
  refine ⟨⟨by simpa using hv2, by simpa using hu1, hap2.symm⟩, l1, l2, hc 0 _ h3, hc 1 _ h4, by omega, ?_⟩
  exact (((h6.alloc hBW _).grown hg1 (by rw [World.size_alloc]; omega) hlv).alloc (by omega) _).grown hg2 (by rw [World.size_alloc]; omega) hlu
theorem Try.infoInt : (Try.prog.info? 3).map (fun i => (i.zero, i.size, i.bytes)) = some (some (.int .i64 0), 1, 8) := by kernel_rfl
def Out3 (T : TypeId) (B : Nat) (w : World) (v u i : Value) (L0 M0 L1 M1 L2 M2 : List Int) : Prop := (i = .int .i64 0 ∧ Rows2 T B w v u L0 M0) ∨ (i = .int .i64 1 ∧ Rows2 T B w v u L1 M1) ∨ (i = .int .i64 2 ∧ Rows2 T B w v u L2 M2)
theorem ovP {a c : Int} (h : 0 < c) : ovD a c = down (a * 4096) c ∧ -(ovU a c) = down (-(a * 4096)) c := by
  have : ¬ c < 0 := by omega
  simp [ovD, ovU, ovX, ovY, this]
theorem ovN {a c : Int} (h : c < 0) : ovD a c = down (-(a * 4096)) (-c) ∧ -(ovU a c) = down (a * 4096) (-c) := by
  simp [ovD, ovU, ovX, ovY, h, Int.neg_mul]
theorem over_any (a b c d : Int) (w : World) (ha : -409600000 ≤ a ∧ a ≤ 409600000) (hb : -409600000 ≤ b ∧ b ≤ 409600000) (hc : -409600000 ≤ c ∧ c ≤ 409600000) (hd : -409600000 ≤ d ∧ d ≤ 409600000) (hs : (0 < c ∧ 0 < d) ∨ (c < 0 ∧ d < 0)) :
    Calls Try.prog 34 #[.agg #[.int .i64 a, .int .i64 b], .agg #[.int .i64 c, .int .i64 d]] w fun e w' => e = .returned (.agg #[.int .i64 (foK min [ovD a c, ovD a d, ovD b c, ovD b d] 4), .int .i64 (foK max [ovU a c, ovU a d, ovU b c, ovU b d] 4)]) ∧ Below w.heap.size w w' := by
  obtain ⟨i0, hi, hz0, hz1, hz2⟩ := info_parts Try.infoInt
  have p1 := ovD_bd (a := a) (b := c) (by omega) (by omega)
  have q1 := ovU_bd (a := a) (b := c) (by omega) (by omega)
  have p2 := ovD_bd (a := a) (b := d) (by omega) (by omega)
  have q2 := ovU_bd (a := a) (b := d) (by omega) (by omega)
  have p3 := ovD_bd (a := b) (b := c) (by omega) (by omega)
  have q3 := ovU_bd (a := b) (b := c) (by omega) (by omega)
  have p4 := ovD_bd (a := b) (b := d) (by omega) (by omega)
  have q4 := ovU_bd (a := b) (b := d) (by omega) (by omega)
  rcases hs with ⟨s1, s2⟩ | ⟨s1, s2⟩
  · have F1 := fun W : World => Lib.hid (show Calls Try.prog 54 #[.int .i64 (a * 4096), .int .i64 c] W fun e w' => e = .returned (.int .i64 (ovD a c)) ∧ W = w' by rw [(ovP (a := a) s1).1]; exact floorOf_any _ _ W (by omega) (by omega) (by omega))
    have G1 := fun W : World => Lib.hid (show Calls Try.prog 54 #[.int .i64 (-(a * 4096)), .int .i64 c] W fun e w' => e = .returned (.int .i64 (-(ovU a c))) ∧ W = w' by rw [(ovP (a := a) s1).2]; exact floorOf_any _ _ W (by omega) (by omega) (by omega))
    have F2 := fun W : World => Lib.hid (show Calls Try.prog 54 #[.int .i64 (a * 4096), .int .i64 d] W fun e w' => e = .returned (.int .i64 (ovD a d)) ∧ W = w' by rw [(ovP (a := a) s2).1]; exact floorOf_any _ _ W (by omega) (by omega) (by omega))
    have G2 := fun W : World => Lib.hid (show Calls Try.prog 54 #[.int .i64 (-(a * 4096)), .int .i64 d] W fun e w' => e = .returned (.int .i64 (-(ovU a d))) ∧ W = w' by rw [(ovP (a := a) s2).2]; exact floorOf_any _ _ W (by omega) (by omega) (by omega))
    have F3 := fun W : World => Lib.hid (show Calls Try.prog 54 #[.int .i64 (b * 4096), .int .i64 c] W fun e w' => e = .returned (.int .i64 (ovD b c)) ∧ W = w' by rw [(ovP (a := b) s1).1]; exact floorOf_any _ _ W (by omega) (by omega) (by omega))
    have G3 := fun W : World => Lib.hid (show Calls Try.prog 54 #[.int .i64 (-(b * 4096)), .int .i64 c] W fun e w' => e = .returned (.int .i64 (-(ovU b c))) ∧ W = w' by rw [(ovP (a := b) s1).2]; exact floorOf_any _ _ W (by omega) (by omega) (by omega))
    have F4 := fun W : World => Lib.hid (show Calls Try.prog 54 #[.int .i64 (b * 4096), .int .i64 d] W fun e w' => e = .returned (.int .i64 (ovD b d)) ∧ W = w' by rw [(ovP (a := b) s2).1]; exact floorOf_any _ _ W (by omega) (by omega) (by omega))
    have G4 := fun W : World => Lib.hid (show Calls Try.prog 54 #[.int .i64 (-(b * 4096)), .int .i64 d] W fun e w' => e = .returned (.int .i64 (-(ovU b d))) ∧ W = w' by rw [(ovP (a := b) s2).2]; exact floorOf_any _ _ W (by omega) (by omega) (by omega))
    generalize ovD a c = x1 at *
    generalize ovU a c = y1 at *
    generalize ovD a d = x2 at *
    generalize ovU a d = y2 at *
    generalize ovD b c = x3 at *
    generalize ovU b c = y3 at *
    generalize ovD b d = x4 at *
    generalize ovU b d = y4 at *
    have tok1 : True := trivial
    have tok2 : True := trivial
    have tok3 : True := trivial
    have tok4 : True := trivial
    go_enter Try.func34, Try.ntmps34
    go_wp2_with fail
    have HB4 : Below w.heap.size w ((((w.alloc (Obj.cells #[.int .i64 a, .int .i64 b] 45)).alloc (Obj.cells #[.int .i64 c, .int .i64 d] 45)).alloc (Obj.cells #[.int .i64 0, .int .i64 0] 45)).alloc (Obj.cells #[.int .i64 a, .int .i64 b] 3)) := by
      repeat' first | (with_reducible first | apply zRf | assumption | apply zDn | apply zDr | apply zAl | apply zSt | refine zVi (by assumption) ?_ ?_) | go_size
    have c0 : ((((w.alloc (Obj.cells #[.int .i64 a, .int .i64 b] 45)).alloc (Obj.cells #[.int .i64 c, .int .i64 d] 45)).alloc (Obj.cells #[.int .i64 0, .int .i64 0] 45)).alloc (Obj.cells #[.int .i64 a, .int .i64 b] 3)).cell? ⟨w.heap.size + 1, 0, none⟩ = some (.int .i64 c) := by simp [go_sem]
    have c1 : ((((w.alloc (Obj.cells #[.int .i64 a, .int .i64 b] 45)).alloc (Obj.cells #[.int .i64 c, .int .i64 d] 45)).alloc (Obj.cells #[.int .i64 0, .int .i64 0] 45)).alloc (Obj.cells #[.int .i64 a, .int .i64 b] 3)).cell? ⟨w.heap.size + 1, 1, none⟩ = some (.int .i64 d) := by simp [go_sem]
    have c2 : ((((w.alloc (Obj.cells #[.int .i64 a, .int .i64 b] 45)).alloc (Obj.cells #[.int .i64 c, .int .i64 d] 45)).alloc (Obj.cells #[.int .i64 0, .int .i64 0] 45)).alloc (Obj.cells #[.int .i64 a, .int .i64 b] 3)).cell? ⟨w.heap.size + 1 + 1 + 1, 0, none⟩ = some (.int .i64 a) := by simp [go_sem]
    have c3 : ((((w.alloc (Obj.cells #[.int .i64 a, .int .i64 b] 45)).alloc (Obj.cells #[.int .i64 c, .int .i64 d] 45)).alloc (Obj.cells #[.int .i64 0, .int .i64 0] 45)).alloc (Obj.cells #[.int .i64 a, .int .i64 b] 3)).cell? ⟨w.heap.size + 1 + 1 + 1, 1, none⟩ = some (.int .i64 b) := by simp [go_sem]
    have c4 : ((((w.alloc (Obj.cells #[.int .i64 a, .int .i64 b] 45)).alloc (Obj.cells #[.int .i64 c, .int .i64 d] 45)).alloc (Obj.cells #[.int .i64 0, .int .i64 0] 45)).alloc (Obj.cells #[.int .i64 a, .int .i64 b] 3)).cell? ⟨w.heap.size + 1 + 1, 0, none⟩ = some (.int .i64 0) := by simp [go_sem]
    have c5 : ((((w.alloc (Obj.cells #[.int .i64 a, .int .i64 b] 45)).alloc (Obj.cells #[.int .i64 c, .int .i64 d] 45)).alloc (Obj.cells #[.int .i64 0, .int .i64 0] 45)).alloc (Obj.cells #[.int .i64 a, .int .i64 b] 3)).cell? ⟨w.heap.size + 1 + 1, 1, none⟩ = some (.int .i64 0) := by simp [go_sem]
    have c6 : ∀ o, ((((w.alloc (Obj.cells #[.int .i64 a, .int .i64 b] 45)).alloc (Obj.cells #[.int .i64 c, .int .i64 d] 45)).alloc (Obj.cells #[.int .i64 0, .int .i64 0] 45)).alloc (Obj.cells #[.int .i64 a, .int .i64 b] 3)).frozen? ⟨w.heap.size + 1 + 1, o, none⟩ = false := by intro o; simp [go_sem]
    have c7 : ((((w.alloc (Obj.cells #[.int .i64 a, .int .i64 b] 45)).alloc (Obj.cells #[.int .i64 c, .int .i64 d] 45)).alloc (Obj.cells #[.int .i64 0, .int .i64 0] 45)).alloc (Obj.cells #[.int .i64 a, .int .i64 b] 3)).heap.size = w.heap.size + 1 + 1 + 1 + 1 := by simp
    generalize ((((w.alloc (Obj.cells #[.int .i64 a, .int .i64 b] 45)).alloc (Obj.cells #[.int .i64 c, .int .i64 d] 45)).alloc (Obj.cells #[.int .i64 0, .int .i64 0] 45)).alloc (Obj.cells #[.int .i64 a, .int .i64 b] 3)) = w4 at *
    obtain ⟨B, hB⟩ : ∃ B, B = w4.heap.size := ⟨_, rfl⟩
    have HBB := Lib.hid hB
    have hB1 : w.heap.size + 1 + 1 + 1 + 1 ≤ B := by omega
    have hB2 : w4.heap.size ≤ B := by omega
    have hB3 : B ≤ w4.heap.size := by omega
    clear c7 hB
    go_loopw [5, 6, 19] (fun v u i wr => Out3 3 B wr v u i [] [] [x1, x2] [y1, y2] [x1, x2, x3, x4] [y1, y2, y3, y4] ∧ Below B w4 wr) (fun _ _ i _ => 2 - (intOf i).toNat)
    case atStart => exact ⟨Or.inl ⟨rfl, World.ownsRow_nil _ _ _ _, World.ownsRow_nil _ _ _ _, apart_nil _⟩, Below.refl _ _⟩
    case round =>
      obtain ⟨hr, hb5⟩ := hrel
      have hz5 := hb5.size
      have d0 : wr.cell? ⟨w.heap.size + 1, 0, none⟩ = some (.int .i64 c) := (hb5.cell (p := ⟨w.heap.size + 1, 0, none⟩) (by show w.heap.size + 1 < B; omega)).trans c0
      have d1 : wr.cell? ⟨w.heap.size + 1, 1, none⟩ = some (.int .i64 d) := (hb5.cell (p := ⟨w.heap.size + 1, 1, none⟩) (by show w.heap.size + 1 < B; omega)).trans c1
      have d2 : wr.cell? ⟨w.heap.size + 1 + 1 + 1, 0, none⟩ = some (.int .i64 a) := (hb5.cell (p := ⟨w.heap.size + 1 + 1 + 1, 0, none⟩) (by show w.heap.size + 1 + 1 + 1 < B; omega)).trans c2
      have d3 : wr.cell? ⟨w.heap.size + 1 + 1 + 1, 1, none⟩ = some (.int .i64 b) := (hb5.cell (p := ⟨w.heap.size + 1 + 1 + 1, 1, none⟩) (by show w.heap.size + 1 + 1 + 1 < B; omega)).trans c3
      rcases hr with ⟨rfl, hR⟩ | ⟨rfl, hR⟩ | ⟨rfl, hR⟩
      · clear c0 c1 c2 c3 c4 c5 c6 HB4
        go_wp2_with fail
        obtain ⟨wo, rfl⟩ : ∃ wo : World, wo = wr := ⟨_, rfl⟩
        have hlv := own_fresh hR.1
        have hlu := own_fresh hR.2.1
        have hR' : Rows2 3 B (wo.alloc (Obj.cells #[.int .i64 c, .int .i64 d] 3)) _ _ [] [] := ⟨hR.1.alloc _, hR.2.1.alloc _, hR.2.2⟩
        have hL' : Lit2 B wo.heap.size c d w4 (wo.alloc (Obj.cells #[.int .i64 c, .int .i64 d] 3)) _ _ := ⟨hlv, hlu, by simp [go_sem], by simp [go_sem], by simp, hb5.alloc (by omega) _⟩
        clear d0 d1 d2 d3 hb5 hR hlv hlu
        go_loopw [5, 6, 29] (fun v u i wt => Out3 3 B wt v u i [] [] [x1] [y1] [x1, x2] [y1, y2] ∧ Lit2 B wo.heap.size c d w4 wt v u) (fun _ _ i _ => 2 - (intOf i).toNat)
        case atStart => exact ⟨Or.inl ⟨rfl, hR'⟩, hL'⟩
        case round =>
          clear hR' hL'
          obtain ⟨hr, hL⟩ := hrel
          have e0 := hL.2.2.1
          have e1 := hL.2.2.2.1
          have hBW : B ≤ wr.heap.size := Nat.le_trans hB3 hL.2.2.2.2.2.size
          rcases hr with ⟨rfl, hR⟩ | ⟨rfl, hR⟩ | ⟨rfl, hR⟩
          · go_wp2_with (first | (go_at_call 54; (with_reducible refine ((F1 _).out).mono ?_); rintro e w' ⟨rfl, rfl⟩) | (go_at_call 54; (with_reducible refine ((F2 _).out).mono ?_); rintro e w' ⟨rfl, rfl⟩) | (go_at_call 54; (with_reducible refine ((F3 _).out).mono ?_); rintro e w' ⟨rfl, rfl⟩) | (go_at_call 54; (with_reducible refine ((F4 _).out).mono ?_); rintro e w' ⟨rfl, rfl⟩) | (go_at_call 54; (with_reducible refine ((G1 _).out).mono ?_); rintro e w' ⟨rfl, rfl⟩) | (go_at_call 54; (with_reducible refine ((G2 _).out).mono ?_); rintro e w' ⟨rfl, rfl⟩) | (go_at_call 54; (with_reducible refine ((G3 _).out).mono ?_); rintro e w' ⟨rfl, rfl⟩) | (go_at_call 54; (with_reducible refine ((G4 _).out).mono ?_); rintro e w' ⟨rfl, rfl⟩) | (at_builtin; refine wpList_append_own_at _ rfl (.tmp 42) (.tmp 46) 54 rfl B 3 i0 (.int .i64 0) 1 8 Try.underlying54 hi hz0 hz1 hz2 rfl (by decide) _ _ _ rfl (hR.1.alloc _) ⟨wr.heap.size, 0, none⟩ 1 1 [_] rfl rfl (cell_one_new _ _ _) (by simp [Value.oneCell']) (by simp [maxLen]) (by simp) (by simp; omega) ?_; intro v1 w1 hv1 hg1 hn1 ha1; clear hn1; have HA1 := Lib.hid ha1; clear ha1; have hu1 := World.ownsRow.kept (hR.2.1.alloc _) hg1 hR.2.2.kept; have hs1 : wr.heap.size + 1 ≤ w1.heap.size := (by have := hg1.size; simpa using this)) | (at_builtin; refine wpList_append_own_at _ rfl (.tmp 48) (.tmp 54) 54 rfl B 3 i0 (.int .i64 0) 1 8 Try.underlying54 hi hz0 hz1 hz2 rfl (by decide) _ _ _ rfl (hu1.alloc _) ⟨w1.heap.size, 0, none⟩ 1 1 [_] rfl rfl (cell_one_new _ _ _) (by simp [Value.oneCell']) (by simp [maxLen]) (by simp) (by simp; omega) ?_; intro v2 w2 hv2 hg2 hn2 ha2; clear hn2; have HA2 := Lib.hid ha2; clear ha2))
            have R := rows_step hR hL hBW hv1 hg1 HA1.out hv2 hg2 HA2.out
            clear hR hL hv1 hg1 hu1 hv2 hg2 e0 e1
            go_roundw
            case rel => exact ⟨Or.inr (Or.inl ⟨rfl, R.1⟩), R.2⟩
            case measure => simp [intOf]
          · go_wp2_with (first | (go_at_call 54; (with_reducible refine ((F1 _).out).mono ?_); rintro e w' ⟨rfl, rfl⟩) | (go_at_call 54; (with_reducible refine ((F2 _).out).mono ?_); rintro e w' ⟨rfl, rfl⟩) | (go_at_call 54; (with_reducible refine ((F3 _).out).mono ?_); rintro e w' ⟨rfl, rfl⟩) | (go_at_call 54; (with_reducible refine ((F4 _).out).mono ?_); rintro e w' ⟨rfl, rfl⟩) | (go_at_call 54; (with_reducible refine ((G1 _).out).mono ?_); rintro e w' ⟨rfl, rfl⟩) | (go_at_call 54; (with_reducible refine ((G2 _).out).mono ?_); rintro e w' ⟨rfl, rfl⟩) | (go_at_call 54; (with_reducible refine ((G3 _).out).mono ?_); rintro e w' ⟨rfl, rfl⟩) | (go_at_call 54; (with_reducible refine ((G4 _).out).mono ?_); rintro e w' ⟨rfl, rfl⟩) | (at_builtin; refine wpList_append_own_at _ rfl (.tmp 42) (.tmp 46) 54 rfl B 3 i0 (.int .i64 0) 1 8 Try.underlying54 hi hz0 hz1 hz2 rfl (by decide) _ _ _ rfl (hR.1.alloc _) ⟨wr.heap.size, 0, none⟩ 1 1 [_] rfl rfl (cell_one_new _ _ _) (by simp [Value.oneCell']) (by simp [maxLen]) (by simp) (by simp; omega) ?_; intro v1 w1 hv1 hg1 hn1 ha1; clear hn1; have HA1 := Lib.hid ha1; clear ha1; have hu1 := World.ownsRow.kept (hR.2.1.alloc _) hg1 hR.2.2.kept; have hs1 : wr.heap.size + 1 ≤ w1.heap.size := (by have := hg1.size; simpa using this)) | (at_builtin; refine wpList_append_own_at _ rfl (.tmp 48) (.tmp 54) 54 rfl B 3 i0 (.int .i64 0) 1 8 Try.underlying54 hi hz0 hz1 hz2 rfl (by decide) _ _ _ rfl (hu1.alloc _) ⟨w1.heap.size, 0, none⟩ 1 1 [_] rfl rfl (cell_one_new _ _ _) (by simp [Value.oneCell']) (by simp [maxLen]) (by simp) (by simp; omega) ?_; intro v2 w2 hv2 hg2 hn2 ha2; clear hn2; have HA2 := Lib.hid ha2; clear ha2))
            have R := rows_step hR hL hBW hv1 hg1 HA1.out hv2 hg2 HA2.out
            clear hR hL hv1 hg1 hu1 hv2 hg2 e0 e1
            go_roundw
            case rel => exact ⟨Or.inr (Or.inr ⟨rfl, R.1⟩), R.2⟩
            case measure => simp [intOf]
          · go_wp2_with fail
            go_roundw
            case rel => exact ⟨Or.inr (Or.inl ⟨rfl, hR⟩), hL.2.2.2.2.2⟩
            case measure => simp [intOf]
      · clear c0 c1 c2 c3 c4 c5 c6 HB4
        go_wp2_with fail
        obtain ⟨wo, rfl⟩ : ∃ wo : World, wo = wr := ⟨_, rfl⟩
        have hlv := own_fresh hR.1
        have hlu := own_fresh hR.2.1
        have hR' : Rows2 3 B (wo.alloc (Obj.cells #[.int .i64 c, .int .i64 d] 3)) _ _ [x1, x2] [y1, y2] := ⟨hR.1.alloc _, hR.2.1.alloc _, hR.2.2⟩
        have hL' : Lit2 B wo.heap.size c d w4 (wo.alloc (Obj.cells #[.int .i64 c, .int .i64 d] 3)) _ _ := ⟨hlv, hlu, by simp [go_sem], by simp [go_sem], by simp, hb5.alloc (by omega) _⟩
        clear d0 d1 d2 d3 hb5 hR hlv hlu
        go_loopw [5, 6, 29] (fun v u i wt => Out3 3 B wt v u i [x1, x2] [y1, y2] [x1, x2, x3] [y1, y2, y3] [x1, x2, x3, x4] [y1, y2, y3, y4] ∧ Lit2 B wo.heap.size c d w4 wt v u) (fun _ _ i _ => 2 - (intOf i).toNat)
        case atStart => exact ⟨Or.inl ⟨rfl, hR'⟩, hL'⟩
        case round =>
          clear hR' hL'
          obtain ⟨hr, hL⟩ := hrel
          have e0 := hL.2.2.1
          have e1 := hL.2.2.2.1
          have hBW : B ≤ wr.heap.size := Nat.le_trans hB3 hL.2.2.2.2.2.size
          rcases hr with ⟨rfl, hR⟩ | ⟨rfl, hR⟩ | ⟨rfl, hR⟩
          · go_wp2_with (first | (go_at_call 54; (with_reducible refine ((F1 _).out).mono ?_); rintro e w' ⟨rfl, rfl⟩) | (go_at_call 54; (with_reducible refine ((F2 _).out).mono ?_); rintro e w' ⟨rfl, rfl⟩) | (go_at_call 54; (with_reducible refine ((F3 _).out).mono ?_); rintro e w' ⟨rfl, rfl⟩) | (go_at_call 54; (with_reducible refine ((F4 _).out).mono ?_); rintro e w' ⟨rfl, rfl⟩) | (go_at_call 54; (with_reducible refine ((G1 _).out).mono ?_); rintro e w' ⟨rfl, rfl⟩) | (go_at_call 54; (with_reducible refine ((G2 _).out).mono ?_); rintro e w' ⟨rfl, rfl⟩) | (go_at_call 54; (with_reducible refine ((G3 _).out).mono ?_); rintro e w' ⟨rfl, rfl⟩) | (go_at_call 54; (with_reducible refine ((G4 _).out).mono ?_); rintro e w' ⟨rfl, rfl⟩) | (at_builtin; refine wpList_append_own_at _ rfl (.tmp 42) (.tmp 46) 54 rfl B 3 i0 (.int .i64 0) 1 8 Try.underlying54 hi hz0 hz1 hz2 rfl (by decide) _ _ _ rfl (hR.1.alloc _) ⟨wr.heap.size, 0, none⟩ 1 1 [_] rfl rfl (cell_one_new _ _ _) (by simp [Value.oneCell']) (by simp [maxLen]) (by simp) (by simp; omega) ?_; intro v1 w1 hv1 hg1 hn1 ha1; clear hn1; have HA1 := Lib.hid ha1; clear ha1; have hu1 := World.ownsRow.kept (hR.2.1.alloc _) hg1 hR.2.2.kept; have hs1 : wr.heap.size + 1 ≤ w1.heap.size := (by have := hg1.size; simpa using this)) | (at_builtin; refine wpList_append_own_at _ rfl (.tmp 48) (.tmp 54) 54 rfl B 3 i0 (.int .i64 0) 1 8 Try.underlying54 hi hz0 hz1 hz2 rfl (by decide) _ _ _ rfl (hu1.alloc _) ⟨w1.heap.size, 0, none⟩ 1 1 [_] rfl rfl (cell_one_new _ _ _) (by simp [Value.oneCell']) (by simp [maxLen]) (by simp) (by simp; omega) ?_; intro v2 w2 hv2 hg2 hn2 ha2; clear hn2; have HA2 := Lib.hid ha2; clear ha2))
            have R := rows_step hR hL hBW hv1 hg1 HA1.out hv2 hg2 HA2.out
            clear hR hL hv1 hg1 hu1 hv2 hg2 e0 e1
            go_roundw
            case rel => exact ⟨Or.inr (Or.inl ⟨rfl, R.1⟩), R.2⟩
            case measure => simp [intOf]
          · go_wp2_with (first | (go_at_call 54; (with_reducible refine ((F1 _).out).mono ?_); rintro e w' ⟨rfl, rfl⟩) | (go_at_call 54; (with_reducible refine ((F2 _).out).mono ?_); rintro e w' ⟨rfl, rfl⟩) | (go_at_call 54; (with_reducible refine ((F3 _).out).mono ?_); rintro e w' ⟨rfl, rfl⟩) | (go_at_call 54; (with_reducible refine ((F4 _).out).mono ?_); rintro e w' ⟨rfl, rfl⟩) | (go_at_call 54; (with_reducible refine ((G1 _).out).mono ?_); rintro e w' ⟨rfl, rfl⟩) | (go_at_call 54; (with_reducible refine ((G2 _).out).mono ?_); rintro e w' ⟨rfl, rfl⟩) | (go_at_call 54; (with_reducible refine ((G3 _).out).mono ?_); rintro e w' ⟨rfl, rfl⟩) | (go_at_call 54; (with_reducible refine ((G4 _).out).mono ?_); rintro e w' ⟨rfl, rfl⟩) | (at_builtin; refine wpList_append_own_at _ rfl (.tmp 42) (.tmp 46) 54 rfl B 3 i0 (.int .i64 0) 1 8 Try.underlying54 hi hz0 hz1 hz2 rfl (by decide) _ _ _ rfl (hR.1.alloc _) ⟨wr.heap.size, 0, none⟩ 1 1 [_] rfl rfl (cell_one_new _ _ _) (by simp [Value.oneCell']) (by simp [maxLen]) (by simp) (by simp; omega) ?_; intro v1 w1 hv1 hg1 hn1 ha1; clear hn1; have HA1 := Lib.hid ha1; clear ha1; have hu1 := World.ownsRow.kept (hR.2.1.alloc _) hg1 hR.2.2.kept; have hs1 : wr.heap.size + 1 ≤ w1.heap.size := (by have := hg1.size; simpa using this)) | (at_builtin; refine wpList_append_own_at _ rfl (.tmp 48) (.tmp 54) 54 rfl B 3 i0 (.int .i64 0) 1 8 Try.underlying54 hi hz0 hz1 hz2 rfl (by decide) _ _ _ rfl (hu1.alloc _) ⟨w1.heap.size, 0, none⟩ 1 1 [_] rfl rfl (cell_one_new _ _ _) (by simp [Value.oneCell']) (by simp [maxLen]) (by simp) (by simp; omega) ?_; intro v2 w2 hv2 hg2 hn2 ha2; clear hn2; have HA2 := Lib.hid ha2; clear ha2))
            have R := rows_step hR hL hBW hv1 hg1 HA1.out hv2 hg2 HA2.out
            clear hR hL hv1 hg1 hu1 hv2 hg2 e0 e1
            go_roundw
            case rel => exact ⟨Or.inr (Or.inr ⟨rfl, R.1⟩), R.2⟩
            case measure => simp [intOf]
          · go_wp2_with fail
            go_roundw
            case rel => exact ⟨Or.inr (Or.inr ⟨rfl, hR⟩), hL.2.2.2.2.2⟩
            case measure => simp [intOf]
      · obtain ⟨g, cg, rfl, hg1, hg2, hg3, _⟩ := own_cell hR.1 (by simp)
        obtain ⟨h, ch, rfl, hh1, hh2, hh3, _⟩ := own_cell hR.2.1 (by simp)
        have d4 : wr.cell? ⟨w.heap.size + 1 + 1, 0, none⟩ = some (.int .i64 0) := (hb5.cell (p := ⟨w.heap.size + 1 + 1, 0, none⟩) (by show w.heap.size + 1 + 1 < B; omega)).trans c4
        have d5 : wr.cell? ⟨w.heap.size + 1 + 1, 1, none⟩ = some (.int .i64 0) := (hb5.cell (p := ⟨w.heap.size + 1 + 1, 1, none⟩) (by show w.heap.size + 1 + 1 < B; omega)).trans c5
        have d6 : ∀ o, wr.frozen? ⟨w.heap.size + 1 + 1, o, none⟩ = false := fun o => (hb5.frozen (p := ⟨w.heap.size + 1 + 1, o, none⟩) (by show w.heap.size + 1 + 1 < B; omega)).trans (c6 o)
        have M1 := fun W : World => fun (hW : W = wr) => Lib.hid (show Calls Try.prog 57 #[.slice (some ⟨g, 0, none⟩) 4 cg] W fun e w' => e = .returned (.int .i64 (foK min [x1, x2, x3, x4] 4)) ∧ W = w' from slicesMin_any g 0 cg [x1, x2, x3, x4] W (by simp) (by simp) (by subst hW; intro j hj; rw [Nat.zero_add, hg3 j hj]; match j, hj with | 0, _ => rfl | 1, _ => rfl | 2, _ => rfl | 3, _ => rfl))
        have M2 := fun W : World => fun (hW : W = wr) => Lib.hid (show Calls Try.prog 58 #[.slice (some ⟨h, 0, none⟩) 4 ch] W fun e w' => e = .returned (.int .i64 (foK max [y1, y2, y3, y4] 4)) ∧ W = w' from slicesMax_any h 0 ch [y1, y2, y3, y4] W (by simp) (by simp) (by subst hW; intro j hj; rw [Nat.zero_add, hh3 j hj]; match j, hj with | 0, _ => rfl | 1, _ => rfl | 2, _ => rfl | 3, _ => rfl))
        have HBr : Below w.heap.size w wr := HB4.trans (hb5.mono (by omega))
        clear hg3 hh3 hR d0 d1 d2 d3 hb5 HB4
        go_wp2_with (first | (go_at_call 57; (with_reducible refine (M1 _ rfl).out.mono ?_); rintro e w' ⟨rfl, rfl⟩) | (go_at_call 58; (with_reducible refine (M2 _ rfl).out.mono ?_); rintro e w' ⟨rfl, rfl⟩))
        refine bodyPost_ret (v := _) (by simp [results, Try.results34, go_sem, *]) rfl ⟨rfl, ?_⟩
        repeat' first | (with_reducible first | apply zRf | assumption | apply zDn | apply zDr | apply zAl | apply zSt | refine zVi (by assumption) ?_ ?_) | go_size
  · have F1 := fun W : World => Lib.hid (show Calls Try.prog 54 #[.int .i64 (-(a * 4096)), .int .i64 (-c)] W fun e w' => e = .returned (.int .i64 (ovD a c)) ∧ W = w' by rw [(ovN (a := a) s1).1]; exact floorOf_any _ _ W (by omega) (by omega) (by omega))
    have G1 := fun W : World => Lib.hid (show Calls Try.prog 54 #[.int .i64 (a * 4096), .int .i64 (-c)] W fun e w' => e = .returned (.int .i64 (-(ovU a c))) ∧ W = w' by rw [(ovN (a := a) s1).2]; exact floorOf_any _ _ W (by omega) (by omega) (by omega))
    have F2 := fun W : World => Lib.hid (show Calls Try.prog 54 #[.int .i64 (-(a * 4096)), .int .i64 (-d)] W fun e w' => e = .returned (.int .i64 (ovD a d)) ∧ W = w' by rw [(ovN (a := a) s2).1]; exact floorOf_any _ _ W (by omega) (by omega) (by omega))
    have G2 := fun W : World => Lib.hid (show Calls Try.prog 54 #[.int .i64 (a * 4096), .int .i64 (-d)] W fun e w' => e = .returned (.int .i64 (-(ovU a d))) ∧ W = w' by rw [(ovN (a := a) s2).2]; exact floorOf_any _ _ W (by omega) (by omega) (by omega))
    have F3 := fun W : World => Lib.hid (show Calls Try.prog 54 #[.int .i64 (-(b * 4096)), .int .i64 (-c)] W fun e w' => e = .returned (.int .i64 (ovD b c)) ∧ W = w' by rw [(ovN (a := b) s1).1]; exact floorOf_any _ _ W (by omega) (by omega) (by omega))
    have G3 := fun W : World => Lib.hid (show Calls Try.prog 54 #[.int .i64 (b * 4096), .int .i64 (-c)] W fun e w' => e = .returned (.int .i64 (-(ovU b c))) ∧ W = w' by rw [(ovN (a := b) s1).2]; exact floorOf_any _ _ W (by omega) (by omega) (by omega))
    have F4 := fun W : World => Lib.hid (show Calls Try.prog 54 #[.int .i64 (-(b * 4096)), .int .i64 (-d)] W fun e w' => e = .returned (.int .i64 (ovD b d)) ∧ W = w' by rw [(ovN (a := b) s2).1]; exact floorOf_any _ _ W (by omega) (by omega) (by omega))
    have G4 := fun W : World => Lib.hid (show Calls Try.prog 54 #[.int .i64 (b * 4096), .int .i64 (-d)] W fun e w' => e = .returned (.int .i64 (-(ovU b d))) ∧ W = w' by rw [(ovN (a := b) s2).2]; exact floorOf_any _ _ W (by omega) (by omega) (by omega))
    generalize ovD a c = x1 at *
    generalize ovU a c = y1 at *
    generalize ovD a d = x2 at *
    generalize ovU a d = y2 at *
    generalize ovD b c = x3 at *
    generalize ovU b c = y3 at *
    generalize ovD b d = x4 at *
    generalize ovU b d = y4 at *
    have tok1 : True := trivial
    have tok2 : True := trivial
    have tok3 : True := trivial
    have tok4 : True := trivial
    go_enter Try.func34, Try.ntmps34
    go_wp2_with fail
    have HB4 : Below w.heap.size w ((((w.alloc (Obj.cells #[.int .i64 a, .int .i64 b] 45)).alloc (Obj.cells #[.int .i64 c, .int .i64 d] 45)).alloc (Obj.cells #[.int .i64 0, .int .i64 0] 45)).alloc (Obj.cells #[.int .i64 a, .int .i64 b] 3)) := by
      repeat' first | (with_reducible first | apply zRf | assumption | apply zDn | apply zDr | apply zAl | apply zSt | refine zVi (by assumption) ?_ ?_) | go_size
    have c0 : ((((w.alloc (Obj.cells #[.int .i64 a, .int .i64 b] 45)).alloc (Obj.cells #[.int .i64 c, .int .i64 d] 45)).alloc (Obj.cells #[.int .i64 0, .int .i64 0] 45)).alloc (Obj.cells #[.int .i64 a, .int .i64 b] 3)).cell? ⟨w.heap.size + 1, 0, none⟩ = some (.int .i64 c) := by simp [go_sem]
    have c1 : ((((w.alloc (Obj.cells #[.int .i64 a, .int .i64 b] 45)).alloc (Obj.cells #[.int .i64 c, .int .i64 d] 45)).alloc (Obj.cells #[.int .i64 0, .int .i64 0] 45)).alloc (Obj.cells #[.int .i64 a, .int .i64 b] 3)).cell? ⟨w.heap.size + 1, 1, none⟩ = some (.int .i64 d) := by simp [go_sem]
    have c2 : ((((w.alloc (Obj.cells #[.int .i64 a, .int .i64 b] 45)).alloc (Obj.cells #[.int .i64 c, .int .i64 d] 45)).alloc (Obj.cells #[.int .i64 0, .int .i64 0] 45)).alloc (Obj.cells #[.int .i64 a, .int .i64 b] 3)).cell? ⟨w.heap.size + 1 + 1 + 1, 0, none⟩ = some (.int .i64 a) := by simp [go_sem]
    have c3 : ((((w.alloc (Obj.cells #[.int .i64 a, .int .i64 b] 45)).alloc (Obj.cells #[.int .i64 c, .int .i64 d] 45)).alloc (Obj.cells #[.int .i64 0, .int .i64 0] 45)).alloc (Obj.cells #[.int .i64 a, .int .i64 b] 3)).cell? ⟨w.heap.size + 1 + 1 + 1, 1, none⟩ = some (.int .i64 b) := by simp [go_sem]
    have c4 : ((((w.alloc (Obj.cells #[.int .i64 a, .int .i64 b] 45)).alloc (Obj.cells #[.int .i64 c, .int .i64 d] 45)).alloc (Obj.cells #[.int .i64 0, .int .i64 0] 45)).alloc (Obj.cells #[.int .i64 a, .int .i64 b] 3)).cell? ⟨w.heap.size + 1 + 1, 0, none⟩ = some (.int .i64 0) := by simp [go_sem]
    have c5 : ((((w.alloc (Obj.cells #[.int .i64 a, .int .i64 b] 45)).alloc (Obj.cells #[.int .i64 c, .int .i64 d] 45)).alloc (Obj.cells #[.int .i64 0, .int .i64 0] 45)).alloc (Obj.cells #[.int .i64 a, .int .i64 b] 3)).cell? ⟨w.heap.size + 1 + 1, 1, none⟩ = some (.int .i64 0) := by simp [go_sem]
    have c6 : ∀ o, ((((w.alloc (Obj.cells #[.int .i64 a, .int .i64 b] 45)).alloc (Obj.cells #[.int .i64 c, .int .i64 d] 45)).alloc (Obj.cells #[.int .i64 0, .int .i64 0] 45)).alloc (Obj.cells #[.int .i64 a, .int .i64 b] 3)).frozen? ⟨w.heap.size + 1 + 1, o, none⟩ = false := by intro o; simp [go_sem]
    have c7 : ((((w.alloc (Obj.cells #[.int .i64 a, .int .i64 b] 45)).alloc (Obj.cells #[.int .i64 c, .int .i64 d] 45)).alloc (Obj.cells #[.int .i64 0, .int .i64 0] 45)).alloc (Obj.cells #[.int .i64 a, .int .i64 b] 3)).heap.size = w.heap.size + 1 + 1 + 1 + 1 := by simp
    generalize ((((w.alloc (Obj.cells #[.int .i64 a, .int .i64 b] 45)).alloc (Obj.cells #[.int .i64 c, .int .i64 d] 45)).alloc (Obj.cells #[.int .i64 0, .int .i64 0] 45)).alloc (Obj.cells #[.int .i64 a, .int .i64 b] 3)) = w4 at *
    obtain ⟨B, hB⟩ : ∃ B, B = w4.heap.size := ⟨_, rfl⟩
    have HBB := Lib.hid hB
    have hB1 : w.heap.size + 1 + 1 + 1 + 1 ≤ B := by omega
    have hB2 : w4.heap.size ≤ B := by omega
    have hB3 : B ≤ w4.heap.size := by omega
    clear c7 hB
    go_loopw [5, 6, 19] (fun v u i wr => Out3 3 B wr v u i [] [] [x1, x2] [y1, y2] [x1, x2, x3, x4] [y1, y2, y3, y4] ∧ Below B w4 wr) (fun _ _ i _ => 2 - (intOf i).toNat)
    case atStart => exact ⟨Or.inl ⟨rfl, World.ownsRow_nil _ _ _ _, World.ownsRow_nil _ _ _ _, apart_nil _⟩, Below.refl _ _⟩
    case round =>
      obtain ⟨hr, hb5⟩ := hrel
      have hz5 := hb5.size
      have d0 : wr.cell? ⟨w.heap.size + 1, 0, none⟩ = some (.int .i64 c) := (hb5.cell (p := ⟨w.heap.size + 1, 0, none⟩) (by show w.heap.size + 1 < B; omega)).trans c0
      have d1 : wr.cell? ⟨w.heap.size + 1, 1, none⟩ = some (.int .i64 d) := (hb5.cell (p := ⟨w.heap.size + 1, 1, none⟩) (by show w.heap.size + 1 < B; omega)).trans c1
      have d2 : wr.cell? ⟨w.heap.size + 1 + 1 + 1, 0, none⟩ = some (.int .i64 a) := (hb5.cell (p := ⟨w.heap.size + 1 + 1 + 1, 0, none⟩) (by show w.heap.size + 1 + 1 + 1 < B; omega)).trans c2
      have d3 : wr.cell? ⟨w.heap.size + 1 + 1 + 1, 1, none⟩ = some (.int .i64 b) := (hb5.cell (p := ⟨w.heap.size + 1 + 1 + 1, 1, none⟩) (by show w.heap.size + 1 + 1 + 1 < B; omega)).trans c3
      rcases hr with ⟨rfl, hR⟩ | ⟨rfl, hR⟩ | ⟨rfl, hR⟩
      · clear c0 c1 c2 c3 c4 c5 c6 HB4
        go_wp2_with fail
        obtain ⟨wo, rfl⟩ : ∃ wo : World, wo = wr := ⟨_, rfl⟩
        have hlv := own_fresh hR.1
        have hlu := own_fresh hR.2.1
        have hR' : Rows2 3 B (wo.alloc (Obj.cells #[.int .i64 c, .int .i64 d] 3)) _ _ [] [] := ⟨hR.1.alloc _, hR.2.1.alloc _, hR.2.2⟩
        have hL' : Lit2 B wo.heap.size c d w4 (wo.alloc (Obj.cells #[.int .i64 c, .int .i64 d] 3)) _ _ := ⟨hlv, hlu, by simp [go_sem], by simp [go_sem], by simp, hb5.alloc (by omega) _⟩
        clear d0 d1 d2 d3 hb5 hR hlv hlu
        go_loopw [5, 6, 29] (fun v u i wt => Out3 3 B wt v u i [] [] [x1] [y1] [x1, x2] [y1, y2] ∧ Lit2 B wo.heap.size c d w4 wt v u) (fun _ _ i _ => 2 - (intOf i).toNat)
        case atStart => exact ⟨Or.inl ⟨rfl, hR'⟩, hL'⟩
        case round =>
          clear hR' hL'
          obtain ⟨hr, hL⟩ := hrel
          have e0 := hL.2.2.1
          have e1 := hL.2.2.2.1
          have hBW : B ≤ wr.heap.size := Nat.le_trans hB3 hL.2.2.2.2.2.size
          rcases hr with ⟨rfl, hR⟩ | ⟨rfl, hR⟩ | ⟨rfl, hR⟩
          · go_wp2_with (first | (go_at_call 54; (with_reducible refine ((F1 _).out).mono ?_); rintro e w' ⟨rfl, rfl⟩) | (go_at_call 54; (with_reducible refine ((F2 _).out).mono ?_); rintro e w' ⟨rfl, rfl⟩) | (go_at_call 54; (with_reducible refine ((F3 _).out).mono ?_); rintro e w' ⟨rfl, rfl⟩) | (go_at_call 54; (with_reducible refine ((F4 _).out).mono ?_); rintro e w' ⟨rfl, rfl⟩) | (go_at_call 54; (with_reducible refine ((G1 _).out).mono ?_); rintro e w' ⟨rfl, rfl⟩) | (go_at_call 54; (with_reducible refine ((G2 _).out).mono ?_); rintro e w' ⟨rfl, rfl⟩) | (go_at_call 54; (with_reducible refine ((G3 _).out).mono ?_); rintro e w' ⟨rfl, rfl⟩) | (go_at_call 54; (with_reducible refine ((G4 _).out).mono ?_); rintro e w' ⟨rfl, rfl⟩) | (at_builtin; refine wpList_append_own_at _ rfl (.tmp 42) (.tmp 46) 54 rfl B 3 i0 (.int .i64 0) 1 8 Try.underlying54 hi hz0 hz1 hz2 rfl (by decide) _ _ _ rfl (hR.1.alloc _) ⟨wr.heap.size, 0, none⟩ 1 1 [_] rfl rfl (cell_one_new _ _ _) (by simp [Value.oneCell']) (by simp [maxLen]) (by simp) (by simp; omega) ?_; intro v1 w1 hv1 hg1 hn1 ha1; clear hn1; have HA1 := Lib.hid ha1; clear ha1; have hu1 := World.ownsRow.kept (hR.2.1.alloc _) hg1 hR.2.2.kept; have hs1 : wr.heap.size + 1 ≤ w1.heap.size := (by have := hg1.size; simpa using this)) | (at_builtin; refine wpList_append_own_at _ rfl (.tmp 48) (.tmp 54) 54 rfl B 3 i0 (.int .i64 0) 1 8 Try.underlying54 hi hz0 hz1 hz2 rfl (by decide) _ _ _ rfl (hu1.alloc _) ⟨w1.heap.size, 0, none⟩ 1 1 [_] rfl rfl (cell_one_new _ _ _) (by simp [Value.oneCell']) (by simp [maxLen]) (by simp) (by simp; omega) ?_; intro v2 w2 hv2 hg2 hn2 ha2; clear hn2; have HA2 := Lib.hid ha2; clear ha2))
            have R := rows_step hR hL hBW hv1 hg1 HA1.out hv2 hg2 HA2.out
            clear hR hL hv1 hg1 hu1 hv2 hg2 e0 e1
            go_roundw
            case rel => exact ⟨Or.inr (Or.inl ⟨rfl, R.1⟩), R.2⟩
            case measure => simp [intOf]
          · go_wp2_with (first | (go_at_call 54; (with_reducible refine ((F1 _).out).mono ?_); rintro e w' ⟨rfl, rfl⟩) | (go_at_call 54; (with_reducible refine ((F2 _).out).mono ?_); rintro e w' ⟨rfl, rfl⟩) | (go_at_call 54; (with_reducible refine ((F3 _).out).mono ?_); rintro e w' ⟨rfl, rfl⟩) | (go_at_call 54; (with_reducible refine ((F4 _).out).mono ?_); rintro e w' ⟨rfl, rfl⟩) | (go_at_call 54; (with_reducible refine ((G1 _).out).mono ?_); rintro e w' ⟨rfl, rfl⟩) | (go_at_call 54; (with_reducible refine ((G2 _).out).mono ?_); rintro e w' ⟨rfl, rfl⟩) | (go_at_call 54; (with_reducible refine ((G3 _).out).mono ?_); rintro e w' ⟨rfl, rfl⟩) | (go_at_call 54; (with_reducible refine ((G4 _).out).mono ?_); rintro e w' ⟨rfl, rfl⟩) | (at_builtin; refine wpList_append_own_at _ rfl (.tmp 42) (.tmp 46) 54 rfl B 3 i0 (.int .i64 0) 1 8 Try.underlying54 hi hz0 hz1 hz2 rfl (by decide) _ _ _ rfl (hR.1.alloc _) ⟨wr.heap.size, 0, none⟩ 1 1 [_] rfl rfl (cell_one_new _ _ _) (by simp [Value.oneCell']) (by simp [maxLen]) (by simp) (by simp; omega) ?_; intro v1 w1 hv1 hg1 hn1 ha1; clear hn1; have HA1 := Lib.hid ha1; clear ha1; have hu1 := World.ownsRow.kept (hR.2.1.alloc _) hg1 hR.2.2.kept; have hs1 : wr.heap.size + 1 ≤ w1.heap.size := (by have := hg1.size; simpa using this)) | (at_builtin; refine wpList_append_own_at _ rfl (.tmp 48) (.tmp 54) 54 rfl B 3 i0 (.int .i64 0) 1 8 Try.underlying54 hi hz0 hz1 hz2 rfl (by decide) _ _ _ rfl (hu1.alloc _) ⟨w1.heap.size, 0, none⟩ 1 1 [_] rfl rfl (cell_one_new _ _ _) (by simp [Value.oneCell']) (by simp [maxLen]) (by simp) (by simp; omega) ?_; intro v2 w2 hv2 hg2 hn2 ha2; clear hn2; have HA2 := Lib.hid ha2; clear ha2))
            have R := rows_step hR hL hBW hv1 hg1 HA1.out hv2 hg2 HA2.out
            clear hR hL hv1 hg1 hu1 hv2 hg2 e0 e1
            go_roundw
            case rel => exact ⟨Or.inr (Or.inr ⟨rfl, R.1⟩), R.2⟩
            case measure => simp [intOf]
          · go_wp2_with fail
            go_roundw
            case rel => exact ⟨Or.inr (Or.inl ⟨rfl, hR⟩), hL.2.2.2.2.2⟩
            case measure => simp [intOf]
      · clear c0 c1 c2 c3 c4 c5 c6 HB4
        go_wp2_with fail
        obtain ⟨wo, rfl⟩ : ∃ wo : World, wo = wr := ⟨_, rfl⟩
        have hlv := own_fresh hR.1
        have hlu := own_fresh hR.2.1
        have hR' : Rows2 3 B (wo.alloc (Obj.cells #[.int .i64 c, .int .i64 d] 3)) _ _ [x1, x2] [y1, y2] := ⟨hR.1.alloc _, hR.2.1.alloc _, hR.2.2⟩
        have hL' : Lit2 B wo.heap.size c d w4 (wo.alloc (Obj.cells #[.int .i64 c, .int .i64 d] 3)) _ _ := ⟨hlv, hlu, by simp [go_sem], by simp [go_sem], by simp, hb5.alloc (by omega) _⟩
        clear d0 d1 d2 d3 hb5 hR hlv hlu
        go_loopw [5, 6, 29] (fun v u i wt => Out3 3 B wt v u i [x1, x2] [y1, y2] [x1, x2, x3] [y1, y2, y3] [x1, x2, x3, x4] [y1, y2, y3, y4] ∧ Lit2 B wo.heap.size c d w4 wt v u) (fun _ _ i _ => 2 - (intOf i).toNat)
        case atStart => exact ⟨Or.inl ⟨rfl, hR'⟩, hL'⟩
        case round =>
          clear hR' hL'
          obtain ⟨hr, hL⟩ := hrel
          have e0 := hL.2.2.1
          have e1 := hL.2.2.2.1
          have hBW : B ≤ wr.heap.size := Nat.le_trans hB3 hL.2.2.2.2.2.size
          rcases hr with ⟨rfl, hR⟩ | ⟨rfl, hR⟩ | ⟨rfl, hR⟩
          · go_wp2_with (first | (go_at_call 54; (with_reducible refine ((F1 _).out).mono ?_); rintro e w' ⟨rfl, rfl⟩) | (go_at_call 54; (with_reducible refine ((F2 _).out).mono ?_); rintro e w' ⟨rfl, rfl⟩) | (go_at_call 54; (with_reducible refine ((F3 _).out).mono ?_); rintro e w' ⟨rfl, rfl⟩) | (go_at_call 54; (with_reducible refine ((F4 _).out).mono ?_); rintro e w' ⟨rfl, rfl⟩) | (go_at_call 54; (with_reducible refine ((G1 _).out).mono ?_); rintro e w' ⟨rfl, rfl⟩) | (go_at_call 54; (with_reducible refine ((G2 _).out).mono ?_); rintro e w' ⟨rfl, rfl⟩) | (go_at_call 54; (with_reducible refine ((G3 _).out).mono ?_); rintro e w' ⟨rfl, rfl⟩) | (go_at_call 54; (with_reducible refine ((G4 _).out).mono ?_); rintro e w' ⟨rfl, rfl⟩) | (at_builtin; refine wpList_append_own_at _ rfl (.tmp 42) (.tmp 46) 54 rfl B 3 i0 (.int .i64 0) 1 8 Try.underlying54 hi hz0 hz1 hz2 rfl (by decide) _ _ _ rfl (hR.1.alloc _) ⟨wr.heap.size, 0, none⟩ 1 1 [_] rfl rfl (cell_one_new _ _ _) (by simp [Value.oneCell']) (by simp [maxLen]) (by simp) (by simp; omega) ?_; intro v1 w1 hv1 hg1 hn1 ha1; clear hn1; have HA1 := Lib.hid ha1; clear ha1; have hu1 := World.ownsRow.kept (hR.2.1.alloc _) hg1 hR.2.2.kept; have hs1 : wr.heap.size + 1 ≤ w1.heap.size := (by have := hg1.size; simpa using this)) | (at_builtin; refine wpList_append_own_at _ rfl (.tmp 48) (.tmp 54) 54 rfl B 3 i0 (.int .i64 0) 1 8 Try.underlying54 hi hz0 hz1 hz2 rfl (by decide) _ _ _ rfl (hu1.alloc _) ⟨w1.heap.size, 0, none⟩ 1 1 [_] rfl rfl (cell_one_new _ _ _) (by simp [Value.oneCell']) (by simp [maxLen]) (by simp) (by simp; omega) ?_; intro v2 w2 hv2 hg2 hn2 ha2; clear hn2; have HA2 := Lib.hid ha2; clear ha2))
            have R := rows_step hR hL hBW hv1 hg1 HA1.out hv2 hg2 HA2.out
            clear hR hL hv1 hg1 hu1 hv2 hg2 e0 e1
            go_roundw
            case rel => exact ⟨Or.inr (Or.inl ⟨rfl, R.1⟩), R.2⟩
            case measure => simp [intOf]
          · go_wp2_with (first | (go_at_call 54; (with_reducible refine ((F1 _).out).mono ?_); rintro e w' ⟨rfl, rfl⟩) | (go_at_call 54; (with_reducible refine ((F2 _).out).mono ?_); rintro e w' ⟨rfl, rfl⟩) | (go_at_call 54; (with_reducible refine ((F3 _).out).mono ?_); rintro e w' ⟨rfl, rfl⟩) | (go_at_call 54; (with_reducible refine ((F4 _).out).mono ?_); rintro e w' ⟨rfl, rfl⟩) | (go_at_call 54; (with_reducible refine ((G1 _).out).mono ?_); rintro e w' ⟨rfl, rfl⟩) | (go_at_call 54; (with_reducible refine ((G2 _).out).mono ?_); rintro e w' ⟨rfl, rfl⟩) | (go_at_call 54; (with_reducible refine ((G3 _).out).mono ?_); rintro e w' ⟨rfl, rfl⟩) | (go_at_call 54; (with_reducible refine ((G4 _).out).mono ?_); rintro e w' ⟨rfl, rfl⟩) | (at_builtin; refine wpList_append_own_at _ rfl (.tmp 42) (.tmp 46) 54 rfl B 3 i0 (.int .i64 0) 1 8 Try.underlying54 hi hz0 hz1 hz2 rfl (by decide) _ _ _ rfl (hR.1.alloc _) ⟨wr.heap.size, 0, none⟩ 1 1 [_] rfl rfl (cell_one_new _ _ _) (by simp [Value.oneCell']) (by simp [maxLen]) (by simp) (by simp; omega) ?_; intro v1 w1 hv1 hg1 hn1 ha1; clear hn1; have HA1 := Lib.hid ha1; clear ha1; have hu1 := World.ownsRow.kept (hR.2.1.alloc _) hg1 hR.2.2.kept; have hs1 : wr.heap.size + 1 ≤ w1.heap.size := (by have := hg1.size; simpa using this)) | (at_builtin; refine wpList_append_own_at _ rfl (.tmp 48) (.tmp 54) 54 rfl B 3 i0 (.int .i64 0) 1 8 Try.underlying54 hi hz0 hz1 hz2 rfl (by decide) _ _ _ rfl (hu1.alloc _) ⟨w1.heap.size, 0, none⟩ 1 1 [_] rfl rfl (cell_one_new _ _ _) (by simp [Value.oneCell']) (by simp [maxLen]) (by simp) (by simp; omega) ?_; intro v2 w2 hv2 hg2 hn2 ha2; clear hn2; have HA2 := Lib.hid ha2; clear ha2))
            have R := rows_step hR hL hBW hv1 hg1 HA1.out hv2 hg2 HA2.out
            clear hR hL hv1 hg1 hu1 hv2 hg2 e0 e1
            go_roundw
            case rel => exact ⟨Or.inr (Or.inr ⟨rfl, R.1⟩), R.2⟩
            case measure => simp [intOf]
          · go_wp2_with fail
            go_roundw
            case rel => exact ⟨Or.inr (Or.inr ⟨rfl, hR⟩), hL.2.2.2.2.2⟩
            case measure => simp [intOf]
      · obtain ⟨g, cg, rfl, hg1, hg2, hg3, _⟩ := own_cell hR.1 (by simp)
        obtain ⟨h, ch, rfl, hh1, hh2, hh3, _⟩ := own_cell hR.2.1 (by simp)
        have d4 : wr.cell? ⟨w.heap.size + 1 + 1, 0, none⟩ = some (.int .i64 0) := (hb5.cell (p := ⟨w.heap.size + 1 + 1, 0, none⟩) (by show w.heap.size + 1 + 1 < B; omega)).trans c4
        have d5 : wr.cell? ⟨w.heap.size + 1 + 1, 1, none⟩ = some (.int .i64 0) := (hb5.cell (p := ⟨w.heap.size + 1 + 1, 1, none⟩) (by show w.heap.size + 1 + 1 < B; omega)).trans c5
        have d6 : ∀ o, wr.frozen? ⟨w.heap.size + 1 + 1, o, none⟩ = false := fun o => (hb5.frozen (p := ⟨w.heap.size + 1 + 1, o, none⟩) (by show w.heap.size + 1 + 1 < B; omega)).trans (c6 o)
        have M1 := fun W : World => fun (hW : W = wr) => Lib.hid (show Calls Try.prog 57 #[.slice (some ⟨g, 0, none⟩) 4 cg] W fun e w' => e = .returned (.int .i64 (foK min [x1, x2, x3, x4] 4)) ∧ W = w' from slicesMin_any g 0 cg [x1, x2, x3, x4] W (by simp) (by simp) (by subst hW; intro j hj; rw [Nat.zero_add, hg3 j hj]; match j, hj with | 0, _ => rfl | 1, _ => rfl | 2, _ => rfl | 3, _ => rfl))
        have M2 := fun W : World => fun (hW : W = wr) => Lib.hid (show Calls Try.prog 58 #[.slice (some ⟨h, 0, none⟩) 4 ch] W fun e w' => e = .returned (.int .i64 (foK max [y1, y2, y3, y4] 4)) ∧ W = w' from slicesMax_any h 0 ch [y1, y2, y3, y4] W (by simp) (by simp) (by subst hW; intro j hj; rw [Nat.zero_add, hh3 j hj]; match j, hj with | 0, _ => rfl | 1, _ => rfl | 2, _ => rfl | 3, _ => rfl))
        have HBr : Below w.heap.size w wr := HB4.trans (hb5.mono (by omega))
        clear hg3 hh3 hR d0 d1 d2 d3 hb5 HB4
        go_wp2_with (first | (go_at_call 57; (with_reducible refine (M1 _ rfl).out.mono ?_); rintro e w' ⟨rfl, rfl⟩) | (go_at_call 58; (with_reducible refine (M2 _ rfl).out.mono ?_); rintro e w' ⟨rfl, rfl⟩))
        refine bodyPost_ret (v := _) (by simp [results, Try.results34, go_sem, *]) rfl ⟨rfl, ?_⟩
        repeat' first | (with_reducible first | apply zRf | assumption | apply zDn | apply zDr | apply zAl | apply zSt | refine zVi (by assumption) ?_ ?_) | go_size
end Go.Proofs.Ythifeabcobgbmaa
