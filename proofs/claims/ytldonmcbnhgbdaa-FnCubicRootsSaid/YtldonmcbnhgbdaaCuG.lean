/- FactorOut: the program. -/
import Derived.Test.YtldonmcbnhgbdaaCuF
import Derived.Test.YtldonmcbnhgbdaaDrawn4
namespace Go.Proofs.Ytldonmcbnhgbdaa
open Go.RowKit
set_option linter.unusedVariables false
set_option maxHeartbeats 4000000
set_option maxRecDepth 20000
set_option linter.unusedSimpArgs false
attribute [local go_sem] openAt openUpon
theorem SlR.below {W W2 : World} {B : Nat} {v : Value} {l : List Fr2} (h : SlR W B v l) (hW : Below W.heap.size W W2) : SlR W2 B v l :=
  h.imp id fun ⟨g, c, h1, h2, h3, h4, hr⟩ => ⟨g, c, h1, h2, h3, h4, Nat.lt_of_lt_of_le hr.1 hW.size, fun j hj => by
    obtain ⟨e1, e2, e3, e4⟩ := hr.2 j hj
    have hbk := hW.block g hr.1
    exact ⟨(World.cell?_of_block (a := ⟨g, j * 2, none⟩) hbk).trans e1, (World.cell?_of_block (a := ⟨g, j * 2 + 1, none⟩) hbk).trans e2, (World.frozen?_of_block (a := ⟨g, j * 2, none⟩) hbk).trans e3, (World.frozen?_of_block (a := ⟨g, j * 2 + 1, none⟩) hbk).trans e4⟩⟩
def openF (l : List Fr2) : St where
  ok v W := SlR W 0 v l
  keep v W W2 h hb := h.below hb
theorem openF_ok {l : List Fr2} {v : Value} {W : World} (h : (openF l).ok v W) : SlR W 0 v l := h
theorem SlR.mono {W : World} {B B2 : Nat} {v : Value} {l : List Fr2} (h : SlR W B v l) (hB : B2 ≤ B) : SlR W B2 v l :=
  h.imp id fun ⟨g, c, h1, h2, h3, h4, hr⟩ => ⟨g, c, h1, h2, h3, Nat.le_trans hB h4, hr⟩
theorem open_F {P : Program} {f : FuncId} {args : Array Value} {W : World} {l : List Fr2} (h : Calls P f args W fun r w' => ∃ v B, r = .returned v ∧ SlR w' B v l ∧ W.heap.size ≤ B ∧ Below W.heap.size W w') : Calls P f args W fun e w' => ∃ v, e = .returned v ∧ (openF l).ok v w' ∧ Below W.heap.size W w' :=
  h.mono fun e w' ⟨v, B, h1, h2, h3, h4⟩ => ⟨v, h1, h2.mono (Nat.zero_le _), h4⟩
theorem FactorOut_any (a b c d n e : Int) (w : World) : Calls Try.prog 18 #[.agg #[.int .i64 a, .int .i64 b, .int .i64 c, .int .i64 d], .agg #[.int .i64 n, .int .i64 e]] w fun r w' => r = .returned (foT (foV a b c d n e)) ∧ Below w.heap.size w w' := by
  have T1 := fun W : World => Lib.hid (isCubic_any a b c d W)
  have T2 := fun W : World => Lib.hid (isFraction_any n e W)
  have hnot : ∀ (x : Bool) (w : World), (Op.unary .not (.bool x)).run Try.prog w = .ok (.bool (!x)) w := fun _ _ => rfl
  cases h1 : cuB a b c d
  · rw [show foV a b c d n e = ((0, 0), (0, false)) by simp [foV, foB, h1]]
    rw [h1] at T1
    have T3 := fun (v : World) => (trivial : True)
    clear h1
    unfold foT
    have tok1 : True := trivial
    have tok2 : True := trivial
    have tok3 : True := trivial
    have tok4 : True := trivial
    go_enter Try.func18, Try.ntmps18
    go_wp2_with fail
    refine wp_drawn' (n := 14) (by kernel_rfl) (by kernel_rfl) (by kernel_rfl) ?_
    apply Exists.intro
    refine ⟨?_, ?_⟩
    · intro W hW
      try (have kx_w_0_0 := fun x => xcell hW (w.heap.size) (by go_size) x 0; simp [go_sem, *] at kx_w_0_0)
      try (have kx_w_0_1 := fun x => xcell hW (w.heap.size) (by go_size) x 1; simp [go_sem, *] at kx_w_0_1)
      try (have kx_w_0_2 := fun x => xcell hW (w.heap.size) (by go_size) x 2; simp [go_sem, *] at kx_w_0_2)
      try (have kx_w_0_3 := fun x => xcell hW (w.heap.size) (by go_size) x 3; simp [go_sem, *] at kx_w_0_3)
      try (have kx_w_1_0 := fun x => xcell hW (w.heap.size + 1) (by go_size) x 0; simp [go_sem, *] at kx_w_1_0)
      try (have kx_w_1_1 := fun x => xcell hW (w.heap.size + 1) (by go_size) x 1; simp [go_sem, *] at kx_w_1_1)
      simp only [List.take_succ_cons, List.take_zero]
      repeat (go_big_quiet_step ((first | (go_at_call 25; (with_reducible exact draw_of _ ((T1 _).out))) | (go_at_call 40; (with_reducible exact draw_of _ ((T2 _).out))))))
      exact wpQuiet_nil rfl
    intro w1 hb1
    simp only [List.drop_succ_cons, List.drop_zero, Act.put, List.setIfInBounds_toArray, List.set_cons_succ, List.set_cons_zero]
    have hz1 := hb1.size
    (try simp only [World.size_alloc, World.size_setCell, World.size_drew, World.size_drewN'] at hz1)
    (try (have kq := cellAt hb1 (w.heap.size) (by go_size); have k1_w_0_0 := kq 0; have k1_w_0_1 := kq 1; have k1_w_0_2 := kq 2; have k1_w_0_3 := kq 3; clear kq; have f1_w_0 := frozAt hb1 (w.heap.size) (by go_size); simp [go_sem, *] at k1_w_0_0 k1_w_0_1 k1_w_0_2 k1_w_0_3 f1_w_0))
    (try have l1_w_0 : w.heap.size < w1.heap.size := by omega)
    (try (have kq := cellAt hb1 (w.heap.size + 1) (by go_size); have k1_w_1_0 := kq 0; have k1_w_1_1 := kq 1; clear kq; have f1_w_1 := frozAt hb1 (w.heap.size + 1) (by go_size); simp [go_sem, *] at k1_w_1_0 k1_w_1_1 f1_w_1))
    (try have l1_w_1 : w.heap.size + 1 < w1.heap.size := by omega)
    go_wp2_with fail
    (try simp only [Exit.inBlock, Exit.then]); refine bodyPost_ret (results_tmp4 rfl _ _ _) rfl ?_
    refine ⟨rfl, ?_⟩
    repeat' first | (with_reducible first | apply zRf | assumption | apply zDn | apply zDr | apply zAl | apply zSt | refine zVi (by assumption) ?_ ?_) | go_size
  · rw [h1] at T1
    obtain ⟨ha0, ha, hb, hc, hd⟩ := cuB_bd h1
    cases h2 : frB n e
    · rw [show foV a b c d n e = ((0, 0), (0, false)) by simp [foV, foB, h2]]
      rw [h2] at T2
      clear h1 h2
      unfold foT
      have tok1 : True := trivial
      have tok2 : True := trivial
      have tok3 : True := trivial
      have tok4 : True := trivial
      go_enter Try.func18, Try.ntmps18
      go_wp2_with fail
      refine wp_drawn' (n := 14) (by kernel_rfl) (by kernel_rfl) (by kernel_rfl) ?_
      apply Exists.intro
      refine ⟨?_, ?_⟩
      · intro W hW
        try (have kx_w_0_0 := fun x => xcell hW (w.heap.size) (by go_size) x 0; simp [go_sem, *] at kx_w_0_0)
        try (have kx_w_0_1 := fun x => xcell hW (w.heap.size) (by go_size) x 1; simp [go_sem, *] at kx_w_0_1)
        try (have kx_w_0_2 := fun x => xcell hW (w.heap.size) (by go_size) x 2; simp [go_sem, *] at kx_w_0_2)
        try (have kx_w_0_3 := fun x => xcell hW (w.heap.size) (by go_size) x 3; simp [go_sem, *] at kx_w_0_3)
        try (have kx_w_1_0 := fun x => xcell hW (w.heap.size + 1) (by go_size) x 0; simp [go_sem, *] at kx_w_1_0)
        try (have kx_w_1_1 := fun x => xcell hW (w.heap.size + 1) (by go_size) x 1; simp [go_sem, *] at kx_w_1_1)
        simp only [List.take_succ_cons, List.take_zero]
        repeat (go_big_quiet_step ((first | (go_at_call 25; (with_reducible exact draw_of _ ((T1 _).out))) | (go_at_call 40; (with_reducible exact draw_of _ ((T2 _).out))))))
        exact wpQuiet_nil rfl
      intro w1 hb1
      simp only [List.drop_succ_cons, List.drop_zero, Act.put, List.setIfInBounds_toArray, List.set_cons_succ, List.set_cons_zero]
      have hz1 := hb1.size
      (try simp only [World.size_alloc, World.size_setCell, World.size_drew, World.size_drewN'] at hz1)
      (try (have kq := cellAt hb1 (w.heap.size) (by go_size); have k1_w_0_0 := kq 0; have k1_w_0_1 := kq 1; have k1_w_0_2 := kq 2; have k1_w_0_3 := kq 3; clear kq; have f1_w_0 := frozAt hb1 (w.heap.size) (by go_size); simp [go_sem, *] at k1_w_0_0 k1_w_0_1 k1_w_0_2 k1_w_0_3 f1_w_0))
      (try have l1_w_0 : w.heap.size < w1.heap.size := by omega)
      (try (have kq := cellAt hb1 (w.heap.size + 1) (by go_size); have k1_w_1_0 := kq 0; have k1_w_1_1 := kq 1; clear kq; have f1_w_1 := frozAt hb1 (w.heap.size + 1) (by go_size); simp [go_sem, *] at k1_w_1_0 k1_w_1_1 f1_w_1))
      (try have l1_w_1 : w.heap.size + 1 < w1.heap.size := by omega)
      go_wp2_with fail
      (try simp only [Exit.inBlock, Exit.then]); refine bodyPost_ret (results_tmp4 rfl _ _ _) rfl ?_
      refine ⟨rfl, ?_⟩
      repeat' first | (with_reducible first | apply zRf | assumption | apply zDn | apply zDr | apply zAl | apply zSt | refine zVi (by assumption) ?_ ?_) | go_size
    · rw [h2] at T2
      have T3 := fun W : World => Lib.hid (rationalRoots_any a b c d W h1)
      have hfb := frB_bd h2
      have hgc : Int.gcd n e = 1 := by simp [frB] at h2; have := h2.2; unfold gcdI at this; omega
      have hmm : (n, e) ∈ spL a b c d ↔ cuV a b c d n e = 0 := by
        rw [spL_mem ha0]; exact ⟨fun h => h.zero, fun h => ⟨hfb.1, hgc, h⟩⟩
      have hfo : (n, e) ∈ spL a b c d → (-1000 ≤ n ∧ n ≤ 1000) ∧ e ≤ 1000 := fun h => by
        have := rt_fx ha hb hc hd ha0 ((spL_mem ha0).1 h); simp only at this; omega
      by_cases hm : (n, e) ∈ spL a b c d
      · have hz := hmm.1 hm
        obtain ⟨hnb, heb⟩ := hfo hm
        have h3 : absI n ≤ 1000 := by unfold absI; omega
        rw [show foV a b c d n e = ((foA a e, foC b n e (foA a e)), (foC c n e (foC b n e (foA a e)), true)) by simp [foV, foB, h1, h2, h3, heb, hz]]
        have TC := fun (v : Value) (B : Nat) (W : World) (h : SlR W B v (spL a b c d)) => Lib.hid (containsF_any v B (spL a b c d) n e W h)
        rw [show decide ((n, e) ∈ spL a b c d) = true by simpa using hm] at TC
        have g1 := tdiv_bd a e
        have m1 := mul_bd (a := a.tdiv e) (b := n) (A := 1000) (B := 1000) (by omega) (by omega)
        have g2 := tdiv_bd (b + a.tdiv e * n) e
        have m2 := mul_bd (a := (b + a.tdiv e * n).tdiv e) (b := n) (A := 1001000) (B := 1000) (by omega) (by omega)
        have g3 := tdiv_bd (c + (b + a.tdiv e * n).tdiv e * n) e
        have he0 : e ≠ 0 := by omega
        have he1 : e ≠ -1 := by omega
        unfold foT foC foA
        dsimp only
        rw [Int.mul_comm n (a.tdiv e), Int.mul_comm n ((b + a.tdiv e * n).tdiv e)]
        clear h1 h2 hz hmm hfo hm h3 ha0 hgc
        generalize spL a b c d = l at *
        have tok1 : True := trivial
        have tok2 : True := trivial
        have tok3 : True := trivial
        have tok4 : True := trivial
        go_enter Try.func18, Try.ntmps18
        go_wp2_with fail
        refine wp_open (n := 14) (by kernel_rfl) (by kernel_rfl) (by kernel_rfl) (by kernel_rfl) ?_
        simp only [List.take_succ_cons, List.take_zero]
        apply wpS_quiet
        · intro γ W hW hp
          have hs := hW.size
          (try simp only [World.size_alloc, World.size_setCell, World.size_drew, World.size_drewN'] at hs)
          try (have kx_w_0_0 := fun x : Over W => (cellAt x.lies (w.heap.size) (by omega) 0).trans (cellAt hW (w.heap.size) (by go_size) 0); simp [go_sem, *] at kx_w_0_0)
          try (have kx_w_0_1 := fun x : Over W => (cellAt x.lies (w.heap.size) (by omega) 1).trans (cellAt hW (w.heap.size) (by go_size) 1); simp [go_sem, *] at kx_w_0_1)
          try (have kx_w_0_2 := fun x : Over W => (cellAt x.lies (w.heap.size) (by omega) 2).trans (cellAt hW (w.heap.size) (by go_size) 2); simp [go_sem, *] at kx_w_0_2)
          try (have kx_w_0_3 := fun x : Over W => (cellAt x.lies (w.heap.size) (by omega) 3).trans (cellAt hW (w.heap.size) (by go_size) 3); simp [go_sem, *] at kx_w_0_3)
          try (have kx_w_1_0 := fun x : Over W => (cellAt x.lies (w.heap.size + 1) (by omega) 0).trans (cellAt hW (w.heap.size + 1) (by go_size) 0); simp [go_sem, *] at kx_w_1_0)
          try (have kx_w_1_1 := fun x : Over W => (cellAt x.lies (w.heap.size + 1) (by omega) 1).trans (cellAt hW (w.heap.size + 1) (by go_size) 1); simp [go_sem, *] at kx_w_1_1)
          clear hW hp
          refine ⟨rfl, ?_⟩
          go_big_quiet_op
          first | exact rfl
        · exact locS_const _
        try simp only [Act.put, List.setIfInBounds_toArray, List.set_cons_succ, List.set_cons_zero, Nat.reduceAdd]
        apply wpS_quiet
        · intro γ W hW hp
          refine ⟨rfl, ?_⟩
          go_big_quiet_op
          apply Exists.intro
          refine ⟨fun x => ?_, ?_⟩
          · (first | (go_at_call 25; (with_reducible exact draw_of _ ((T1 _).out))) | (go_at_call 40; (with_reducible exact draw_of _ ((T2 _).out))) | (go_at_call 41; (with_reducible exact draw_of _ ((TC _ _ _ ((openF_ok hp_10).below x.lies)).out))))
          exact rfl
        · exact locS_const _
        try simp only [Act.put, List.setIfInBounds_toArray, List.set_cons_succ, List.set_cons_zero, Nat.reduceAdd]
        apply wpS_quiet
        · intro γ W hW hp
          refine ⟨rfl, ?_⟩
          go_big_quiet_op
          first | exact rfl
        · exact locS_const _
        try simp only [Act.put, List.setIfInBounds_toArray, List.set_cons_succ, List.set_cons_zero, Nat.reduceAdd]
        apply wpS_quiet
        · intro γ W hW hp
          refine ⟨rfl, ?_⟩
          go_big_quiet_op
          first | exact rfl
        · exact locS_const _
        try simp only [Act.put, List.setIfInBounds_toArray, List.set_cons_succ, List.set_cons_zero, Nat.reduceAdd]
        apply wpS_quiet
        · intro γ W hW hp
          have hs := hW.size
          (try simp only [World.size_alloc, World.size_setCell, World.size_drew, World.size_drewN'] at hs)
          try (have kx_w_0_0 := fun x : Over W => (cellAt x.lies (w.heap.size) (by omega) 0).trans (cellAt hW (w.heap.size) (by go_size) 0); simp [go_sem, *] at kx_w_0_0)
          try (have kx_w_0_1 := fun x : Over W => (cellAt x.lies (w.heap.size) (by omega) 1).trans (cellAt hW (w.heap.size) (by go_size) 1); simp [go_sem, *] at kx_w_0_1)
          try (have kx_w_0_2 := fun x : Over W => (cellAt x.lies (w.heap.size) (by omega) 2).trans (cellAt hW (w.heap.size) (by go_size) 2); simp [go_sem, *] at kx_w_0_2)
          try (have kx_w_0_3 := fun x : Over W => (cellAt x.lies (w.heap.size) (by omega) 3).trans (cellAt hW (w.heap.size) (by go_size) 3); simp [go_sem, *] at kx_w_0_3)
          try (have kx_w_1_0 := fun x : Over W => (cellAt x.lies (w.heap.size + 1) (by omega) 0).trans (cellAt hW (w.heap.size + 1) (by go_size) 0); simp [go_sem, *] at kx_w_1_0)
          try (have kx_w_1_1 := fun x : Over W => (cellAt x.lies (w.heap.size + 1) (by omega) 1).trans (cellAt hW (w.heap.size + 1) (by go_size) 1); simp [go_sem, *] at kx_w_1_1)
          clear hW hp
          refine ⟨rfl, ?_⟩
          go_big_quiet_op
          first | exact rfl
        · exact locS_const _
        try simp only [Act.put, List.setIfInBounds_toArray, List.set_cons_succ, List.set_cons_zero, Nat.reduceAdd]
        apply wpS_quiet
        · intro γ W hW hp
          refine ⟨rfl, ?_⟩
          go_big_quiet_op
          apply Exists.intro
          refine ⟨fun x => ?_, ?_⟩
          · (first | (go_at_call 25; (with_reducible exact draw_of _ ((T1 _).out))) | (go_at_call 40; (with_reducible exact draw_of _ ((T2 _).out))) | (go_at_call 41; (with_reducible exact draw_of _ ((TC _ _ _ ((openF_ok hp_10).below x.lies)).out))))
          exact rfl
        · exact locS_const _
        try simp only [Act.put, List.setIfInBounds_toArray, List.set_cons_succ, List.set_cons_zero, Nat.reduceAdd]
        apply wpS_quiet
        · intro γ W hW hp
          refine ⟨rfl, ?_⟩
          go_big_quiet_op
          first | exact rfl
        · exact locS_const _
        try simp only [Act.put, List.setIfInBounds_toArray, List.set_cons_succ, List.set_cons_zero, Nat.reduceAdd]
        apply wpS_quiet
        · intro γ W hW hp
          refine ⟨rfl, ?_⟩
          go_big_quiet_op
          first | exact rfl
        · exact locS_const _
        try simp only [Act.put, List.setIfInBounds_toArray, List.set_cons_succ, List.set_cons_zero, Nat.reduceAdd]
        apply wpS_quiet
        · intro γ W hW hp
          refine ⟨rfl, ?_⟩
          go_big_quiet_op
          first | exact rfl
        · exact locS_const _
        try simp only [Act.put, List.setIfInBounds_toArray, List.set_cons_succ, List.set_cons_zero, Nat.reduceAdd]
        apply wpS_quiet
        · intro γ W hW hp
          have hs := hW.size
          (try simp only [World.size_alloc, World.size_setCell, World.size_drew, World.size_drewN'] at hs)
          try (have kx_w_0_0 := fun x : Over W => (cellAt x.lies (w.heap.size) (by omega) 0).trans (cellAt hW (w.heap.size) (by go_size) 0); simp [go_sem, *] at kx_w_0_0)
          try (have kx_w_0_1 := fun x : Over W => (cellAt x.lies (w.heap.size) (by omega) 1).trans (cellAt hW (w.heap.size) (by go_size) 1); simp [go_sem, *] at kx_w_0_1)
          try (have kx_w_0_2 := fun x : Over W => (cellAt x.lies (w.heap.size) (by omega) 2).trans (cellAt hW (w.heap.size) (by go_size) 2); simp [go_sem, *] at kx_w_0_2)
          try (have kx_w_0_3 := fun x : Over W => (cellAt x.lies (w.heap.size) (by omega) 3).trans (cellAt hW (w.heap.size) (by go_size) 3); simp [go_sem, *] at kx_w_0_3)
          try (have kx_w_1_0 := fun x : Over W => (cellAt x.lies (w.heap.size + 1) (by omega) 0).trans (cellAt hW (w.heap.size + 1) (by go_size) 0); simp [go_sem, *] at kx_w_1_0)
          try (have kx_w_1_1 := fun x : Over W => (cellAt x.lies (w.heap.size + 1) (by omega) 1).trans (cellAt hW (w.heap.size + 1) (by go_size) 1); simp [go_sem, *] at kx_w_1_1)
          clear hW hp
          refine ⟨rfl, ?_⟩
          go_big_quiet_op
          first | exact rfl
        · exact locS_const _
        try simp only [Act.put, List.setIfInBounds_toArray, List.set_cons_succ, List.set_cons_zero, Nat.reduceAdd]
        apply wpS_open (openF l)
        · intro γ W hW hp
          have kc_w_0 := cellAt hW (w.heap.size) (by go_size)
          try simp [go_sem, *] at kc_w_0
          have kc_w_1 := cellAt hW (w.heap.size + 1) (by go_size)
          try simp [go_sem, *] at kc_w_1
          refine ⟨rfl, ?_⟩
          go_simp
          refine plainNew rfl ?_
          exact open_F (T3 _).out
        try simp only [Act.put, List.setIfInBounds_toArray, List.set_cons_succ, List.set_cons_zero, Nat.reduceAdd]
        apply wpS_quiet
        · intro γ W hW hp
          have hs := hW.size
          (try simp only [World.size_alloc, World.size_setCell, World.size_drew, World.size_drewN'] at hs)
          try (have kx_w_0_0 := fun x : Over W => (cellAt x.lies (w.heap.size) (by omega) 0).trans (cellAt hW (w.heap.size) (by go_size) 0); simp [go_sem, *] at kx_w_0_0)
          try (have kx_w_0_1 := fun x : Over W => (cellAt x.lies (w.heap.size) (by omega) 1).trans (cellAt hW (w.heap.size) (by go_size) 1); simp [go_sem, *] at kx_w_0_1)
          try (have kx_w_0_2 := fun x : Over W => (cellAt x.lies (w.heap.size) (by omega) 2).trans (cellAt hW (w.heap.size) (by go_size) 2); simp [go_sem, *] at kx_w_0_2)
          try (have kx_w_0_3 := fun x : Over W => (cellAt x.lies (w.heap.size) (by omega) 3).trans (cellAt hW (w.heap.size) (by go_size) 3); simp [go_sem, *] at kx_w_0_3)
          try (have kx_w_1_0 := fun x : Over W => (cellAt x.lies (w.heap.size + 1) (by omega) 0).trans (cellAt hW (w.heap.size + 1) (by go_size) 0); simp [go_sem, *] at kx_w_1_0)
          try (have kx_w_1_1 := fun x : Over W => (cellAt x.lies (w.heap.size + 1) (by omega) 1).trans (cellAt hW (w.heap.size + 1) (by go_size) 1); simp [go_sem, *] at kx_w_1_1)
          clear hW hp
          refine ⟨rfl, ?_⟩
          go_big_quiet_op
          first | exact rfl
        · exact locS_const _
        try simp only [Act.put, List.setIfInBounds_toArray, List.set_cons_succ, List.set_cons_zero, Nat.reduceAdd]
        apply wpS_quiet
        · intro γ W hW hp
          have hp_10 := hp _ (List.mem_append_right _ (List.mem_singleton.2 rfl)) (by kernel_rfl)
          dsimp only at hp_10
          refine ⟨rfl, ?_⟩
          go_big_quiet_op
          apply Exists.intro
          refine ⟨fun x => ?_, ?_⟩
          · (first | (go_at_call 25; (with_reducible exact draw_of _ ((T1 _).out))) | (go_at_call 40; (with_reducible exact draw_of _ ((T2 _).out))) | (go_at_call 41; (with_reducible exact draw_of _ ((TC _ _ _ ((openF_ok hp_10).below x.lies)).out))))
          exact rfl
        · intro γ k g hk
          have h_10 : updV γ k g 10 = γ 10 := updV_other γ g (fun e => by subst e; exact absurd hk (by rw [show reachB .any _ 100 12 10 = true from by kernel_rfl]; simp))
          first | rfl | simp only [h_10]
        try simp only [Act.put, List.setIfInBounds_toArray, List.set_cons_succ, List.set_cons_zero, Nat.reduceAdd]
        apply wpS_quiet
        · intro γ W hW hp
          refine ⟨rfl, ?_⟩
          go_big_quiet_op
          first | exact rfl
        · exact locS_const _
        try simp only [Act.put, List.setIfInBounds_toArray, List.set_cons_succ, List.set_cons_zero, Nat.reduceAdd]
        apply wpS_end
        intro γ w1 hb1 hG1 hA1
        have hg1_10 := hG1 _ (List.mem_append_right _ (List.mem_singleton.2 rfl))
        dsimp only at hg1_10
        clear hG1 hA1
        simp only [List.drop_succ_cons, List.drop_zero]
        have hz1 := hb1.size
        (try simp only [World.size_alloc, World.size_setCell, World.size_drew, World.size_drewN'] at hz1)
        (try (have kq := cellAt hb1 (w.heap.size) (by go_size); have k1_w_0_0 := kq 0; have k1_w_0_1 := kq 1; have k1_w_0_2 := kq 2; have k1_w_0_3 := kq 3; clear kq; have f1_w_0 := frozAt hb1 (w.heap.size) (by go_size); simp [go_sem, *] at k1_w_0_0 k1_w_0_1 k1_w_0_2 k1_w_0_3 f1_w_0))
        (try have l1_w_0 : w.heap.size < w1.heap.size := by omega)
        (try (have kq := cellAt hb1 (w.heap.size + 1) (by go_size); have k1_w_1_0 := kq 0; have k1_w_1_1 := kq 1; clear kq; have f1_w_1 := frozAt hb1 (w.heap.size + 1) (by go_size); simp [go_sem, *] at k1_w_1_0 k1_w_1_1 f1_w_1))
        (try have l1_w_1 : w.heap.size + 1 < w1.heap.size := by omega)
        go_wp2_with fail
        (try simp only [Exit.inBlock, Exit.then]); refine bodyPost_ret (results_tmp4 rfl _ _ _) rfl ?_
        refine ⟨rfl, ?_⟩
        repeat' first | (with_reducible first | apply zRf | assumption | apply zDn | apply zDr | apply zAl | apply zSt | refine zVi (by assumption) ?_ ?_) | go_size
      · have hz : ¬ cuV a b c d n e = 0 := fun q => hm (hmm.2 q)
        rw [show foV a b c d n e = ((0, 0), (0, false)) by simp [foV, foB, hz]]
        have TC := fun (v : Value) (B : Nat) (W : World) (h : SlR W B v (spL a b c d)) => Lib.hid (containsF_any v B (spL a b c d) n e W h)
        rw [show decide ((n, e) ∈ spL a b c d) = false by simpa using hm] at TC
        unfold foT
        clear h1 h2 hz hmm hfo hm ha0 hgc
        generalize spL a b c d = l at *
        have tok1 : True := trivial
        have tok2 : True := trivial
        have tok3 : True := trivial
        have tok4 : True := trivial
        go_enter Try.func18, Try.ntmps18
        go_wp2_with fail
        refine wp_open (n := 14) (by kernel_rfl) (by kernel_rfl) (by kernel_rfl) (by kernel_rfl) ?_
        simp only [List.take_succ_cons, List.take_zero]
        apply wpS_quiet
        · intro γ W hW hp
          have hs := hW.size
          (try simp only [World.size_alloc, World.size_setCell, World.size_drew, World.size_drewN'] at hs)
          try (have kx_w_0_0 := fun x : Over W => (cellAt x.lies (w.heap.size) (by omega) 0).trans (cellAt hW (w.heap.size) (by go_size) 0); simp [go_sem, *] at kx_w_0_0)
          try (have kx_w_0_1 := fun x : Over W => (cellAt x.lies (w.heap.size) (by omega) 1).trans (cellAt hW (w.heap.size) (by go_size) 1); simp [go_sem, *] at kx_w_0_1)
          try (have kx_w_0_2 := fun x : Over W => (cellAt x.lies (w.heap.size) (by omega) 2).trans (cellAt hW (w.heap.size) (by go_size) 2); simp [go_sem, *] at kx_w_0_2)
          try (have kx_w_0_3 := fun x : Over W => (cellAt x.lies (w.heap.size) (by omega) 3).trans (cellAt hW (w.heap.size) (by go_size) 3); simp [go_sem, *] at kx_w_0_3)
          try (have kx_w_1_0 := fun x : Over W => (cellAt x.lies (w.heap.size + 1) (by omega) 0).trans (cellAt hW (w.heap.size + 1) (by go_size) 0); simp [go_sem, *] at kx_w_1_0)
          try (have kx_w_1_1 := fun x : Over W => (cellAt x.lies (w.heap.size + 1) (by omega) 1).trans (cellAt hW (w.heap.size + 1) (by go_size) 1); simp [go_sem, *] at kx_w_1_1)
          clear hW hp
          refine ⟨rfl, ?_⟩
          go_big_quiet_op
          first | exact rfl
        · exact locS_const _
        try simp only [Act.put, List.setIfInBounds_toArray, List.set_cons_succ, List.set_cons_zero, Nat.reduceAdd]
        apply wpS_quiet
        · intro γ W hW hp
          refine ⟨rfl, ?_⟩
          go_big_quiet_op
          apply Exists.intro
          refine ⟨fun x => ?_, ?_⟩
          · (first | (go_at_call 25; (with_reducible exact draw_of _ ((T1 _).out))) | (go_at_call 40; (with_reducible exact draw_of _ ((T2 _).out))) | (go_at_call 41; (with_reducible exact draw_of _ ((TC _ _ _ ((openF_ok hp_10).below x.lies)).out))))
          exact rfl
        · exact locS_const _
        try simp only [Act.put, List.setIfInBounds_toArray, List.set_cons_succ, List.set_cons_zero, Nat.reduceAdd]
        apply wpS_quiet
        · intro γ W hW hp
          refine ⟨rfl, ?_⟩
          go_big_quiet_op
          first | exact rfl
        · exact locS_const _
        try simp only [Act.put, List.setIfInBounds_toArray, List.set_cons_succ, List.set_cons_zero, Nat.reduceAdd]
        apply wpS_quiet
        · intro γ W hW hp
          refine ⟨rfl, ?_⟩
          go_big_quiet_op
          first | exact rfl
        · exact locS_const _
        try simp only [Act.put, List.setIfInBounds_toArray, List.set_cons_succ, List.set_cons_zero, Nat.reduceAdd]
        apply wpS_quiet
        · intro γ W hW hp
          have hs := hW.size
          (try simp only [World.size_alloc, World.size_setCell, World.size_drew, World.size_drewN'] at hs)
          try (have kx_w_0_0 := fun x : Over W => (cellAt x.lies (w.heap.size) (by omega) 0).trans (cellAt hW (w.heap.size) (by go_size) 0); simp [go_sem, *] at kx_w_0_0)
          try (have kx_w_0_1 := fun x : Over W => (cellAt x.lies (w.heap.size) (by omega) 1).trans (cellAt hW (w.heap.size) (by go_size) 1); simp [go_sem, *] at kx_w_0_1)
          try (have kx_w_0_2 := fun x : Over W => (cellAt x.lies (w.heap.size) (by omega) 2).trans (cellAt hW (w.heap.size) (by go_size) 2); simp [go_sem, *] at kx_w_0_2)
          try (have kx_w_0_3 := fun x : Over W => (cellAt x.lies (w.heap.size) (by omega) 3).trans (cellAt hW (w.heap.size) (by go_size) 3); simp [go_sem, *] at kx_w_0_3)
          try (have kx_w_1_0 := fun x : Over W => (cellAt x.lies (w.heap.size + 1) (by omega) 0).trans (cellAt hW (w.heap.size + 1) (by go_size) 0); simp [go_sem, *] at kx_w_1_0)
          try (have kx_w_1_1 := fun x : Over W => (cellAt x.lies (w.heap.size + 1) (by omega) 1).trans (cellAt hW (w.heap.size + 1) (by go_size) 1); simp [go_sem, *] at kx_w_1_1)
          clear hW hp
          refine ⟨rfl, ?_⟩
          go_big_quiet_op
          first | exact rfl
        · exact locS_const _
        try simp only [Act.put, List.setIfInBounds_toArray, List.set_cons_succ, List.set_cons_zero, Nat.reduceAdd]
        apply wpS_quiet
        · intro γ W hW hp
          refine ⟨rfl, ?_⟩
          go_big_quiet_op
          apply Exists.intro
          refine ⟨fun x => ?_, ?_⟩
          · (first | (go_at_call 25; (with_reducible exact draw_of _ ((T1 _).out))) | (go_at_call 40; (with_reducible exact draw_of _ ((T2 _).out))) | (go_at_call 41; (with_reducible exact draw_of _ ((TC _ _ _ ((openF_ok hp_10).below x.lies)).out))))
          exact rfl
        · exact locS_const _
        try simp only [Act.put, List.setIfInBounds_toArray, List.set_cons_succ, List.set_cons_zero, Nat.reduceAdd]
        apply wpS_quiet
        · intro γ W hW hp
          refine ⟨rfl, ?_⟩
          go_big_quiet_op
          first | exact rfl
        · exact locS_const _
        try simp only [Act.put, List.setIfInBounds_toArray, List.set_cons_succ, List.set_cons_zero, Nat.reduceAdd]
        apply wpS_quiet
        · intro γ W hW hp
          refine ⟨rfl, ?_⟩
          go_big_quiet_op
          first | exact rfl
        · exact locS_const _
        try simp only [Act.put, List.setIfInBounds_toArray, List.set_cons_succ, List.set_cons_zero, Nat.reduceAdd]
        apply wpS_quiet
        · intro γ W hW hp
          refine ⟨rfl, ?_⟩
          go_big_quiet_op
          first | exact rfl
        · exact locS_const _
        try simp only [Act.put, List.setIfInBounds_toArray, List.set_cons_succ, List.set_cons_zero, Nat.reduceAdd]
        apply wpS_quiet
        · intro γ W hW hp
          have hs := hW.size
          (try simp only [World.size_alloc, World.size_setCell, World.size_drew, World.size_drewN'] at hs)
          try (have kx_w_0_0 := fun x : Over W => (cellAt x.lies (w.heap.size) (by omega) 0).trans (cellAt hW (w.heap.size) (by go_size) 0); simp [go_sem, *] at kx_w_0_0)
          try (have kx_w_0_1 := fun x : Over W => (cellAt x.lies (w.heap.size) (by omega) 1).trans (cellAt hW (w.heap.size) (by go_size) 1); simp [go_sem, *] at kx_w_0_1)
          try (have kx_w_0_2 := fun x : Over W => (cellAt x.lies (w.heap.size) (by omega) 2).trans (cellAt hW (w.heap.size) (by go_size) 2); simp [go_sem, *] at kx_w_0_2)
          try (have kx_w_0_3 := fun x : Over W => (cellAt x.lies (w.heap.size) (by omega) 3).trans (cellAt hW (w.heap.size) (by go_size) 3); simp [go_sem, *] at kx_w_0_3)
          try (have kx_w_1_0 := fun x : Over W => (cellAt x.lies (w.heap.size + 1) (by omega) 0).trans (cellAt hW (w.heap.size + 1) (by go_size) 0); simp [go_sem, *] at kx_w_1_0)
          try (have kx_w_1_1 := fun x : Over W => (cellAt x.lies (w.heap.size + 1) (by omega) 1).trans (cellAt hW (w.heap.size + 1) (by go_size) 1); simp [go_sem, *] at kx_w_1_1)
          clear hW hp
          refine ⟨rfl, ?_⟩
          go_big_quiet_op
          first | exact rfl
        · exact locS_const _
        try simp only [Act.put, List.setIfInBounds_toArray, List.set_cons_succ, List.set_cons_zero, Nat.reduceAdd]
        apply wpS_open (openF l)
        · intro γ W hW hp
          have kc_w_0 := cellAt hW (w.heap.size) (by go_size)
          try simp [go_sem, *] at kc_w_0
          have kc_w_1 := cellAt hW (w.heap.size + 1) (by go_size)
          try simp [go_sem, *] at kc_w_1
          refine ⟨rfl, ?_⟩
          go_simp
          refine plainNew rfl ?_
          exact open_F (T3 _).out
        try simp only [Act.put, List.setIfInBounds_toArray, List.set_cons_succ, List.set_cons_zero, Nat.reduceAdd]
        apply wpS_quiet
        · intro γ W hW hp
          have hs := hW.size
          (try simp only [World.size_alloc, World.size_setCell, World.size_drew, World.size_drewN'] at hs)
          try (have kx_w_0_0 := fun x : Over W => (cellAt x.lies (w.heap.size) (by omega) 0).trans (cellAt hW (w.heap.size) (by go_size) 0); simp [go_sem, *] at kx_w_0_0)
          try (have kx_w_0_1 := fun x : Over W => (cellAt x.lies (w.heap.size) (by omega) 1).trans (cellAt hW (w.heap.size) (by go_size) 1); simp [go_sem, *] at kx_w_0_1)
          try (have kx_w_0_2 := fun x : Over W => (cellAt x.lies (w.heap.size) (by omega) 2).trans (cellAt hW (w.heap.size) (by go_size) 2); simp [go_sem, *] at kx_w_0_2)
          try (have kx_w_0_3 := fun x : Over W => (cellAt x.lies (w.heap.size) (by omega) 3).trans (cellAt hW (w.heap.size) (by go_size) 3); simp [go_sem, *] at kx_w_0_3)
          try (have kx_w_1_0 := fun x : Over W => (cellAt x.lies (w.heap.size + 1) (by omega) 0).trans (cellAt hW (w.heap.size + 1) (by go_size) 0); simp [go_sem, *] at kx_w_1_0)
          try (have kx_w_1_1 := fun x : Over W => (cellAt x.lies (w.heap.size + 1) (by omega) 1).trans (cellAt hW (w.heap.size + 1) (by go_size) 1); simp [go_sem, *] at kx_w_1_1)
          clear hW hp
          refine ⟨rfl, ?_⟩
          go_big_quiet_op
          first | exact rfl
        · exact locS_const _
        try simp only [Act.put, List.setIfInBounds_toArray, List.set_cons_succ, List.set_cons_zero, Nat.reduceAdd]
        apply wpS_quiet
        · intro γ W hW hp
          have hp_10 := hp _ (List.mem_append_right _ (List.mem_singleton.2 rfl)) (by kernel_rfl)
          dsimp only at hp_10
          refine ⟨rfl, ?_⟩
          go_big_quiet_op
          apply Exists.intro
          refine ⟨fun x => ?_, ?_⟩
          · (first | (go_at_call 25; (with_reducible exact draw_of _ ((T1 _).out))) | (go_at_call 40; (with_reducible exact draw_of _ ((T2 _).out))) | (go_at_call 41; (with_reducible exact draw_of _ ((TC _ _ _ ((openF_ok hp_10).below x.lies)).out))))
          exact rfl
        · intro γ k g hk
          have h_10 : updV γ k g 10 = γ 10 := updV_other γ g (fun e => by subst e; exact absurd hk (by rw [show reachB .any _ 100 12 10 = true from by kernel_rfl]; simp))
          first | rfl | simp only [h_10]
        try simp only [Act.put, List.setIfInBounds_toArray, List.set_cons_succ, List.set_cons_zero, Nat.reduceAdd]
        apply wpS_quiet
        · intro γ W hW hp
          refine ⟨rfl, ?_⟩
          go_big_quiet_op
          first | exact rfl
        · exact locS_const _
        try simp only [Act.put, List.setIfInBounds_toArray, List.set_cons_succ, List.set_cons_zero, Nat.reduceAdd]
        apply wpS_end
        intro γ w1 hb1 hG1 hA1
        have hg1_10 := hG1 _ (List.mem_append_right _ (List.mem_singleton.2 rfl))
        dsimp only at hg1_10
        clear hG1 hA1
        simp only [List.drop_succ_cons, List.drop_zero]
        have hz1 := hb1.size
        (try simp only [World.size_alloc, World.size_setCell, World.size_drew, World.size_drewN'] at hz1)
        (try (have kq := cellAt hb1 (w.heap.size) (by go_size); have k1_w_0_0 := kq 0; have k1_w_0_1 := kq 1; have k1_w_0_2 := kq 2; have k1_w_0_3 := kq 3; clear kq; have f1_w_0 := frozAt hb1 (w.heap.size) (by go_size); simp [go_sem, *] at k1_w_0_0 k1_w_0_1 k1_w_0_2 k1_w_0_3 f1_w_0))
        (try have l1_w_0 : w.heap.size < w1.heap.size := by omega)
        (try (have kq := cellAt hb1 (w.heap.size + 1) (by go_size); have k1_w_1_0 := kq 0; have k1_w_1_1 := kq 1; clear kq; have f1_w_1 := frozAt hb1 (w.heap.size + 1) (by go_size); simp [go_sem, *] at k1_w_1_0 k1_w_1_1 f1_w_1))
        (try have l1_w_1 : w.heap.size + 1 < w1.heap.size := by omega)
        go_wp2_with fail
        (try simp only [Exit.inBlock, Exit.then]); refine bodyPost_ret (results_tmp4 rfl _ _ _) rfl ?_
        refine ⟨rfl, ?_⟩
        repeat' first | (with_reducible first | apply zRf | assumption | apply zDn | apply zDr | apply zAl | apply zSt | refine zVi (by assumption) ?_ ?_) | go_size
end Go.Proofs.Ytldonmcbnhgbdaa
