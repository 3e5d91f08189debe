/- Lemmas and contracts of functions. No condition. -/
import Derived.Test.YtnkmgpmehkholaaGreatPq46
import Derived.Test.YtnkmgpmehkholaaGreatPq47
namespace Go.Proofs.YtnkmgpmehkholaaGreat
open Go.RowKit
set_option linter.unusedVariables false
set_option maxHeartbeats 4000000
set_option maxRecDepth 20000
set_option linter.unusedSimpArgs false
attribute [local go_sem] openAt openUpon
theorem spbest_any {A B x y e : Int} (v : Bool) (w : World) (gp : Nat) (hp : w.heap[gp]? = some (.cells #[.bool v] 59 (0, 0))) (h : pqB A B x y e = true) :
  Calls Tryz.prog 30 #[.pointer (some ⟨gp, 0, none⟩), .agg #[.int .i64 A, .int .i64 B], .agg #[.int .i64 x, .int .i64 y, .int .i64 e]] w fun r w' =>
   r = .returned (.agg #[.int .i64 (kpV (v && BK A B x e) (BL A B x e)), .int .i64 (kpV (v && BK A B x e) (BH A B x e))]) ∧ Cal 59 w w' gp (v && BK A B x e) := by
 have hc := cell_of_one hp
 have hf := free_of_one hp
 have hl : gp < w.heap.size := lt_of_block hp
 have HP := Lib.hid hp
 have hb := pq_bd h
 have T1 := fun W : World => Lib.hid (bestHeight_any A B x y e W hb.1 hb.2.1 hb.2.2.1 hb.2.2.2.1 hb.2.2.2.2)
 have E : (v && BK A B x e && validB (BL A B x e) (BH A B x e)) = (v && BK A B x e) := by
  cases hk : BK A B x e
  ·simp
  ·rw [BK_valid hk]; simp
 have T20 : ∀ W : World, W.heap[gp]? = some (.cells #[.bool (v && BK A B x e)] 59 (0, 0)) → Calls Tryz.prog 60 #[.pointer (some ⟨gp, 0, none⟩), .agg #[.int .i64 (BL A B x e), .int .i64 (BH A B x e)]] W fun r w' =>
   r = .returned (.agg #[.int .i64 (kpV (v && BK A B x e) (BL A B x e)), .int .i64 (kpV (v && BK A B x e) (BH A B x e))]) ∧ Cal 59 W w' gp (v && BK A B x e) := fun W hW => by
  have := spKeep_any (BL A B x e) (BH A B x e) (v && BK A B x e) W gp hW
  rwa [E] at this
 have T2 := fun (W : World) h => Lib.hid (T20 W h)
 clear T20
 rw [show bLo (dcV A B) (ptSt A B x e) (bestN (ptSt A B x e)) = BL A B x e from rfl, show bHi (dcV A B) (ptSt A B x e) (bestN (ptSt A B x e)) = BH A B x e from rfl, show beOk (dcV A B) (ptSt A B x e) = BK A B x e from rfl] at T1
 clear E hp h hb
 generalize BL A B x e = lo at *
 generalize BH A B x e = hi at *
 generalize BK A B x e = k at *
 generalize bestN (ptSt A B x e) = N at *
 cases v <;> cases k
 all_goals
  simp only [Bool.and_true, Bool.and_false] at T2 ⊢
  have tok1 := trivial
  have tok2 := trivial
  have tok3 := trivial
  go_enter Tryz.func30, Tryz.ntmps30
  go_wp2_with (first | (have _t := tok1; go_at_call 59; (with_reducible refine ((T1 _).out).mono ?_); rintro e w1 ⟨rfl, hb1⟩; clear tok1 _t; have hz1 := hb1.size; (try simp only [sA, sB, sC, sD] at hz1); (try (obtain ⟨kq, qj⟩ := cfAt hb1 (w.heap.size); have qc := kq 0; have qd := kq 1; clear kq; simp [go_sem, *] at qc qd qj)); (try have qy : w.heap.size < w1.heap.size := by omega); (try (obtain ⟨kq, qk⟩ := cfAt hb1 (w.heap.size + 1); have qe := kq 0; have qf := kq 1; have qg := kq 2; clear kq; simp [go_sem, *] at qe qf qg qk)); (try have qz : w.heap.size + 1 < w1.heap.size := by omega); (try (obtain ⟨kq, ql⟩ := cfAt hb1 (w.heap.size + 1 + 1); have qh := kq 0; have qi := kq 1; clear kq; simp [go_sem, *] at qh qi ql)); (try have xc : w.heap.size + 1 + 1 < w1.heap.size := by omega); have hbw : Below w.heap.size w w1 := bel; have kg := (cellAt hbw gp hl 0).trans hc; have fg := (frozAt hbw gp hl 0).trans hf; have lg : gp < w1.heap.size := Nat.lt_of_lt_of_le hl hbw.size) | (have _t := tok3; go_at_call 60; (with_reducible refine ((T2 _ (Cal.at_ (w := w) clf)).out).mono ?_); rintro e w3 ⟨rfl, hb3⟩; clear tok3 _t; have hz3 := hb3.size; (try simp only [sA, sB, sC, sD] at hz3); (try (refine calCell' hb3 (w.heap.size) 0 ?_ ?_ ?_; (focus (go_size; done)); (focus (omega; done)); intro qo; simp [go_sem, *] at qo)); (try (refine calCell' hb3 (w.heap.size) 1 ?_ ?_ ?_; (focus (go_size; done)); (focus (omega; done)); intro qq; simp [go_sem, *] at qq)); (try (refine calFroz' hb3 (w.heap.size) ?_ ?_ ?_; (focus (go_size; done)); (focus (omega; done)); intro xd; simp [go_sem, *] at xd)); (try (refine (fun (xt : w.heap.size < w3.heap.size) => ?_) ?_; rotate_left; (focus (omega; done)))); (try (refine calCell' hb3 (w.heap.size + 1) 0 ?_ ?_ ?_; (focus (go_size; done)); (focus (omega; done)); intro qr; simp [go_sem, *] at qr)); (try (refine calCell' hb3 (w.heap.size + 1) 1 ?_ ?_ ?_; (focus (go_size; done)); (focus (omega; done)); intro qt; simp [go_sem, *] at qt)); (try (refine calCell' hb3 (w.heap.size + 1) 2 ?_ ?_ ?_; (focus (go_size; done)); (focus (omega; done)); intro qu; simp [go_sem, *] at qu)); (try (refine calFroz' hb3 (w.heap.size + 1) ?_ ?_ ?_; (focus (go_size; done)); (focus (omega; done)); intro xe; simp [go_sem, *] at xe)); (try (refine (fun (xu : w.heap.size + 1 < w3.heap.size) => ?_) ?_; rotate_left; (focus (omega; done)))); (try (refine calCell' hb3 (w.heap.size + 1 + 1) 0 ?_ ?_ ?_; (focus (go_size; done)); (focus (omega; done)); intro qv; simp [go_sem, *] at qv)); (try (refine calCell' hb3 (w.heap.size + 1 + 1) 1 ?_ ?_ ?_; (focus (go_size; done)); (focus (omega; done)); intro qw; simp [go_sem, *] at qw)); (try (refine calFroz' hb3 (w.heap.size + 1 + 1) ?_ ?_ ?_; (focus (go_size; done)); (focus (omega; done)); intro xf; simp [go_sem, *] at xf)); (try (refine (fun (xv : w.heap.size + 1 + 1 < w3.heap.size) => ?_) ?_; rotate_left; (focus (omega; done)))); (try (refine calCell' hb3 (w1.heap.size) 0 ?_ ?_ ?_; (focus (go_size; done)); (focus (omega; done)); intro qm; simp [go_sem, *] at qm)); (try (refine calCell' hb3 (w1.heap.size) 1 ?_ ?_ ?_; (focus (go_size; done)); (focus (omega; done)); intro qn; simp [go_sem, *] at qn)); (try (refine calFroz' hb3 (w1.heap.size) ?_ ?_ ?_; (focus (go_size; done)); (focus (omega; done)); intro qx; simp [go_sem, *] at qx)); (try (refine (fun (xp : w1.heap.size < w3.heap.size) => ?_) ?_; rotate_left; (focus (omega; done)))); have kp3 := calAt hb3; have fp3 := calFree hb3; have lp3 := Cal.lt hb3; (try clear kp1); (try clear fp1); (try clear kp2); (try clear fp2); (try clear qc qd qj); (try clear qy); (try clear qe qf qg qk); (try clear qz); (try clear qh qi ql); (try clear xc); (try clear xi xj xw); (try clear xy); (try clear xk xl xm za); (try clear zb); (try clear xn xo zc); (try clear zd); (try clear xg xh xq); (try clear xr)))
  refine bodyPost_ret (v := _) (by simp [results, Tryz.results30, go_sem, *]) rfl ⟨rfl, ?_⟩
  (exact clf)
/-- the span that is twice the best one, and whether all steps were valid -/
noncomputable def s2A (A B x e : Int) : Int := kpV (BK A B x e) (BL A B x e)
noncomputable def s2B (A B x e : Int) : Int := kpV (BK A B x e) (BH A B x e)
noncomputable def s2V (A B x e : Int) : Bool := BK A B x e && validB (s2A A B x e + s2A A B x e) (s2B A B x e + s2B A B x e)
end Go.Proofs.YtnkmgpmehkholaaGreat
