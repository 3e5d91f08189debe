/- LocalPair, IsLocallySoluble: the program, and the walks of the laws. -/
import Derived.Test.YtpikckgaonppkaaGreatLp3
import Derived.Test.YtpikckgaonppkaaGreatToL
namespace Go.Proofs.YtpikckgaonppkaaGreat
open Go.RowKit
set_option linter.unusedVariables false
set_option maxHeartbeats 4000000
set_option maxRecDepth 20000
set_option linter.unusedSimpArgs false
theorem soluble_any (D A C p : Int) (w : World) (hp : 2 ≤ p) (hp2 : p ≤ 1000) : Calls Tryz.prog 59 #[.agg #[.int .i64 D, .int .i64 A, .int .i64 C], .int .i64 p] w fun r w' =>
    r = .returned (.tuple #[.bool (slV D A C p).1, .bool (slV D A C p).2]) ∧ Below w.heap.size w w' := by
  obtain ⟨P, rfl⟩ : ∃ P : Nat, p = P := ⟨p.toNat, by omega⟩
  have T1 := fun W : World => Lib.hid (localPair_any D A C P W hp hp2)
  unfold slV lpT at *
  obtain ⟨⟨⟨m, e⟩, ⟨k, o⟩⟩, hR⟩ : ∃ r, lpV D A C P = r := ⟨_, rfl⟩
  rw [hR] at T1 ⊢
  clear hR
  dsimp only at T1 ⊢
  by_cases hk : 0 < k <;> cases o
  all_goals
    have tok1 : True := trivial
    go_enter Tryz.func59, Tryz.ntmps59
    go_wp2_with (first | (have _t := tok1; go_at_call 69; (with_reducible refine ((T1 _).out).mono ?_); rintro e w1 ⟨rfl, hb1⟩; clear tok1 _t; have hz1 := hb1.size; (try simp only [World.size_alloc, World.size_setCell, World.size_drew, World.size_drewN'] at hz1); (try (have kq := cellAt hb1 (w.heap.size) (by go_size); have k1_w_0_0 := kq 0; have k1_w_0_1 := kq 1; have k1_w_0_2 := kq 2; clear kq; have f1_w_0 := frozAt hb1 (w.heap.size) (by go_size); simp [go_sem, *] at k1_w_0_0 k1_w_0_1 k1_w_0_2 f1_w_0)); (try have l1_w_0 : w.heap.size < w1.heap.size := by omega)))
    go_ret2
    refine ⟨by simp [hk], ?_⟩
    repeat' first | (with_reducible first | apply zRf | assumption | apply zDn | apply zDr | apply zAl | apply zSt | refine zVi (by assumption) ?_ ?_) | go_size
end Go.Proofs.YtpikckgaonppkaaGreat
