/- The cursor draws a quartic: the code behind the switch. -/
import Derived.Test.YtegiddpakocodaaCm
import Derived.Test.YtegiddpakocodaaLo5
import Derived.Test.YtegiddpakocodaaBy
import Derived.Test.YtegiddpakocodaaFk
namespace Go.Proofs.Ytegiddpakocodaa
open Go.RowKit
set_option linter.unusedVariables false
set_option maxHeartbeats 4000000
set_option maxRecDepth 20000
set_option linter.unusedSimpArgs false

theorem alloc_two (W : World) (o p : Obj) : ((W.alloc o).alloc p).heap[W.heap.size + 1]? = some p := by
  have := heap_alloc_new (W.alloc o) p
  simpa using this
theorem bx_third {W : World} {g : Nat} {a b c v : Value} {T : TypeId} (h : W.heap[g]? = some (.cells #[a, b, c] T)) : (W.setCell ⟨g, 2, none⟩ v).heap[g]? = some (.cells #[a, b, v] T) := by
  simpa using blk_set (o := 2) (v := v) h
theorem bx_first {W : World} {g : Nat} {a b c v : Value} {T : TypeId} (h : W.heap[g]? = some (.cells #[a, b, c] T)) : (W.setCell ⟨g, 0, none⟩ v).heap[g]? = some (.cells #[v, b, c] T) := by
  simpa using blk_set (o := 0) (v := v) h
theorem loGood_some (a b c : Int) (w : World) : Calls Try.prog 28 #[.agg #[.int .i64 a, .int .i64 b, .int .i64 c]] w fun e w' => ∃ x : Bool, e = .returned (.bool x) ∧ Below w.heap.size w w' :=
  (loGood_any a b c w).mono fun _ _ h => ⟨_, h⟩
theorem quartic_20 {B g gp gq k : Nat} {D A C z0 z1 z2 : Int} {w W : World} {u1 u3 u5 u6 u7 u8 u9 u10 u11 u12 u13 u14 u15 u16 u17 u18 u19 u20 u21 u22 u23 u24 u25 u26 u27 u28 u29 u30 u31 u32 u33 u34 u35 u36 u37 u38 u39 u40 u41 u42 u43 u44 u45 u46 u47 u48 u49 u50 u51 u52 u53 u54 u55 u56 u57 u58 u59 u60 u61 u62 u63 u64 u65 u66 u67 u68 u69 u70 u71 u72 u73 u74 u75 u76 u77 u78 u79 u80 u81 u82 u83 u84 u85 u86 u87 u88 u89 u90 u91 u92 u93 u94 u95 u96 u97 u98 u99 u100 u101 u102 u103 u104 u105 u106 u107 u108 u109 u110 u111 u112 u113 u114 u115 u116 u117 u118 u119 u120 u121 u122 u123 u124 u125 u126 u127 u128 u129 u130 u131 u132 u133 u134 u135 u136 u137 u138 u139 u140 u141 u142 u143 u144 u145 u146 u147 u148 u149 u150 : Value} (hR : CR 49 B g k w W) (hk : k ≤ 32) (hq : W.heap[gq]? = some (.cells #[.int .i64 D, .int .i64 A, .int .i64 C] 24 (0, 0))) (hp : W.heap[gp]? = some (.cells #[.int .i64 z0, .int .i64 z1, .int .i64 z2] 24 (0, 0))) (hpw : w.heap.size ≤ gp) (hB : B ≤ w.heap.size) (hz9 : w.heap.size ≤ W.heap.size) :
    Code.wp Try.prog (dropTo 20 (bodyOf Try.f56)) (bodyPost Try.prog Try.f56 fun e w' => ∃ a b c : Int, e = .returned (.agg #[.int .i64 a, .int .i64 b, .int .i64 c]) ∧ CR 49 B g 32 w w') { tmps := #[.pointer (some ⟨g, 0, none⟩), u1, .pointer (some ⟨gp, 0, none⟩), u3, .pointer (some ⟨gq, 0, none⟩), u5, u6, u7, u8, u9, u10, u11, u12, u13, u14, u15, u16, u17, u18, u19, u20, u21, u22, u23, u24, u25, u26, u27, u28, u29, u30, u31, u32, u33, u34, u35, u36, u37, u38, u39, u40, u41, u42, u43, u44, u45, u46, u47, u48, u49, u50, u51, u52, u53, u54, u55, u56, u57, u58, u59, u60, u61, u62, u63, u64, u65, u66, u67, u68, u69, u70, u71, u72, u73, u74, u75, u76, u77, u78, u79, u80, u81, u82, u83, u84, u85, u86, u87, u88, u89, u90, u91, u92, u93, u94, u95, u96, u97, u98, u99, u100, u101, u102, u103, u104, u105, u106, u107, u108, u109, u110, u111, u112, u113, u114, u115, u116, u117, u118, u119, u120, u121, u122, u123, u124, u125, u126, u127, u128, u129, u130, u131, u132, u133, u134, u135, u136, u137, u138, u139, u140, u141, u142, u143, u144, u145, u146, u147, u148, u149, u150], defers := [] } W := by
  have kp := blk_cell hp
  have fp := blk_frozen hp
  have lp := blk_lt hp
  have kp0 := kp 0
  have kp1 := kp 1
  have kp2 := kp 2
  have kq := blk_cell hq
  have fq := blk_frozen hq
  have lq := blk_lt hq
  have kq0 := kq 0
  have kq1 := kq 1
  have kq2 := kq 2
  simp at kp0 kp1 kp2 kq0 kq1 kq2
  clear kp hp kq hq
  have tok16 : True := trivial
  conv in dropTo _ _ => whnf
  dsimp only
  go_wp2_with (first | (have _t := tok16; go_at_call 28; refine (loGood_some _ _ _ _).mono ?_; rintro e w16 ⟨x16, rfl, hb16⟩; clear tok16 _t; have hz16 := hb16.size; (try simp only [World.size_alloc, World.size_setCell, World.size_drew, World.size_drewN'] at hz16); (try (have kq := cellAt hb16 (gp) (by go_size); have k16_gp_0 := kq 0; have k16_gp_1 := kq 1; have k16_gp_2 := kq 2; clear kq; have f16_gp := frozAt hb16 (gp) (by go_size); simp [go_sem, *] at k16_gp_0 k16_gp_1 k16_gp_2 f16_gp)); (try have l16_gp : gp < w16.heap.size := by omega); (try (have kq := cellAt hb16 (gq) (by go_size); have k16_gq_0 := kq 0; have k16_gq_1 := kq 1; have k16_gq_2 := kq 2; clear kq; have f16_gq := frozAt hb16 (gq) (by go_size); simp [go_sem, *] at k16_gq_0 k16_gq_1 k16_gq_2 f16_gq)); (try have l16_gq : gq < w16.heap.size := by omega); (try clear k12_gp_0 k12_gp_1 k12_gp_2 f12_gp); (try clear l12_gp); (try clear k12_gq_0 k12_gq_1 k12_gq_2 f12_gq); (try clear l12_gq); (try clear k13_gp_0 k13_gp_1 k13_gp_2 f13_gp); (try clear l13_gp); (try clear k13_gq_0 k13_gq_1 k13_gq_2 f13_gq); (try clear l13_gq); (try clear k14_gp_0 k14_gp_1 k14_gp_2 f14_gp); (try clear l14_gp); (try clear k14_gq_0 k14_gq_1 k14_gq_2 f14_gq); (try clear l14_gq); (try clear k15_gp_0 k15_gp_1 k15_gp_2 f15_gp); (try clear l15_gp); (try clear k15_gq_0 k15_gq_1 k15_gq_2 f15_gq); (try clear l15_gq)))
  · (refine bodyPost_ret (v := .agg #[.int .i64 2, .int .i64 0, .int .i64 (-17)]) (by simp [results, Try.results56, go_sem, *]) rfl ⟨_, _, _, rfl, by (apply CR.fin; (focus (repeat' first | (with_reducible first | assumption | exact CR.refl _ | apply CR.alloc | apply CR.drew | apply CR.drewN | apply CR.set | apply CR.via (by assumption) | apply CR.step (by assumption)) | go_size | (simp only [World.size_alloc, World.size_setCell, World.size_drew, World.size_drewN']; omega) | omega)); (first | omega | decide))⟩)
  · (refine bodyPost_ret (v := .agg #[.int .i64 D, .int .i64 A, .int .i64 C]) (by simp [results, Try.results56, go_sem, *]) rfl ⟨_, _, _, rfl, by (apply CR.fin; (focus (repeat' first | (with_reducible first | assumption | exact CR.refl _ | apply CR.alloc | apply CR.drew | apply CR.drewN | apply CR.set | apply CR.via (by assumption) | apply CR.step (by assumption)) | go_size | (simp only [World.size_alloc, World.size_setCell, World.size_drew, World.size_drewN']; omega) | omega)); (first | omega | decide))⟩)
end Go.Proofs.Ytegiddpakocodaa
