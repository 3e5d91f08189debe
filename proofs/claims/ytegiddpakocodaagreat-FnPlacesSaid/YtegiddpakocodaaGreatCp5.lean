/- The possible pairs modulo the next power: the program. -/
import Derived.Test.YtegiddpakocodaaGreatCp4
namespace Go.Proofs.YtegiddpakocodaaGreat
open Go.RowKit Go.Shelf
set_option linter.unusedVariables false
set_option maxHeartbeats 4000000
set_option maxRecDepth 20000
set_option linter.unusedSimpArgs false
attribute [local go_sem] Oper.semAt_some
theorem candStops (F : Fence) (n : Nat) (hF : F.fn 106) (hro : F.round = none) (hn : 1 ≤ n) (n₁ X bp bl bs g P : Nat) (M : Int) (a : Option Addr) (c : Nat) (cur : Array Value) (l : List (Int × Int)) (w : World)
    (hP : P ≤ 1000) (hM : 0 ≤ M ∧ M ≤ 1000000000) (hl : l.length ≤ 4000000000) (hb : ∀ i, i < l.length → (0 ≤ (l.getD i (0, 0)).1 ∧ (l.getD i (0, 0)).1 ≤ 1000000000) ∧ (0 ≤ (l.getD i (0, 0)).2 ∧ (l.getD i (0, 0)).2 ≤ 1000000000))
    (hcur : ∀ i, i < l.length → cur[i * 2]? = some (.int .i64 (l.getD i (0, 0)).1) ∧ cur[i * 2 + 1]? = some (.int .i64 (l.getD i (0, 0)).2))
    (h1 : bp < n₁ ∧ bp ≠ X) (h2 : bl < n₁ ∧ bl ≠ X) (h3 : bs < n₁ ∧ bs ≠ X) (h4 : l ≠ [] → g < n₁ ∧ g ≠ X) (h5 : n₁ ≤ w.heap.size)
    (kp : w.heap[bp]? = some (.cells #[.int .i64 P] 3 (0, 0))) (kl : w.heap[bl]? = some (.cells #[.slice a l.length c] 72 (0, 0))) (ks : w.heap[bs]? = some (.cells #[.int .i64 M] 3 (0, 0))) (kr : l = [] ∨ (a = some ⟨g, 0, none⟩ ∧ w.heap[g]? = some (.cells cur 75 (0, 0)))) :
    SeqStopsK F n Tryz.prog 106 #[.pointer (some ⟨bp, 0, none⟩), .pointer (some ⟨bl, 0, none⟩), .pointer (some ⟨bs, 0, none⟩)] (fun x : Int × Int => #[.agg #[.int .i64 x.1, .int .i64 x.2]]) (KpX n₁ X) (fun ys => ys = cd l P M) (fun pre => pre <+: cd l P M) (cd l P M).length w := fun ll J Jx W hW hJ hJx hY h0 => by
  have hk : ∀ {b : Nat} {X : Obj}, w.heap[b]? = some X → W.heap[b]? = some X := fun e => (hW.block _ (Array.getElem?_eq_some_iff.1 e).1).trans e
  exact candIter_in F n hF hro hn ll n₁ X bp bl bs g P M a c cur l J Jx W hP hM hl hb hcur h1 h2 h3 h4 (hk kp) (hk kl) (hk ks) (kr.imp id fun q => ⟨q.1, hk q.2⟩) hJ hY h0
/-- what a row of pairs is, seen from its reader -/
theorem OwnQ.row {W : World} {B : Nat} {v : Value} {l : List (Int × Int)} (h : OwnQ W B v l) : ∃ (g c : Nat) (a : Option Addr) (cur : Array Value), v = .slice a l.length c ∧ (∀ i, i < l.length → cur[i * 2]? = some (.int .i64 (l.getD i (0, 0)).1) ∧ cur[i * 2 + 1]? = some (.int .i64 (l.getD i (0, 0)).2)) ∧ (l ≠ [] → g < W.heap.size ∧ B ≤ g) ∧ (l = [] ∨ (a = some ⟨g, 0, none⟩ ∧ W.heap[g]? = some (.cells cur 75 (0, 0)))) := by
  obtain ⟨hx, h⟩ := h
  rcases h with ⟨h1, h2⟩ | ⟨g, cap, cur, hv, hB, hg, hnc, hcm, hcs, ht⟩
  · have e : l = [] := List.length_eq_zero_iff.1 h2
    subst e
    exact ⟨0, 0, none, #[], h1, fun i hi => absurd hi (by simp), fun e => (e rfl).elim, .inl rfl⟩
  · refine ⟨g, cap, _, cur, hv, fun i hi => ?_, fun _ => ⟨blk_lt' hg, hB⟩, .inr ⟨rfl, hg⟩⟩
    have hl := flat_len l
    obtain ⟨f1, f2⟩ := flat_at l i hi
    have h3 : ∀ j, j < 2 * l.length → cur[j]? = some (.int .i64 ((flat l)[j]?.getD 0)) := fun j hj => by
      have h3 : (ints (flat l))[j]? = cur[j]? := by rw [← ht, List.getElem?_take, if_pos (by omega)]; simp
      rw [← h3, ints_at _ j (by omega), List.getD_eq_getElem?_getD]
    have c1 := h3 (i * 2) (by omega)
    have c2 := h3 (i * 2 + 1) (by omega)
    rw [f1] at c1
    rw [f2] at c2
    exact ⟨c1, c2⟩
/-! ### lengths and bounds -/
theorem rg_len (n : Int) : (rg n).length = n.toNat := by simp [rg]
theorem pl_len {D A C p : Int} {k : Nat} : (pl D A C p k).length ≤ 2 * (p ^ k).toNat := by
  unfold pl pl1 pl2
  rw [List.length_append, List.length_map, List.length_map]
  have h1 := List.length_filter_le (fun m => poB D A C m 1 p k) (rg (p ^ k))
  have h2 := List.length_filter_le (fun e => decide (e % p = 0) && poB D A C 1 e p k) (rg (p ^ k))
  rw [rg_len] at h1 h2
  omega
theorem pl_mem {D A C p : Int} {k : Nat} {x : Int × Int} (hk : 1 < p ^ k) (h : x ∈ pl D A C p k) : (0 ≤ x.1 ∧ x.1 < p ^ k) ∧ (0 ≤ x.2 ∧ x.2 < p ^ k) := by
  simp only [pl, List.mem_append, pl1, pl2, List.mem_map, List.mem_filter, mem_rg] at h
  rcases h with ⟨y, ⟨h, _⟩, rfl⟩ | ⟨y, ⟨h, _⟩, rfl⟩ <;> dsimp only <;> omega
theorem cdI_len (b : Bool) (l : List (Int × Int)) (n : Int) (j i : Nat) : (cdI b l n j i).length ≤ l.length := by
  unfold cdI
  rw [List.length_map]
  have h1 := List.length_filter_le (cdF b) (l.take i)
  rw [List.length_take] at h1
  omega
theorem cdJ_len (b : Bool) (l : List (Int × Int)) (n : Int) : ∀ j, (cdJ b l n j).length ≤ j * l.length
  | 0 => by simp [cdJ_zero]
  | j + 1 => by
    have h1 := cdJ_len b l n j
    have h2 := cdI_len b l n j l.length
    rw [cdJ_step, List.length_append, Nat.succ_mul]
    omega
theorem cd_len (l : List (Int × Int)) (P : Nat) (n : Int) : (cd l P n).length ≤ 2 * (P * l.length) := by
  have h1 := cdJ_len true l n P
  have h2 := cdJ_len false l n P
  rw [cd_eq, List.length_append]
  omega
theorem cd_mem {l : List (Int × Int)} {P : Nat} {n q : Int} {x : Int × Int} (hn : 0 ≤ n) (hq : q = P * n) (hP : 1 ≤ P) (hl : ∀ x ∈ l, (0 ≤ x.1 ∧ x.1 < n) ∧ (0 ≤ x.2 ∧ x.2 < n)) (h : x ∈ cd l P n) : (0 ≤ x.1 ∧ x.1 < q) ∧ (0 ≤ x.2 ∧ x.2 < q) := by
  have key : ∀ j : Int, 0 ≤ j → j < P → 0 ≤ j * n ∧ j * n + n ≤ q := fun j h1 h2 => by
    refine ⟨Int.mul_nonneg h1 hn, ?_⟩
    have := Int.mul_le_mul_of_nonneg_right (show j + 1 ≤ P by omega) hn
    rw [Int.add_mul, Int.one_mul, ← hq] at this
    exact this
  have k0 := key 0 (by omega) (by omega)
  simp only [cd, List.mem_append, cd1, cd2, List.mem_flatMap, List.mem_map, List.mem_filter, mem_rg] at h
  rcases h with ⟨j, hj, y, ⟨hy, _⟩, rfl⟩ | ⟨j, hj, y, ⟨hy, _⟩, rfl⟩ <;> (have h1 := hl y hy; have h2 := key j hj.1 hj.2; dsimp only; omega)
end Go.Proofs.YtegiddpakocodaaGreat
