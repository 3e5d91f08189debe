/- Lemmas and contracts of functions. No condition. -/
import Derived.Test.YtbnglnbcfabmgaaPf13
import Derived.Deep.RegionHeld3
import Derived.Laws.AppendOwnNone
import Derived.Maps.AppendAt
namespace Go.Proofs.Ytbnglnbcfabmgaa
open Go.RowKit
set_option linter.unusedVariables false
set_option maxHeartbeats 4000000
set_option maxRecDepth 20000
set_option linter.unusedSimpArgs false
/-- the cells of a value that is appended: it is a slice, or nil -/
def Srcs (W : World) (xv : Value) (m : Nat) (news : List Value) : Prop := (∃ ad c, xv = .slice (some ad) m c ∧ ∀ j u, news[j]? = some u → W.cell? (ad.add j) = some u) ∨ (xv = .slice none 0 0 ∧ m = 0 ∧ news = [])
theorem step_app {P : Program} {w : World} {ops : Array Oper} {o : Oper} {a : Act} {K : Act → World → Prop} {Q : Exit → Act → World → Prop} {E : Prop} (hgd : o.guard = none) (s x : Operand) (t : TypeId)
    (ho : o.op = .call { callee := .builtin .append, args := #[s, x], argTypes := #[t, t] })
    (base : Nat) (e : TypeId) (i : TypeInfo) (z : Value) (size bytes : Nat) (ht : P.underlying t = some (.slice e)) (hi : P.info? e = some i) (hz : i.zero = some z)
    (hsize : i.size = size) (hby : i.bytes = bytes) (hzs : z.cells.size = size) (hsz : 0 < size)
    (w0 : World) (hb0 : Below base w0 w) (n : Nat) (xs : List Value) (m : Nat) (news : List Value) (hown : w.ownsRow base e size (a.eval s) n xs) (hx : Srcs w (a.eval x) m news) (hl : news.length = m * size) (h1 : ∀ u ∈ news, u.oneCell' = true)
    (h63 : n + m ≤ maxLen) (hbytes : (n + m) * bytes ≤ 140737488355328) (hbase : base ≤ w.heap.size)
    (h : ∀ v' w', w'.ownsRow base e size v' (n + m) (xs ++ news) → w.grownBy w' (a.eval s).ownBlock → Below base w0 w' → (v'.ownBlock = (a.eval s).ownBlock ∨ v'.ownBlock = some w.heap.size) → K (a.put o.dst v') w') : if Region.wanted o (yielded ops a.tmps) = true then Oper.wp P o a w K Q else E := by
  have hw : Region.wanted o (yielded ops a.tmps) = true := by simp [Region.wanted, hgd]
  rw [if_pos hw]
  rcases hx with ⟨ad, c, hx, hnews⟩ | ⟨hx, rfl, rfl⟩
  · obtain ⟨v', w', hr, h2, h3, h4, h5⟩ := run_append_own_at (P := P) w base t o.type e i z size bytes ht hi hz hsize hby hzs hsz _ n xs hown ad m c news hl hnews h1 h63 hbytes hbase
    unfold Oper.wp execOp
    simp only [ho, resolve, invoke, builtin, Sem.run_bind, Sem.run_pure, Result.andThen_ok, List.map_toArray, List.map_cons, List.map_nil, hx, hr]
    exact h v' w' h2 h3 (hb0.grown h3 hbase (fun j e => (hown.lt _ e).1)) h5
  · have hrun := run_append_owned_none (P := P) (w := w) base t o.type e i size ht hi _ n xs hown
    unfold Oper.wp
    simp [execOp, ho, resolve, invoke, builtin, hx, hrun, Result.andThen]
    have := h (a.eval s) w (by simpa using hown) ⟨rfl, rfl, rfl, Nat.le_refl _, fun _ _ _ => rfl⟩ hb0 (.inl rfl)
    exact this
theorem src_one {W : World} {G : Nat} {T : TypeId} {x : Int} (h : W.heap[G]? = some (.cells #[.int .i64 x] T (0, 0))) : Srcs W (.slice (some ⟨G, 0, none⟩) 1 1) 1 [.int .i64 x] :=
  Or.inl ⟨⟨G, 0, none⟩, 1, rfl, fun j u hj => by
    match j, hj with
    | 0, hj => simp at hj; subst hj; simpa [Addr.add] using blk_cell h 0⟩
theorem keepW {W V : World} {b : Nat} {X : Obj} (h : Below W.heap.size W V) (e : W.heap[b]? = some X) : V.heap[b]? = some X := (h.block b (Array.getElem?_eq_some_iff.1 e).1).trans e
theorem OwnI.alloc {W : World} {B : Nat} {T : TypeId} {v : Value} {zs : List Int} (h : OwnI W B T v zs) (X : Obj) : OwnI (W.alloc X) B T v zs := h.below ((Below.refl _ _).alloc (Nat.le_refl _) _)
theorem OwnI.low {W : World} {B B' : Nat} {T : TypeId} {v : Value} {zs : List Int} (h : OwnI W B T v zs) (hB : B' ≤ B) : OwnI W B' T v zs :=
  ⟨h.1, h.2.imp id fun ⟨g, cap, cur, hv, hb, hg, rest⟩ => ⟨g, cap, cur, hv, Nat.le_trans hB hb, hg, rest⟩⟩
end Go.Proofs.Ytbnglnbcfabmgaa
