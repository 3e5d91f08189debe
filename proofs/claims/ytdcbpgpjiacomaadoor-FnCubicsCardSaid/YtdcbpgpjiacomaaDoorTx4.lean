/- Rows of strings of a call's own; the library's Join; texts of numbers and points. -/
import Derived.Test.YtdcbpgpjiacomaaDoorTx2
import Derived.Test.YtdcbpgpjiacomaaDoorOwn
import Derived.Test.YtdcbpgpjiacomaaDoorSl
import Derived.Laws.OwnMore
import Derived.Lib.Join
namespace Go.Proofs.YtdcbpgpjiacomaaDoor
open Go.RowKit
set_option linter.unusedVariables false
set_option maxHeartbeats 4000000
set_option maxRecDepth 20000
set_option linter.unusedSimpArgs false

def strs (ss : List (List UInt8)) : List Value := ss.map fun l => .string ⟨l.toArray⟩
theorem strs_len (ss : List (List UInt8)) : (strs ss).length = ss.length := by simp [strs]
theorem strs_append (a b : List (List UInt8)) : strs (a ++ b) = strs a ++ strs b := by simp [strs]
theorem strs_one (x : List UInt8) : strs [x] = [.string ⟨x.toArray⟩] := rfl
/-- the slice v of the call's own holds the strings -/
def OwnS (W : World) (B : Nat) (T : TypeId) (v : Value) (ss : List (List UInt8)) : Prop := W.ownsRow B T 1 v ss.length (strs ss)
theorem OwnS.nil (W : World) (B : Nat) (T : TypeId) : OwnS W B T (.slice none 0 0) [] := World.ownsRow_nil _ _ _ _
theorem OwnS.lit (W : World) (B : Nat) (T : TypeId) (x : List UInt8) (hB : B ≤ W.heap.size) : OwnS (W.alloc (.cells #[.string ⟨x.toArray⟩] T)) B T (.slice (some ⟨W.heap.size, 0, none⟩) 1 1) [x] :=
  World.ownsRow_lit W #[.string ⟨x.toArray⟩] 1 hB (by decide) rfl
theorem Join_any (ss : List (List UInt8)) (v : Value) (w : World) (B : Nat) (h : OwnS w B 9 v ss) (hn : 1 ≤ ss.length) (hN : ss.length ≤ 1000) (hlen : (Lib.join ss [32]).length ≤ 1000000) :
    Calls Tryd.prog 68 #[v, .string ⟨#[32]⟩] w fun e w' => e = .returned (.string ⟨(Lib.join ss [32]).toArray⟩) ∧ Below w.heap.size w w' := by
  obtain ⟨hl, h⟩ := h
  rcases h with ⟨rfl, h⟩ | ⟨g, c, cur, rfl, hB, hg, hnc, hcm, hcs, ht⟩
  · omega
  · have hx : (ss.map fun l => (⟨l.toArray⟩ : ByteArray)).length = ss.length := by simp
    have hm : (ss.map fun l => (⟨l.toArray⟩ : ByteArray)).map (fun x => x.data.toList) = ss := by
      rw [List.map_map]
      conv => rhs; rw [← List.map_id ss]
      apply List.map_congr_left
      intro l _
      simp
    have J := Go.Proofs.Tryd.strings_Join g 0 c (ss.map fun l => (⟨l.toArray⟩ : ByteArray)) ⟨#[32]⟩ w (fun j x hj => by
        have hjl : j < ss.length := by
          have := (List.getElem?_eq_some_iff.1 hj).1
          simpa using this
        rw [Nat.zero_add, cell_of_row w g j cur _ (0, 0) hg]
        have h2 : (strs ss)[j]? = some (.string x) := by
          simp only [List.getElem?_map, strs] at hj ⊢
          cases hs : ss[j]? with
          | none => rw [hs] at hj; cases hj
          | some l => rw [hs] at hj; simp at hj; subst hj; rfl
        rw [← ht, List.getElem?_take, if_pos (by omega)] at h2
        simpa using h2) (Array.getElem?_eq_some_iff.1 hg).1 (by rw [hx]; omega) (by rw [hx]; exact hnc) (by rw [hm]; show (Lib.join ss [32]).length ≤ _; omega)
    rw [hx, hm] at J
    exact J
theorem join_two (x y : List UInt8) : Lib.join [x, y] [32] = x ++ [32] ++ y := by
  rw [Lib.join_cons]; simp [Lib.joinTail]
theorem infoStr : (Tryd.prog.info? 9).map (fun i => (i.zero, i.size, i.bytes)) = some (some (.string ⟨#[]⟩), 1, 16) := by kernel_rfl
/-- the texts of numbers, one behind the other -/
def nmL (zs : List Int) (k : Nat) : List (List UInt8) := (zs.take k).map Lib.itoa
theorem nmL_next {zs : List Int} {k : Nat} (h : k < zs.length) : nmL zs (k + 1) = nmL zs k ++ [Lib.itoa (zs.getD k 0)] := by
  unfold nmL
  rw [List.take_add_one, List.map_append]
  simp [List.getD, h]
theorem nmL_len {zs : List Int} {k : Nat} (h : k ≤ zs.length) : (nmL zs k).length = k := by simp [nmL]; omega
theorem nmL_all (zs : List Int) : nmL zs zs.length = zs.map Lib.itoa := by simp [nmL]
def ptT (x y e : Int) : List UInt8 := if e = 0 then [79] else [40] ++ frT x (e * e) ++ [44] ++ frT y (e * e * e) ++ [41]
theorem cat5p (D E : List UInt8) : Ending.returned (.string ((⟨#[40]⟩ : ByteArray) ++ ⟨D.toArray⟩ ++ ⟨#[44]⟩ ++ ⟨E.toArray⟩ ++ ⟨#[41]⟩)) = Ending.returned (.string ⟨([40] ++ D ++ [44] ++ E ++ [41]).toArray⟩) := by
  rw [show (#[40] : Array UInt8) = [40].toArray from rfl, show (#[44] : Array UInt8) = [44].toArray from rfl, show (#[41] : Array UInt8) = [41].toArray from rfl, bcat, bcat, bcat, bcat]
end Go.Proofs.YtdcbpgpjiacomaaDoor
