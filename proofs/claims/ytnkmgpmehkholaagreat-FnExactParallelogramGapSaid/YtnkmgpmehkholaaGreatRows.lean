/-
  No cell of these rows narrows 'for every input' (looked for: loops, veiled, ifaces, maps, wideKeys, modest, calm, conditions, laid).
  DERIVED. THE GIVEN ROWS OF THIS SEAT. 3 by the template 'for every input the law returns true; each argument reads behind the call as it read before'; 0 by the template 'total and deterministic' (their statements: YtnkmgpmehkholaaGreatTotals.lean).
  GIVEN WITH THE SEED: the statements are not yours to turn. If you find one false, say at which input.
  Laid BY PROGRAM, IN A SANDBOX (cutbox-rows.mjs): the forced cells as the released guide's own fill.sh prints them over the translation 3eb7c4fb93e678f9… (all of the seat's roots in one cut). By AI agents, Wed Nov 11 2026. No macro, syntax, notation, axiom, sorry.
-/
import Derived.Test.YtnkmgpmehkholaaGreatChecked
import GoSem.Claim
import GoSem.ClaimJoined
import GoSem.ClaimMapViews
import Derived.JoinedTies
import Derived.KernelRfl
namespace Go.Proofs.YtnkmgpmehkholaaGreat
/- THE CELL 'sum', in the pinned program and in every row, IS THE sha256 OF THE DUMP (.gsa) THAT YtnkmgpmehkholaaGreatProg.lean LOADS. Nothing in Lean hashes anything: it is a label: what it is worth is what the hold of that sum in a sandbox is worth. -/
noncomputable def Tryz.pinned : Pinned := { name := "ytnkmgpmehkholaagreat", sum := "3eb7c4fb93e678f93e7e6327d56dbdb1bcaa6bf94c9c499633db4f1dfea23f90", checked := Tryz.checked }
namespace Rows
def none {H : Type} : Left H := { results := [], args := [] }

/-- 'laws.FnExactPairingOf': WHATEVER THE INPUT: true; the input reads as it did. -/
def fnExactPairingOfSpec : ChangeSpec := { name := "fnExactPairingOf", fn := fun _ => fun
  | [d1, d2, d3] => { results := [.lit (.bool true)], args := [d1, d2, d3] }
  | _ => none }
def fnExactPairingOfRow : OpenClaim := { program := "ytnkmgpmehkholaagreat", sum := "3eb7c4fb93e678f93e7e6327d56dbdb1bcaa6bf94c9c499633db4f1dfea23f90", func := "loop.example/g01004/laws.FnExactPairingOf", spec := "fnExactPairingOf", inPlace := ["math.sqrt"], apart := false }
def FnExactPairingOfSaid : Prop := fnExactPairingOfRow.holds Tryz.pinned (OpenSpec.ofChange fnExactPairingOfSpec)

/-- ITS FALSE NEIGHBOUR: 'it returns false'. Refute it at one input. -/
def fnExactPairingOfWrong : ChangeSpec := { name := "fnExactPairingOf", fn := fun _ => fun
  | [d1, d2, d3] => { results := [.lit (.bool false)], args := [d1, d2, d3] }
  | _ => none }
def FnExactPairingOfWrongFalsely : Prop := fnExactPairingOfRow.holds Tryz.pinned (OpenSpec.ofChange fnExactPairingOfWrong)

/-- 'laws.FnExactPairingWidth': WHATEVER THE INPUT: true; the input reads as it did. -/
def fnExactPairingWidthSpec : ChangeSpec := { name := "fnExactPairingWidth", fn := fun _ => fun
  | [d1, d2, d3] => { results := [.lit (.bool true)], args := [d1, d2, d3] }
  | _ => none }
def fnExactPairingWidthRow : OpenClaim := { program := "ytnkmgpmehkholaagreat", sum := "3eb7c4fb93e678f93e7e6327d56dbdb1bcaa6bf94c9c499633db4f1dfea23f90", func := "loop.example/g01004/laws.FnExactPairingWidth", spec := "fnExactPairingWidth", inPlace := ["math.sqrt"], apart := false }
def FnExactPairingWidthSaid : Prop := fnExactPairingWidthRow.holds Tryz.pinned (OpenSpec.ofChange fnExactPairingWidthSpec)

/-- ITS FALSE NEIGHBOUR: 'it returns false'. Refute it at one input. -/
def fnExactPairingWidthWrong : ChangeSpec := { name := "fnExactPairingWidth", fn := fun _ => fun
  | [d1, d2, d3] => { results := [.lit (.bool false)], args := [d1, d2, d3] }
  | _ => none }
def FnExactPairingWidthWrongFalsely : Prop := fnExactPairingWidthRow.holds Tryz.pinned (OpenSpec.ofChange fnExactPairingWidthWrong)

/-- 'laws.FnExactParallelogramGap': WHATEVER THE INPUT: true; the input reads as it did. -/
def fnExactParallelogramGapSpec : ChangeSpec := { name := "fnExactParallelogramGap", fn := fun _ => fun
  | [d1, d2, d3] => { results := [.lit (.bool true)], args := [d1, d2, d3] }
  | _ => none }
def fnExactParallelogramGapRow : OpenClaim := { program := "ytnkmgpmehkholaagreat", sum := "3eb7c4fb93e678f93e7e6327d56dbdb1bcaa6bf94c9c499633db4f1dfea23f90", func := "loop.example/g01004/laws.FnExactParallelogramGap", spec := "fnExactParallelogramGap", inPlace := ["math.sqrt"], apart := false }
def FnExactParallelogramGapSaid : Prop := fnExactParallelogramGapRow.holds Tryz.pinned (OpenSpec.ofChange fnExactParallelogramGapSpec)

/-- ITS FALSE NEIGHBOUR: 'it returns false'. Refute it at one input. -/
def fnExactParallelogramGapWrong : ChangeSpec := { name := "fnExactParallelogramGap", fn := fun _ => fun
  | [d1, d2, d3] => { results := [.lit (.bool false)], args := [d1, d2, d3] }
  | _ => none }
def FnExactParallelogramGapWrongFalsely : Prop := fnExactParallelogramGapRow.holds Tryz.pinned (OpenSpec.ofChange fnExactParallelogramGapWrong)

/- THE SECOND FORM. 'bulk': how many values and letters a reading holds, each counted each time it is reached (what is shared counts as often as it is met; a slice's spare places count too). A statement '..UptoSaid' is the law's where the arguments, and the package variables that the reading takes, are together of bulk at most 1048576: NARROWER than '..Said'. Prove '..Said' where nothing that the law and all that it calls make is longer than what came in: it says more and counts as full. Else prove '..UptoSaid'. A law counts once. -/
mutual
def uptoBulk {H : Type} : DataW H → Nat
  | .lit (.string bytes) => bytes.length + 1
  | .lit _ => 1
  | .nil => 1
  | .ptr d => uptoBulk d + 1
  | .slice elems spare => uptoBulkAll elems + uptoBulkAll spare + 1
  | .agg parts => uptoBulkAll parts + 1
  | .iface _ d => uptoBulk d + 1
  | .map entries => uptoBulkEntries entries + 1
  | .held _ => 1
def uptoBulkAll {H : Type} : List (DataW H) → Nat
  | [] => 0
  | d :: r => uptoBulk d + uptoBulkAll r
def uptoBulkEntries {H : Type} : List (Lit × DataW H) → Nat
  | [] => 0
  | x :: r => uptoBulkEntry x + uptoBulkEntries r
def uptoBulkEntry {H : Type} : Lit × DataW H → Nat
  | (.string bytes, d) => bytes.length + uptoBulk d + 1
  | (_, d) => uptoBulk d + 1
 end
def uptoSmall : (H : Type) → List (DataW H) → Bool := fun _ ds => decide (uptoBulkAll ds ≤ 1048576)
def OpenSpec.upto (s : _root_.Go.ChangeSpec) : _root_.Go.OpenSpec := { _root_.Go.OpenSpec.ofChange s with cond := some uptoSmall }

/-- 'laws.FnExactPairingOf', WHERE WHAT IT READS IS OF BULK AT MOST 1048576: true; the input reads as it did. -/
def fnExactPairingOfUptoRow : OpenClaim := { program := "ytnkmgpmehkholaagreat", sum := "3eb7c4fb93e678f93e7e6327d56dbdb1bcaa6bf94c9c499633db4f1dfea23f90", func := "loop.example/g01004/laws.FnExactPairingOf", spec := "fnExactPairingOf", inPlace := ["math.sqrt"], apart := false, narrowed := true }
def FnExactPairingOfUptoSaid : Prop := fnExactPairingOfUptoRow.holds Tryz.pinned (OpenSpec.upto fnExactPairingOfSpec)

/-- 'laws.FnExactPairingWidth', WHERE WHAT IT READS IS OF BULK AT MOST 1048576: true; the input reads as it did. -/
def fnExactPairingWidthUptoRow : OpenClaim := { program := "ytnkmgpmehkholaagreat", sum := "3eb7c4fb93e678f93e7e6327d56dbdb1bcaa6bf94c9c499633db4f1dfea23f90", func := "loop.example/g01004/laws.FnExactPairingWidth", spec := "fnExactPairingWidth", inPlace := ["math.sqrt"], apart := false, narrowed := true }
def FnExactPairingWidthUptoSaid : Prop := fnExactPairingWidthUptoRow.holds Tryz.pinned (OpenSpec.upto fnExactPairingWidthSpec)

/-- 'laws.FnExactParallelogramGap', WHERE WHAT IT READS IS OF BULK AT MOST 1048576: true; the input reads as it did. -/
def fnExactParallelogramGapUptoRow : OpenClaim := { program := "ytnkmgpmehkholaagreat", sum := "3eb7c4fb93e678f93e7e6327d56dbdb1bcaa6bf94c9c499633db4f1dfea23f90", func := "loop.example/g01004/laws.FnExactParallelogramGap", spec := "fnExactParallelogramGap", inPlace := ["math.sqrt"], apart := false, narrowed := true }
def FnExactParallelogramGapUptoSaid : Prop := fnExactParallelogramGapUptoRow.holds Tryz.pinned (OpenSpec.upto fnExactParallelogramGapSpec)

end Rows
end Go.Proofs.YtnkmgpmehkholaaGreat
