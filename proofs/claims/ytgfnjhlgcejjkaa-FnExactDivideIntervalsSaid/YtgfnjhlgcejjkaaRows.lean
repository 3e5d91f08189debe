/-
  No cell of these rows narrows 'for every input' (looked for: loops, veiled, ifaces, maps, wideKeys, modest, calm, conditions, laid).
  DERIVED. THE GIVEN ROWS OF THIS SEAT. 12 by the template 'for every input the law returns true; each argument reads behind the call as it read before'; 0 by the template 'total and deterministic' (their statements: YtgfnjhlgcejjkaaTotals.lean).
  GIVEN WITH THE SEED: the statements are not yours to turn. If you find one false, say at which input.
  Laid BY PROGRAM, IN A SANDBOX (cutbox-rows.mjs): the forced cells as the released guide's own fill.sh prints them over the translation b7b72c9f0e0b82a7… (all of the seat's roots in one cut). By AI agents, Wed Nov 11 2026. No macro, syntax, notation, axiom, sorry.
-/
import Derived.Test.YtgfnjhlgcejjkaaChecked
import GoSem.Claim
import GoSem.ClaimJoined
import GoSem.ClaimMapViews
import Derived.JoinedTies
import Derived.KernelRfl
namespace Go.Proofs.Ytgfnjhlgcejjkaa
/- THE CELL 'sum', in the pinned program and in every row, IS THE sha256 OF THE DUMP (.gsa) THAT YtgfnjhlgcejjkaaProg.lean LOADS. Nothing in Lean hashes anything: it is a label: what it is worth is what the hold of that sum in a sandbox is worth. -/
noncomputable def Try.pinned : Pinned := { name := "ytgfnjhlgcejjkaa", sum := "b7b72c9f0e0b82a7e1fa3b754c5ccd9acc78373838fdad78161d55a76ac408c7", checked := Try.checked }
namespace Rows
def none {H : Type} : Left H := { results := [], args := [] }

/-- 'laws.FnExactIsInterval': WHATEVER THE INPUT: true; the input reads as it did. -/
def fnExactIsIntervalSpec : ChangeSpec := { name := "fnExactIsInterval", fn := fun _ => fun
  | [d] => { results := [.lit (.bool true)], args := [d] }
  | _ => none }
def fnExactIsIntervalRow : OpenClaim := { program := "ytgfnjhlgcejjkaa", sum := "b7b72c9f0e0b82a7e1fa3b754c5ccd9acc78373838fdad78161d55a76ac408c7", func := "loop.example/g01004/laws.FnExactIsInterval", spec := "fnExactIsInterval", apart := false }
def FnExactIsIntervalSaid : Prop := fnExactIsIntervalRow.holds Try.pinned (OpenSpec.ofChange fnExactIsIntervalSpec)

/-- ITS FALSE NEIGHBOUR: 'it returns false'. Refute it at one input. -/
def fnExactIsIntervalWrong : ChangeSpec := { name := "fnExactIsInterval", fn := fun _ => fun
  | [d] => { results := [.lit (.bool false)], args := [d] }
  | _ => none }
def FnExactIsIntervalWrongFalsely : Prop := fnExactIsIntervalRow.holds Try.pinned (OpenSpec.ofChange fnExactIsIntervalWrong)

/-- 'laws.FnExactHasFraction': WHATEVER THE INPUT: true; the input reads as it did. -/
def fnExactHasFractionSpec : ChangeSpec := { name := "fnExactHasFraction", fn := fun _ => fun
  | [d1, d2] => { results := [.lit (.bool true)], args := [d1, d2] }
  | _ => none }
def fnExactHasFractionRow : OpenClaim := { program := "ytgfnjhlgcejjkaa", sum := "b7b72c9f0e0b82a7e1fa3b754c5ccd9acc78373838fdad78161d55a76ac408c7", func := "loop.example/g01004/laws.FnExactHasFraction", spec := "fnExactHasFraction", apart := false }
def FnExactHasFractionSaid : Prop := fnExactHasFractionRow.holds Try.pinned (OpenSpec.ofChange fnExactHasFractionSpec)

/-- ITS FALSE NEIGHBOUR: 'it returns false'. Refute it at one input. -/
def fnExactHasFractionWrong : ChangeSpec := { name := "fnExactHasFraction", fn := fun _ => fun
  | [d1, d2] => { results := [.lit (.bool false)], args := [d1, d2] }
  | _ => none }
def FnExactHasFractionWrongFalsely : Prop := fnExactHasFractionRow.holds Try.pinned (OpenSpec.ofChange fnExactHasFractionWrong)

/-- 'laws.FnExactSignOf': WHATEVER THE INPUT: true; the input reads as it did. -/
def fnExactSignOfSpec : ChangeSpec := { name := "fnExactSignOf", fn := fun _ => fun
  | [d] => { results := [.lit (.bool true)], args := [d] }
  | _ => none }
def fnExactSignOfRow : OpenClaim := { program := "ytgfnjhlgcejjkaa", sum := "b7b72c9f0e0b82a7e1fa3b754c5ccd9acc78373838fdad78161d55a76ac408c7", func := "loop.example/g01004/laws.FnExactSignOf", spec := "fnExactSignOf", apart := false }
def FnExactSignOfSaid : Prop := fnExactSignOfRow.holds Try.pinned (OpenSpec.ofChange fnExactSignOfSpec)

/-- ITS FALSE NEIGHBOUR: 'it returns false'. Refute it at one input. -/
def fnExactSignOfWrong : ChangeSpec := { name := "fnExactSignOf", fn := fun _ => fun
  | [d] => { results := [.lit (.bool false)], args := [d] }
  | _ => none }
def FnExactSignOfWrongFalsely : Prop := fnExactSignOfRow.holds Try.pinned (OpenSpec.ofChange fnExactSignOfWrong)

/-- 'laws.FnExactWidthOf': WHATEVER THE INPUT: true; the input reads as it did. -/
def fnExactWidthOfSpec : ChangeSpec := { name := "fnExactWidthOf", fn := fun _ => fun
  | [d] => { results := [.lit (.bool true)], args := [d] }
  | _ => none }
def fnExactWidthOfRow : OpenClaim := { program := "ytgfnjhlgcejjkaa", sum := "b7b72c9f0e0b82a7e1fa3b754c5ccd9acc78373838fdad78161d55a76ac408c7", func := "loop.example/g01004/laws.FnExactWidthOf", spec := "fnExactWidthOf", apart := false }
def FnExactWidthOfSaid : Prop := fnExactWidthOfRow.holds Try.pinned (OpenSpec.ofChange fnExactWidthOfSpec)

/-- ITS FALSE NEIGHBOUR: 'it returns false'. Refute it at one input. -/
def fnExactWidthOfWrong : ChangeSpec := { name := "fnExactWidthOf", fn := fun _ => fun
  | [d] => { results := [.lit (.bool false)], args := [d] }
  | _ => none }
def FnExactWidthOfWrongFalsely : Prop := fnExactWidthOfRow.holds Try.pinned (OpenSpec.ofChange fnExactWidthOfWrong)

/-- 'laws.FnExactIntervalOf': WHATEVER THE INPUT: true; the input reads as it did. -/
def fnExactIntervalOfSpec : ChangeSpec := { name := "fnExactIntervalOf", fn := fun _ => fun
  | [d1, d2] => { results := [.lit (.bool true)], args := [d1, d2] }
  | _ => none }
def fnExactIntervalOfRow : OpenClaim := { program := "ytgfnjhlgcejjkaa", sum := "b7b72c9f0e0b82a7e1fa3b754c5ccd9acc78373838fdad78161d55a76ac408c7", func := "loop.example/g01004/laws.FnExactIntervalOf", spec := "fnExactIntervalOf", apart := false }
def FnExactIntervalOfSaid : Prop := fnExactIntervalOfRow.holds Try.pinned (OpenSpec.ofChange fnExactIntervalOfSpec)

/-- ITS FALSE NEIGHBOUR: 'it returns false'. Refute it at one input. -/
def fnExactIntervalOfWrong : ChangeSpec := { name := "fnExactIntervalOf", fn := fun _ => fun
  | [d1, d2] => { results := [.lit (.bool false)], args := [d1, d2] }
  | _ => none }
def FnExactIntervalOfWrongFalsely : Prop := fnExactIntervalOfRow.holds Try.pinned (OpenSpec.ofChange fnExactIntervalOfWrong)

/-- 'laws.FnExactAddIntervals': WHATEVER THE INPUT: true; the input reads as it did. -/
def fnExactAddIntervalsSpec : ChangeSpec := { name := "fnExactAddIntervals", fn := fun _ => fun
  | [d1, d2] => { results := [.lit (.bool true)], args := [d1, d2] }
  | _ => none }
def fnExactAddIntervalsRow : OpenClaim := { program := "ytgfnjhlgcejjkaa", sum := "b7b72c9f0e0b82a7e1fa3b754c5ccd9acc78373838fdad78161d55a76ac408c7", func := "loop.example/g01004/laws.FnExactAddIntervals", spec := "fnExactAddIntervals", apart := false }
def FnExactAddIntervalsSaid : Prop := fnExactAddIntervalsRow.holds Try.pinned (OpenSpec.ofChange fnExactAddIntervalsSpec)

/-- ITS FALSE NEIGHBOUR: 'it returns false'. Refute it at one input. -/
def fnExactAddIntervalsWrong : ChangeSpec := { name := "fnExactAddIntervals", fn := fun _ => fun
  | [d1, d2] => { results := [.lit (.bool false)], args := [d1, d2] }
  | _ => none }
def FnExactAddIntervalsWrongFalsely : Prop := fnExactAddIntervalsRow.holds Try.pinned (OpenSpec.ofChange fnExactAddIntervalsWrong)

/-- 'laws.FnExactSubtractIntervals': WHATEVER THE INPUT: true; the input reads as it did. -/
def fnExactSubtractIntervalsSpec : ChangeSpec := { name := "fnExactSubtractIntervals", fn := fun _ => fun
  | [d1, d2] => { results := [.lit (.bool true)], args := [d1, d2] }
  | _ => none }
def fnExactSubtractIntervalsRow : OpenClaim := { program := "ytgfnjhlgcejjkaa", sum := "b7b72c9f0e0b82a7e1fa3b754c5ccd9acc78373838fdad78161d55a76ac408c7", func := "loop.example/g01004/laws.FnExactSubtractIntervals", spec := "fnExactSubtractIntervals", apart := false }
def FnExactSubtractIntervalsSaid : Prop := fnExactSubtractIntervalsRow.holds Try.pinned (OpenSpec.ofChange fnExactSubtractIntervalsSpec)

/-- ITS FALSE NEIGHBOUR: 'it returns false'. Refute it at one input. -/
def fnExactSubtractIntervalsWrong : ChangeSpec := { name := "fnExactSubtractIntervals", fn := fun _ => fun
  | [d1, d2] => { results := [.lit (.bool false)], args := [d1, d2] }
  | _ => none }
def FnExactSubtractIntervalsWrongFalsely : Prop := fnExactSubtractIntervalsRow.holds Try.pinned (OpenSpec.ofChange fnExactSubtractIntervalsWrong)

/-- 'laws.FnExactHullOf': WHATEVER THE INPUT: true; the input reads as it did. -/
def fnExactHullOfSpec : ChangeSpec := { name := "fnExactHullOf", fn := fun _ => fun
  | [d1, d2] => { results := [.lit (.bool true)], args := [d1, d2] }
  | _ => none }
def fnExactHullOfRow : OpenClaim := { program := "ytgfnjhlgcejjkaa", sum := "b7b72c9f0e0b82a7e1fa3b754c5ccd9acc78373838fdad78161d55a76ac408c7", func := "loop.example/g01004/laws.FnExactHullOf", spec := "fnExactHullOf", apart := false }
def FnExactHullOfSaid : Prop := fnExactHullOfRow.holds Try.pinned (OpenSpec.ofChange fnExactHullOfSpec)

/-- ITS FALSE NEIGHBOUR: 'it returns false'. Refute it at one input. -/
def fnExactHullOfWrong : ChangeSpec := { name := "fnExactHullOf", fn := fun _ => fun
  | [d1, d2] => { results := [.lit (.bool false)], args := [d1, d2] }
  | _ => none }
def FnExactHullOfWrongFalsely : Prop := fnExactHullOfRow.holds Try.pinned (OpenSpec.ofChange fnExactHullOfWrong)

/-- 'laws.FnExactCommonPart': WHATEVER THE INPUT: true; the input reads as it did. -/
def fnExactCommonPartSpec : ChangeSpec := { name := "fnExactCommonPart", fn := fun _ => fun
  | [d1, d2] => { results := [.lit (.bool true)], args := [d1, d2] }
  | _ => none }
def fnExactCommonPartRow : OpenClaim := { program := "ytgfnjhlgcejjkaa", sum := "b7b72c9f0e0b82a7e1fa3b754c5ccd9acc78373838fdad78161d55a76ac408c7", func := "loop.example/g01004/laws.FnExactCommonPart", spec := "fnExactCommonPart", apart := false }
def FnExactCommonPartSaid : Prop := fnExactCommonPartRow.holds Try.pinned (OpenSpec.ofChange fnExactCommonPartSpec)

/-- ITS FALSE NEIGHBOUR: 'it returns false'. Refute it at one input. -/
def fnExactCommonPartWrong : ChangeSpec := { name := "fnExactCommonPart", fn := fun _ => fun
  | [d1, d2] => { results := [.lit (.bool false)], args := [d1, d2] }
  | _ => none }
def FnExactCommonPartWrongFalsely : Prop := fnExactCommonPartRow.holds Try.pinned (OpenSpec.ofChange fnExactCommonPartWrong)

/-- 'laws.FnExactMultiplyIntervals': WHATEVER THE INPUT: true; the input reads as it did. -/
def fnExactMultiplyIntervalsSpec : ChangeSpec := { name := "fnExactMultiplyIntervals", fn := fun _ => fun
  | [d1, d2] => { results := [.lit (.bool true)], args := [d1, d2] }
  | _ => none }
def fnExactMultiplyIntervalsRow : OpenClaim := { program := "ytgfnjhlgcejjkaa", sum := "b7b72c9f0e0b82a7e1fa3b754c5ccd9acc78373838fdad78161d55a76ac408c7", func := "loop.example/g01004/laws.FnExactMultiplyIntervals", spec := "fnExactMultiplyIntervals", apart := false }
def FnExactMultiplyIntervalsSaid : Prop := fnExactMultiplyIntervalsRow.holds Try.pinned (OpenSpec.ofChange fnExactMultiplyIntervalsSpec)

/-- ITS FALSE NEIGHBOUR: 'it returns false'. Refute it at one input. -/
def fnExactMultiplyIntervalsWrong : ChangeSpec := { name := "fnExactMultiplyIntervals", fn := fun _ => fun
  | [d1, d2] => { results := [.lit (.bool false)], args := [d1, d2] }
  | _ => none }
def FnExactMultiplyIntervalsWrongFalsely : Prop := fnExactMultiplyIntervalsRow.holds Try.pinned (OpenSpec.ofChange fnExactMultiplyIntervalsWrong)

/-- 'laws.FnExactDivideIntervals': WHATEVER THE INPUT: true; the input reads as it did. -/
def fnExactDivideIntervalsSpec : ChangeSpec := { name := "fnExactDivideIntervals", fn := fun _ => fun
  | [d1, d2] => { results := [.lit (.bool true)], args := [d1, d2] }
  | _ => none }
def fnExactDivideIntervalsRow : OpenClaim := { program := "ytgfnjhlgcejjkaa", sum := "b7b72c9f0e0b82a7e1fa3b754c5ccd9acc78373838fdad78161d55a76ac408c7", func := "loop.example/g01004/laws.FnExactDivideIntervals", spec := "fnExactDivideIntervals", apart := false }
def FnExactDivideIntervalsSaid : Prop := fnExactDivideIntervalsRow.holds Try.pinned (OpenSpec.ofChange fnExactDivideIntervalsSpec)

/-- ITS FALSE NEIGHBOUR: 'it returns false'. Refute it at one input. -/
def fnExactDivideIntervalsWrong : ChangeSpec := { name := "fnExactDivideIntervals", fn := fun _ => fun
  | [d1, d2] => { results := [.lit (.bool false)], args := [d1, d2] }
  | _ => none }
def FnExactDivideIntervalsWrongFalsely : Prop := fnExactDivideIntervalsRow.holds Try.pinned (OpenSpec.ofChange fnExactDivideIntervalsWrong)

/-- 'laws.FnIntervals': WHATEVER THE INPUT: true; the input reads as it did. -/
def fnIntervalsSpec : ChangeSpec := { name := "fnIntervals", fn := fun _ => fun
  | [d1, d2] => { results := [.lit (.bool true)], args := [d1, d2] }
  | _ => none }
def fnIntervalsRow : OpenClaim := { program := "ytgfnjhlgcejjkaa", sum := "b7b72c9f0e0b82a7e1fa3b754c5ccd9acc78373838fdad78161d55a76ac408c7", func := "loop.example/g01004/laws.FnIntervals", spec := "fnIntervals", apart := false }
def FnIntervalsSaid : Prop := fnIntervalsRow.holds Try.pinned (OpenSpec.ofChange fnIntervalsSpec)

/-- ITS FALSE NEIGHBOUR: 'it returns false'. Refute it at one input. -/
def fnIntervalsWrong : ChangeSpec := { name := "fnIntervals", fn := fun _ => fun
  | [d1, d2] => { results := [.lit (.bool false)], args := [d1, d2] }
  | _ => none }
def FnIntervalsWrongFalsely : Prop := fnIntervalsRow.holds Try.pinned (OpenSpec.ofChange fnIntervalsWrong)

/- THE SECOND FORM. 'bulk': how many values and letters a reading holds, each counted each time it is reached (what is shared counts as often as it is met; a slice's spare places count too). A statement '..UptoSaid' is the law's where the arguments, and the package variables that the reading takes, are together of bulk at most 1048576: NARROWER than '..Said'. Prove '..Said' where nothing that the law and all that it calls make is longer than what came in: it says more and counts as full. Else prove '..UptoSaid'. A law counts once. -/
mutual
def uptoBulk {H : Type} : DataW H → Nat
  | .lit (.string bytes) => bytes.length + 1
  | .lit _ => 1
  | .nil => 1
  | .ptr d => uptoBulk d + 1
  | .slice elems spare => uptoBulkAll elems + uptoBulkAll spare + 1
  | .agg parts => uptoBulkAll parts + 1
  | .iface _ d => uptoBulk d + 1
  | .map entries => uptoBulkEntries entries + 1
  | .held _ => 1
def uptoBulkAll {H : Type} : List (DataW H) → Nat
  | [] => 0
  | d :: r => uptoBulk d + uptoBulkAll r
def uptoBulkEntries {H : Type} : List (Lit × DataW H) → Nat
  | [] => 0
  | x :: r => uptoBulkEntry x + uptoBulkEntries r
def uptoBulkEntry {H : Type} : Lit × DataW H → Nat
  | (.string bytes, d) => bytes.length + uptoBulk d + 1
  | (_, d) => uptoBulk d + 1
 end
def uptoSmall : (H : Type) → List (DataW H) → Bool := fun _ ds => decide (uptoBulkAll ds ≤ 1048576)
def OpenSpec.upto (s : _root_.Go.ChangeSpec) : _root_.Go.OpenSpec := { _root_.Go.OpenSpec.ofChange s with cond := some uptoSmall }

/-- 'laws.FnExactIsInterval', WHERE WHAT IT READS IS OF BULK AT MOST 1048576: true; the input reads as it did. -/
def fnExactIsIntervalUptoRow : OpenClaim := { program := "ytgfnjhlgcejjkaa", sum := "b7b72c9f0e0b82a7e1fa3b754c5ccd9acc78373838fdad78161d55a76ac408c7", func := "loop.example/g01004/laws.FnExactIsInterval", spec := "fnExactIsInterval", apart := false, narrowed := true }
def FnExactIsIntervalUptoSaid : Prop := fnExactIsIntervalUptoRow.holds Try.pinned (OpenSpec.upto fnExactIsIntervalSpec)

/-- 'laws.FnExactHasFraction', WHERE WHAT IT READS IS OF BULK AT MOST 1048576: true; the input reads as it did. -/
def fnExactHasFractionUptoRow : OpenClaim := { program := "ytgfnjhlgcejjkaa", sum := "b7b72c9f0e0b82a7e1fa3b754c5ccd9acc78373838fdad78161d55a76ac408c7", func := "loop.example/g01004/laws.FnExactHasFraction", spec := "fnExactHasFraction", apart := false, narrowed := true }
def FnExactHasFractionUptoSaid : Prop := fnExactHasFractionUptoRow.holds Try.pinned (OpenSpec.upto fnExactHasFractionSpec)

/-- 'laws.FnExactSignOf', WHERE WHAT IT READS IS OF BULK AT MOST 1048576: true; the input reads as it did. -/
def fnExactSignOfUptoRow : OpenClaim := { program := "ytgfnjhlgcejjkaa", sum := "b7b72c9f0e0b82a7e1fa3b754c5ccd9acc78373838fdad78161d55a76ac408c7", func := "loop.example/g01004/laws.FnExactSignOf", spec := "fnExactSignOf", apart := false, narrowed := true }
def FnExactSignOfUptoSaid : Prop := fnExactSignOfUptoRow.holds Try.pinned (OpenSpec.upto fnExactSignOfSpec)

/-- 'laws.FnExactWidthOf', WHERE WHAT IT READS IS OF BULK AT MOST 1048576: true; the input reads as it did. -/
def fnExactWidthOfUptoRow : OpenClaim := { program := "ytgfnjhlgcejjkaa", sum := "b7b72c9f0e0b82a7e1fa3b754c5ccd9acc78373838fdad78161d55a76ac408c7", func := "loop.example/g01004/laws.FnExactWidthOf", spec := "fnExactWidthOf", apart := false, narrowed := true }
def FnExactWidthOfUptoSaid : Prop := fnExactWidthOfUptoRow.holds Try.pinned (OpenSpec.upto fnExactWidthOfSpec)

/-- 'laws.FnExactIntervalOf', WHERE WHAT IT READS IS OF BULK AT MOST 1048576: true; the input reads as it did. -/
def fnExactIntervalOfUptoRow : OpenClaim := { program := "ytgfnjhlgcejjkaa", sum := "b7b72c9f0e0b82a7e1fa3b754c5ccd9acc78373838fdad78161d55a76ac408c7", func := "loop.example/g01004/laws.FnExactIntervalOf", spec := "fnExactIntervalOf", apart := false, narrowed := true }
def FnExactIntervalOfUptoSaid : Prop := fnExactIntervalOfUptoRow.holds Try.pinned (OpenSpec.upto fnExactIntervalOfSpec)

/-- 'laws.FnExactAddIntervals', WHERE WHAT IT READS IS OF BULK AT MOST 1048576: true; the input reads as it did. -/
def fnExactAddIntervalsUptoRow : OpenClaim := { program := "ytgfnjhlgcejjkaa", sum := "b7b72c9f0e0b82a7e1fa3b754c5ccd9acc78373838fdad78161d55a76ac408c7", func := "loop.example/g01004/laws.FnExactAddIntervals", spec := "fnExactAddIntervals", apart := false, narrowed := true }
def FnExactAddIntervalsUptoSaid : Prop := fnExactAddIntervalsUptoRow.holds Try.pinned (OpenSpec.upto fnExactAddIntervalsSpec)

/-- 'laws.FnExactSubtractIntervals', WHERE WHAT IT READS IS OF BULK AT MOST 1048576: true; the input reads as it did. -/
def fnExactSubtractIntervalsUptoRow : OpenClaim := { program := "ytgfnjhlgcejjkaa", sum := "b7b72c9f0e0b82a7e1fa3b754c5ccd9acc78373838fdad78161d55a76ac408c7", func := "loop.example/g01004/laws.FnExactSubtractIntervals", spec := "fnExactSubtractIntervals", apart := false, narrowed := true }
def FnExactSubtractIntervalsUptoSaid : Prop := fnExactSubtractIntervalsUptoRow.holds Try.pinned (OpenSpec.upto fnExactSubtractIntervalsSpec)

/-- 'laws.FnExactHullOf', WHERE WHAT IT READS IS OF BULK AT MOST 1048576: true; the input reads as it did. -/
def fnExactHullOfUptoRow : OpenClaim := { program := "ytgfnjhlgcejjkaa", sum := "b7b72c9f0e0b82a7e1fa3b754c5ccd9acc78373838fdad78161d55a76ac408c7", func := "loop.example/g01004/laws.FnExactHullOf", spec := "fnExactHullOf", apart := false, narrowed := true }
def FnExactHullOfUptoSaid : Prop := fnExactHullOfUptoRow.holds Try.pinned (OpenSpec.upto fnExactHullOfSpec)

/-- 'laws.FnExactCommonPart', WHERE WHAT IT READS IS OF BULK AT MOST 1048576: true; the input reads as it did. -/
def fnExactCommonPartUptoRow : OpenClaim := { program := "ytgfnjhlgcejjkaa", sum := "b7b72c9f0e0b82a7e1fa3b754c5ccd9acc78373838fdad78161d55a76ac408c7", func := "loop.example/g01004/laws.FnExactCommonPart", spec := "fnExactCommonPart", apart := false, narrowed := true }
def FnExactCommonPartUptoSaid : Prop := fnExactCommonPartUptoRow.holds Try.pinned (OpenSpec.upto fnExactCommonPartSpec)

/-- 'laws.FnExactMultiplyIntervals', WHERE WHAT IT READS IS OF BULK AT MOST 1048576: true; the input reads as it did. -/
def fnExactMultiplyIntervalsUptoRow : OpenClaim := { program := "ytgfnjhlgcejjkaa", sum := "b7b72c9f0e0b82a7e1fa3b754c5ccd9acc78373838fdad78161d55a76ac408c7", func := "loop.example/g01004/laws.FnExactMultiplyIntervals", spec := "fnExactMultiplyIntervals", apart := false, narrowed := true }
def FnExactMultiplyIntervalsUptoSaid : Prop := fnExactMultiplyIntervalsUptoRow.holds Try.pinned (OpenSpec.upto fnExactMultiplyIntervalsSpec)

/-- 'laws.FnExactDivideIntervals', WHERE WHAT IT READS IS OF BULK AT MOST 1048576: true; the input reads as it did. -/
def fnExactDivideIntervalsUptoRow : OpenClaim := { program := "ytgfnjhlgcejjkaa", sum := "b7b72c9f0e0b82a7e1fa3b754c5ccd9acc78373838fdad78161d55a76ac408c7", func := "loop.example/g01004/laws.FnExactDivideIntervals", spec := "fnExactDivideIntervals", apart := false, narrowed := true }
def FnExactDivideIntervalsUptoSaid : Prop := fnExactDivideIntervalsUptoRow.holds Try.pinned (OpenSpec.upto fnExactDivideIntervalsSpec)

/-- 'laws.FnIntervals', WHERE WHAT IT READS IS OF BULK AT MOST 1048576: true; the input reads as it did. -/
def fnIntervalsUptoRow : OpenClaim := { program := "ytgfnjhlgcejjkaa", sum := "b7b72c9f0e0b82a7e1fa3b754c5ccd9acc78373838fdad78161d55a76ac408c7", func := "loop.example/g01004/laws.FnIntervals", spec := "fnIntervals", apart := false, narrowed := true }
def FnIntervalsUptoSaid : Prop := fnIntervalsUptoRow.holds Try.pinned (OpenSpec.upto fnIntervalsSpec)

end Rows
end Go.Proofs.Ytgfnjhlgcejjkaa
