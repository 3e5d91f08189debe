/-
  No cell of these rows narrows 'for every input' (looked for: loops, veiled, ifaces, maps, wideKeys, modest, calm, conditions, laid).
  DERIVED. THE GIVEN ROWS OF THIS SEAT. 10 by the template 'for every input the law returns true; each argument reads behind the call as it read before'; 0 by the template 'total and deterministic' (their statements: YtnkdgcjegjccbaaTotals.lean).
  GIVEN WITH THE SEED: the statements are not yours to turn. If you find one false, say at which input.
  Laid BY PROGRAM, IN A SANDBOX (cutbox-rows.mjs): the forced cells as the released guide's own fill.sh prints them over the translation df22b298e8059de2… (all of the seat's roots in one cut). By AI agents, Wed Nov 11 2026. No macro, syntax, notation, axiom, sorry.
-/
import Derived.Test.YtnkdgcjegjccbaaChecked
import GoSem.Claim
import GoSem.ClaimJoined
import GoSem.ClaimMapViews
import Derived.JoinedTies
import Derived.KernelRfl
namespace Go.Proofs.Ytnkdgcjegjccbaa
/- THE CELL 'sum', in the pinned program and in every row, IS THE sha256 OF THE DUMP (.gsa) THAT YtnkdgcjegjccbaaProg.lean LOADS. Nothing in Lean hashes anything: it is a label: what it is worth is what the hold of that sum in a sandbox is worth. -/
noncomputable def Try.pinned : Pinned := { name := "ytnkdgcjegjccbaa", sum := "df22b298e8059de2f77b9f3858ebd46b62fdc2cc65e0b8bc56f1337cd44c083b", checked := Try.checked }
namespace Rows
def none {H : Type} : Left H := { results := [], args := [] }

/-- 'laws.FnExactCubicAtFraction': WHATEVER THE INPUT: true; the input reads as it did. -/
def fnExactCubicAtFractionSpec : ChangeSpec := { name := "fnExactCubicAtFraction", fn := fun _ => fun
  | [d1, d2] => { results := [.lit (.bool true)], args := [d1, d2] }
  | _ => none }
def fnExactCubicAtFractionRow : OpenClaim := { program := "ytnkdgcjegjccbaa", sum := "df22b298e8059de2f77b9f3858ebd46b62fdc2cc65e0b8bc56f1337cd44c083b", func := "loop.example/g01004/laws.FnExactCubicAtFraction", spec := "fnExactCubicAtFraction", apart := false }
def FnExactCubicAtFractionSaid : Prop := fnExactCubicAtFractionRow.holds Try.pinned (OpenSpec.ofChange fnExactCubicAtFractionSpec)

/-- ITS FALSE NEIGHBOUR: 'it returns false'. Refute it at one input. -/
def fnExactCubicAtFractionWrong : ChangeSpec := { name := "fnExactCubicAtFraction", fn := fun _ => fun
  | [d1, d2] => { results := [.lit (.bool false)], args := [d1, d2] }
  | _ => none }
def FnExactCubicAtFractionWrongFalsely : Prop := fnExactCubicAtFractionRow.holds Try.pinned (OpenSpec.ofChange fnExactCubicAtFractionWrong)

/-- 'laws.FnExactIsTwoPoint': WHATEVER THE INPUT: true; the input reads as it did. -/
def fnExactIsTwoPointSpec : ChangeSpec := { name := "fnExactIsTwoPoint", fn := fun _ => fun
  | [d1, d2, d3] => { results := [.lit (.bool true)], args := [d1, d2, d3] }
  | _ => none }
def fnExactIsTwoPointRow : OpenClaim := { program := "ytnkdgcjegjccbaa", sum := "df22b298e8059de2f77b9f3858ebd46b62fdc2cc65e0b8bc56f1337cd44c083b", func := "loop.example/g01004/laws.FnExactIsTwoPoint", spec := "fnExactIsTwoPoint", apart := false }
def FnExactIsTwoPointSaid : Prop := fnExactIsTwoPointRow.holds Try.pinned (OpenSpec.ofChange fnExactIsTwoPointSpec)

/-- ITS FALSE NEIGHBOUR: 'it returns false'. Refute it at one input. -/
def fnExactIsTwoPointWrong : ChangeSpec := { name := "fnExactIsTwoPoint", fn := fun _ => fun
  | [d1, d2, d3] => { results := [.lit (.bool false)], args := [d1, d2, d3] }
  | _ => none }
def FnExactIsTwoPointWrongFalsely : Prop := fnExactIsTwoPointRow.holds Try.pinned (OpenSpec.ofChange fnExactIsTwoPointWrong)

/-- 'laws.FnExactImageOf': WHATEVER THE INPUT: true; the input reads as it did. -/
def fnExactImageOfSpec : ChangeSpec := { name := "fnExactImageOf", fn := fun _ => fun
  | [d1, d2, d3] => { results := [.lit (.bool true)], args := [d1, d2, d3] }
  | _ => none }
def fnExactImageOfRow : OpenClaim := { program := "ytnkdgcjegjccbaa", sum := "df22b298e8059de2f77b9f3858ebd46b62fdc2cc65e0b8bc56f1337cd44c083b", func := "loop.example/g01004/laws.FnExactImageOf", spec := "fnExactImageOf", apart := false }
def FnExactImageOfSaid : Prop := fnExactImageOfRow.holds Try.pinned (OpenSpec.ofChange fnExactImageOfSpec)

/-- ITS FALSE NEIGHBOUR: 'it returns false'. Refute it at one input. -/
def fnExactImageOfWrong : ChangeSpec := { name := "fnExactImageOf", fn := fun _ => fun
  | [d1, d2, d3] => { results := [.lit (.bool false)], args := [d1, d2, d3] }
  | _ => none }
def FnExactImageOfWrongFalsely : Prop := fnExactImageOfRow.holds Try.pinned (OpenSpec.ofChange fnExactImageOfWrong)

/-- 'laws.FnExactBackImage': WHATEVER THE INPUT: true; the input reads as it did. -/
def fnExactBackImageSpec : ChangeSpec := { name := "fnExactBackImage", fn := fun _ => fun
  | [d1, d2, d3] => { results := [.lit (.bool true)], args := [d1, d2, d3] }
  | _ => none }
def fnExactBackImageRow : OpenClaim := { program := "ytnkdgcjegjccbaa", sum := "df22b298e8059de2f77b9f3858ebd46b62fdc2cc65e0b8bc56f1337cd44c083b", func := "loop.example/g01004/laws.FnExactBackImage", spec := "fnExactBackImage", apart := false }
def FnExactBackImageSaid : Prop := fnExactBackImageRow.holds Try.pinned (OpenSpec.ofChange fnExactBackImageSpec)

/-- ITS FALSE NEIGHBOUR: 'it returns false'. Refute it at one input. -/
def fnExactBackImageWrong : ChangeSpec := { name := "fnExactBackImage", fn := fun _ => fun
  | [d1, d2, d3] => { results := [.lit (.bool false)], args := [d1, d2, d3] }
  | _ => none }
def FnExactBackImageWrongFalsely : Prop := fnExactBackImageRow.holds Try.pinned (OpenSpec.ofChange fnExactBackImageWrong)

/-- 'laws.FnExactHeightWidth': WHATEVER THE INPUT: true; the input reads as it did. -/
def fnExactHeightWidthSpec : ChangeSpec := { name := "fnExactHeightWidth", fn := fun _ => fun
  | [d1, d2] => { results := [.lit (.bool true)], args := [d1, d2] }
  | _ => none }
def fnExactHeightWidthRow : OpenClaim := { program := "ytnkdgcjegjccbaa", sum := "df22b298e8059de2f77b9f3858ebd46b62fdc2cc65e0b8bc56f1337cd44c083b", func := "loop.example/g01004/laws.FnExactHeightWidth", spec := "fnExactHeightWidth", apart := false }
def FnExactHeightWidthSaid : Prop := fnExactHeightWidthRow.holds Try.pinned (OpenSpec.ofChange fnExactHeightWidthSpec)

/-- ITS FALSE NEIGHBOUR: 'it returns false'. Refute it at one input. -/
def fnExactHeightWidthWrong : ChangeSpec := { name := "fnExactHeightWidth", fn := fun _ => fun
  | [d1, d2] => { results := [.lit (.bool false)], args := [d1, d2] }
  | _ => none }
def FnExactHeightWidthWrongFalsely : Prop := fnExactHeightWidthRow.holds Try.pinned (OpenSpec.ofChange fnExactHeightWidthWrong)

/-- 'laws.FnExactLiftsModulo': WHATEVER THE INPUT: true; the input reads as it did. -/
def fnExactLiftsModuloSpec : ChangeSpec := { name := "fnExactLiftsModulo", fn := fun _ => fun
  | [d1, d2, d3, d4, d5] => { results := [.lit (.bool true)], args := [d1, d2, d3, d4, d5] }
  | _ => none }
def fnExactLiftsModuloRow : OpenClaim := { program := "ytnkdgcjegjccbaa", sum := "df22b298e8059de2f77b9f3858ebd46b62fdc2cc65e0b8bc56f1337cd44c083b", func := "loop.example/g01004/laws.FnExactLiftsModulo", spec := "fnExactLiftsModulo", unfollowed := true, recurses := true, apart := false }
def FnExactLiftsModuloSaid : Prop := fnExactLiftsModuloRow.holds Try.pinned (OpenSpec.ofChange fnExactLiftsModuloSpec)

/-- ITS FALSE NEIGHBOUR: 'it returns false'. Refute it at one input. -/
def fnExactLiftsModuloWrong : ChangeSpec := { name := "fnExactLiftsModulo", fn := fun _ => fun
  | [d1, d2, d3, d4, d5] => { results := [.lit (.bool false)], args := [d1, d2, d3, d4, d5] }
  | _ => none }
def FnExactLiftsModuloWrongFalsely : Prop := fnExactLiftsModuloRow.holds Try.pinned (OpenSpec.ofChange fnExactLiftsModuloWrong)

/-- 'laws.FnExactCountPossible': WHATEVER THE INPUT: true; the input reads as it did. -/
def fnExactCountPossibleSpec : ChangeSpec := { name := "fnExactCountPossible", fn := fun _ => fun
  | [d1, d2, d3] => { results := [.lit (.bool true)], args := [d1, d2, d3] }
  | _ => none }
def fnExactCountPossibleRow : OpenClaim := { program := "ytnkdgcjegjccbaa", sum := "df22b298e8059de2f77b9f3858ebd46b62fdc2cc65e0b8bc56f1337cd44c083b", func := "loop.example/g01004/laws.FnExactCountPossible", spec := "fnExactCountPossible", unfollowed := true, recurses := true, apart := false }
def FnExactCountPossibleSaid : Prop := fnExactCountPossibleRow.holds Try.pinned (OpenSpec.ofChange fnExactCountPossibleSpec)

/-- ITS FALSE NEIGHBOUR: 'it returns false'. Refute it at one input. -/
def fnExactCountPossibleWrong : ChangeSpec := { name := "fnExactCountPossible", fn := fun _ => fun
  | [d1, d2, d3] => { results := [.lit (.bool false)], args := [d1, d2, d3] }
  | _ => none }
def FnExactCountPossibleWrongFalsely : Prop := fnExactCountPossibleRow.holds Try.pinned (OpenSpec.ofChange fnExactCountPossibleWrong)

/-- 'laws.FnExactFactorOut': WHATEVER THE INPUT: true; the input reads as it did. -/
def fnExactFactorOutSpec : ChangeSpec := { name := "fnExactFactorOut", fn := fun _ => fun
  | [d1, d2] => { results := [.lit (.bool true)], args := [d1, d2] }
  | _ => none }
def fnExactFactorOutRow : OpenClaim := { program := "ytnkdgcjegjccbaa", sum := "df22b298e8059de2f77b9f3858ebd46b62fdc2cc65e0b8bc56f1337cd44c083b", func := "loop.example/g01004/laws.FnExactFactorOut", spec := "fnExactFactorOut", unfollowed := true, recurses := true, apart := false }
def FnExactFactorOutSaid : Prop := fnExactFactorOutRow.holds Try.pinned (OpenSpec.ofChange fnExactFactorOutSpec)

/-- ITS FALSE NEIGHBOUR: 'it returns false'. Refute it at one input. -/
def fnExactFactorOutWrong : ChangeSpec := { name := "fnExactFactorOut", fn := fun _ => fun
  | [d1, d2] => { results := [.lit (.bool false)], args := [d1, d2] }
  | _ => none }
def FnExactFactorOutWrongFalsely : Prop := fnExactFactorOutRow.holds Try.pinned (OpenSpec.ofChange fnExactFactorOutWrong)

/-- 'laws.FnExactIsIrreducibleCubic': WHATEVER THE INPUT: true; the input reads as it did. -/
def fnExactIsIrreducibleCubicSpec : ChangeSpec := { name := "fnExactIsIrreducibleCubic", fn := fun _ => fun
  | [d] => { results := [.lit (.bool true)], args := [d] }
  | _ => none }
def fnExactIsIrreducibleCubicRow : OpenClaim := { program := "ytnkdgcjegjccbaa", sum := "df22b298e8059de2f77b9f3858ebd46b62fdc2cc65e0b8bc56f1337cd44c083b", func := "loop.example/g01004/laws.FnExactIsIrreducibleCubic", spec := "fnExactIsIrreducibleCubic", unfollowed := true, recurses := true, apart := false }
def FnExactIsIrreducibleCubicSaid : Prop := fnExactIsIrreducibleCubicRow.holds Try.pinned (OpenSpec.ofChange fnExactIsIrreducibleCubicSpec)

/-- ITS FALSE NEIGHBOUR: 'it returns false'. Refute it at one input. -/
def fnExactIsIrreducibleCubicWrong : ChangeSpec := { name := "fnExactIsIrreducibleCubic", fn := fun _ => fun
  | [d] => { results := [.lit (.bool false)], args := [d] }
  | _ => none }
def FnExactIsIrreducibleCubicWrongFalsely : Prop := fnExactIsIrreducibleCubicRow.holds Try.pinned (OpenSpec.ofChange fnExactIsIrreducibleCubicWrong)

/-- 'laws.FnExactRationalRoots': WHATEVER THE INPUT: true; the input reads as it did. -/
def fnExactRationalRootsSpec : ChangeSpec := { name := "fnExactRationalRoots", fn := fun _ => fun
  | [d] => { results := [.lit (.bool true)], args := [d] }
  | _ => none }
def fnExactRationalRootsRow : OpenClaim := { program := "ytnkdgcjegjccbaa", sum := "df22b298e8059de2f77b9f3858ebd46b62fdc2cc65e0b8bc56f1337cd44c083b", func := "loop.example/g01004/laws.FnExactRationalRoots", spec := "fnExactRationalRoots", unfollowed := true, recurses := true, apart := false }
def FnExactRationalRootsSaid : Prop := fnExactRationalRootsRow.holds Try.pinned (OpenSpec.ofChange fnExactRationalRootsSpec)

/-- ITS FALSE NEIGHBOUR: 'it returns false'. Refute it at one input. -/
def fnExactRationalRootsWrong : ChangeSpec := { name := "fnExactRationalRoots", fn := fun _ => fun
  | [d] => { results := [.lit (.bool false)], args := [d] }
  | _ => none }
def FnExactRationalRootsWrongFalsely : Prop := fnExactRationalRootsRow.holds Try.pinned (OpenSpec.ofChange fnExactRationalRootsWrong)

/- THE SECOND FORM. 'bulk': how many values and letters a reading holds, each counted each time it is reached (what is shared counts as often as it is met; a slice's spare places count too). A statement '..UptoSaid' is the law's where the arguments, and the package variables that the reading takes, are together of bulk at most 1048576: NARROWER than '..Said'. Prove '..Said' where nothing that the law and all that it calls make is longer than what came in: it says more and counts as full. Else prove '..UptoSaid'. A law counts once. -/
mutual
def uptoBulk {H : Type} : DataW H → Nat
  | .lit (.string bytes) => bytes.length + 1
  | .lit _ => 1
  | .nil => 1
  | .ptr d => uptoBulk d + 1
  | .slice elems spare => uptoBulkAll elems + uptoBulkAll spare + 1
  | .agg parts => uptoBulkAll parts + 1
  | .iface _ d => uptoBulk d + 1
  | .map entries => uptoBulkEntries entries + 1
  | .held _ => 1
def uptoBulkAll {H : Type} : List (DataW H) → Nat
  | [] => 0
  | d :: r => uptoBulk d + uptoBulkAll r
def uptoBulkEntries {H : Type} : List (Lit × DataW H) → Nat
  | [] => 0
  | x :: r => uptoBulkEntry x + uptoBulkEntries r
def uptoBulkEntry {H : Type} : Lit × DataW H → Nat
  | (.string bytes, d) => bytes.length + uptoBulk d + 1
  | (_, d) => uptoBulk d + 1
 end
def uptoSmall : (H : Type) → List (DataW H) → Bool := fun _ ds => decide (uptoBulkAll ds ≤ 1048576)
def OpenSpec.upto (s : _root_.Go.ChangeSpec) : _root_.Go.OpenSpec := { _root_.Go.OpenSpec.ofChange s with cond := some uptoSmall }

/-- 'laws.FnExactCubicAtFraction', WHERE WHAT IT READS IS OF BULK AT MOST 1048576: true; the input reads as it did. -/
def fnExactCubicAtFractionUptoRow : OpenClaim := { program := "ytnkdgcjegjccbaa", sum := "df22b298e8059de2f77b9f3858ebd46b62fdc2cc65e0b8bc56f1337cd44c083b", func := "loop.example/g01004/laws.FnExactCubicAtFraction", spec := "fnExactCubicAtFraction", apart := false, narrowed := true }
def FnExactCubicAtFractionUptoSaid : Prop := fnExactCubicAtFractionUptoRow.holds Try.pinned (OpenSpec.upto fnExactCubicAtFractionSpec)

/-- 'laws.FnExactIsTwoPoint', WHERE WHAT IT READS IS OF BULK AT MOST 1048576: true; the input reads as it did. -/
def fnExactIsTwoPointUptoRow : OpenClaim := { program := "ytnkdgcjegjccbaa", sum := "df22b298e8059de2f77b9f3858ebd46b62fdc2cc65e0b8bc56f1337cd44c083b", func := "loop.example/g01004/laws.FnExactIsTwoPoint", spec := "fnExactIsTwoPoint", apart := false, narrowed := true }
def FnExactIsTwoPointUptoSaid : Prop := fnExactIsTwoPointUptoRow.holds Try.pinned (OpenSpec.upto fnExactIsTwoPointSpec)

/-- 'laws.FnExactImageOf', WHERE WHAT IT READS IS OF BULK AT MOST 1048576: true; the input reads as it did. -/
def fnExactImageOfUptoRow : OpenClaim := { program := "ytnkdgcjegjccbaa", sum := "df22b298e8059de2f77b9f3858ebd46b62fdc2cc65e0b8bc56f1337cd44c083b", func := "loop.example/g01004/laws.FnExactImageOf", spec := "fnExactImageOf", apart := false, narrowed := true }
def FnExactImageOfUptoSaid : Prop := fnExactImageOfUptoRow.holds Try.pinned (OpenSpec.upto fnExactImageOfSpec)

/-- 'laws.FnExactBackImage', WHERE WHAT IT READS IS OF BULK AT MOST 1048576: true; the input reads as it did. -/
def fnExactBackImageUptoRow : OpenClaim := { program := "ytnkdgcjegjccbaa", sum := "df22b298e8059de2f77b9f3858ebd46b62fdc2cc65e0b8bc56f1337cd44c083b", func := "loop.example/g01004/laws.FnExactBackImage", spec := "fnExactBackImage", apart := false, narrowed := true }
def FnExactBackImageUptoSaid : Prop := fnExactBackImageUptoRow.holds Try.pinned (OpenSpec.upto fnExactBackImageSpec)

/-- 'laws.FnExactHeightWidth', WHERE WHAT IT READS IS OF BULK AT MOST 1048576: true; the input reads as it did. -/
def fnExactHeightWidthUptoRow : OpenClaim := { program := "ytnkdgcjegjccbaa", sum := "df22b298e8059de2f77b9f3858ebd46b62fdc2cc65e0b8bc56f1337cd44c083b", func := "loop.example/g01004/laws.FnExactHeightWidth", spec := "fnExactHeightWidth", apart := false, narrowed := true }
def FnExactHeightWidthUptoSaid : Prop := fnExactHeightWidthUptoRow.holds Try.pinned (OpenSpec.upto fnExactHeightWidthSpec)

/-- 'laws.FnExactLiftsModulo', WHERE WHAT IT READS IS OF BULK AT MOST 1048576: true; the input reads as it did. -/
def fnExactLiftsModuloUptoRow : OpenClaim := { program := "ytnkdgcjegjccbaa", sum := "df22b298e8059de2f77b9f3858ebd46b62fdc2cc65e0b8bc56f1337cd44c083b", func := "loop.example/g01004/laws.FnExactLiftsModulo", spec := "fnExactLiftsModulo", unfollowed := true, recurses := true, apart := false, narrowed := true }
def FnExactLiftsModuloUptoSaid : Prop := fnExactLiftsModuloUptoRow.holds Try.pinned (OpenSpec.upto fnExactLiftsModuloSpec)

/-- 'laws.FnExactCountPossible', WHERE WHAT IT READS IS OF BULK AT MOST 1048576: true; the input reads as it did. -/
def fnExactCountPossibleUptoRow : OpenClaim := { program := "ytnkdgcjegjccbaa", sum := "df22b298e8059de2f77b9f3858ebd46b62fdc2cc65e0b8bc56f1337cd44c083b", func := "loop.example/g01004/laws.FnExactCountPossible", spec := "fnExactCountPossible", unfollowed := true, recurses := true, apart := false, narrowed := true }
def FnExactCountPossibleUptoSaid : Prop := fnExactCountPossibleUptoRow.holds Try.pinned (OpenSpec.upto fnExactCountPossibleSpec)

/-- 'laws.FnExactFactorOut', WHERE WHAT IT READS IS OF BULK AT MOST 1048576: true; the input reads as it did. -/
def fnExactFactorOutUptoRow : OpenClaim := { program := "ytnkdgcjegjccbaa", sum := "df22b298e8059de2f77b9f3858ebd46b62fdc2cc65e0b8bc56f1337cd44c083b", func := "loop.example/g01004/laws.FnExactFactorOut", spec := "fnExactFactorOut", unfollowed := true, recurses := true, apart := false, narrowed := true }
def FnExactFactorOutUptoSaid : Prop := fnExactFactorOutUptoRow.holds Try.pinned (OpenSpec.upto fnExactFactorOutSpec)

/-- 'laws.FnExactIsIrreducibleCubic', WHERE WHAT IT READS IS OF BULK AT MOST 1048576: true; the input reads as it did. -/
def fnExactIsIrreducibleCubicUptoRow : OpenClaim := { program := "ytnkdgcjegjccbaa", sum := "df22b298e8059de2f77b9f3858ebd46b62fdc2cc65e0b8bc56f1337cd44c083b", func := "loop.example/g01004/laws.FnExactIsIrreducibleCubic", spec := "fnExactIsIrreducibleCubic", unfollowed := true, recurses := true, apart := false, narrowed := true }
def FnExactIsIrreducibleCubicUptoSaid : Prop := fnExactIsIrreducibleCubicUptoRow.holds Try.pinned (OpenSpec.upto fnExactIsIrreducibleCubicSpec)

/-- 'laws.FnExactRationalRoots', WHERE WHAT IT READS IS OF BULK AT MOST 1048576: true; the input reads as it did. -/
def fnExactRationalRootsUptoRow : OpenClaim := { program := "ytnkdgcjegjccbaa", sum := "df22b298e8059de2f77b9f3858ebd46b62fdc2cc65e0b8bc56f1337cd44c083b", func := "loop.example/g01004/laws.FnExactRationalRoots", spec := "fnExactRationalRoots", unfollowed := true, recurses := true, apart := false, narrowed := true }
def FnExactRationalRootsUptoSaid : Prop := fnExactRationalRootsUptoRow.holds Try.pinned (OpenSpec.upto fnExactRationalRootsSpec)

end Rows
end Go.Proofs.Ytnkdgcjegjccbaa
