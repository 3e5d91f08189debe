/-
  DERIVED. GIVEN WITH THE SEED: THE CARDS: each row of YtdcbpgpjiacomaaDoorRows.lean that lists a variable, with what it lists TIED to the program's text (the seventh form; the later family's looks); each row that meets fmt, with fmt's text TOLD by the authors' own Lean function (tested against real Go, not proved from fmt's source: count such statements apart). THE CARD IS WHAT COUNTS. Prove the row's statement (the work); the ties are given (YtdcbpgpjiacomaaDoorTie.lean); close each card by the builder's one call (the guide's Derived/Test/ToyasCard.lean, 'card_holds'). Laid BY PROGRAM, IN A SANDBOX (cutbox-door.mjs). By AI agents, Wed Nov 11 2026. No macro, syntax, notation, axiom, sorry.
-/
import Derived.Test.YtdcbpgpjiacomaaDoorRows
import GoSem.ClaimSeven
namespace Go.Proofs.YtdcbpgpjiacomaaDoor
namespace Rows

/-- THE TIED CARD OF 'laws.FnExactCertificateText'. -/
def fnExactCertificateTextCard : Claim7 := { stood := { row := fnExactCertificateTextRow, standIns := [], harness := (true, "6b5f8d5d4fdaf91b1c49ad3fb1c0b6667e3a283cae6355596321f2a7a1ebf38d"), looks := false }, kinds := [], alts := [], laidByText := true, laidKinds := [.data, .data, .data], laidTests := true, laidLooks := .later }
def FnExactCertificateTextCardSaid : Prop := Claim7.holds Tryd.pinned (.plain (OpenSpec.ofChange fnExactCertificateTextSpec)) fnExactCertificateTextCard

/-- THE TIED CARD OF 'laws.FnCubics'. -/
def fnCubicsCard : Claim7 := { stood := { row := fnCubicsRow, standIns := [], harness := (true, "6b5f8d5d4fdaf91b1c49ad3fb1c0b6667e3a283cae6355596321f2a7a1ebf38d"), looks := false }, kinds := [], alts := [], laidByText := true, laidKinds := [.data, .data, .data], laidTests := true, laidLooks := .later }
def FnCubicsCardSaid : Prop := Claim7.holds Tryd.pinned (.plain (OpenSpec.ofChange fnCubicsSpec)) fnCubicsCard

/-- THE SECOND FORM's CARD OF 'laws.FnExactCertificateText'. -/
def fnExactCertificateTextUptoCard : Claim7 := { stood := { row := fnExactCertificateTextUptoRow, standIns := [], harness := (true, "6b5f8d5d4fdaf91b1c49ad3fb1c0b6667e3a283cae6355596321f2a7a1ebf38d"), looks := false }, kinds := [], alts := [], laidByText := true, laidKinds := [.data, .data, .data], laidTests := true, laidLooks := .later }
def FnExactCertificateTextUptoCardSaid : Prop := Claim7.holds Tryd.pinned (.plain (OpenSpec.upto fnExactCertificateTextSpec)) fnExactCertificateTextUptoCard

/-- THE SECOND FORM's CARD OF 'laws.FnCubics'. -/
def fnCubicsUptoCard : Claim7 := { stood := { row := fnCubicsUptoRow, standIns := [], harness := (true, "6b5f8d5d4fdaf91b1c49ad3fb1c0b6667e3a283cae6355596321f2a7a1ebf38d"), looks := false }, kinds := [], alts := [], laidByText := true, laidKinds := [.data, .data, .data], laidTests := true, laidLooks := .later }
def FnCubicsUptoCardSaid : Prop := Claim7.holds Tryd.pinned (.plain (OpenSpec.upto fnCubicsSpec)) fnCubicsUptoCard
end Rows
end Go.Proofs.YtdcbpgpjiacomaaDoor
