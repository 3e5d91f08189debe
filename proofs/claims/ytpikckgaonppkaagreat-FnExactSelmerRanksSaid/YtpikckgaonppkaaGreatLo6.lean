/- Pairs and depths of the reference; products of residues. -/
import Derived.Test.YtpikckgaonppkaaGreatLo5
namespace Go.Proofs.YtpikckgaonppkaaGreat
open Go.RowKit
set_option linter.unusedVariables false
set_option maxHeartbeats 4000000
set_option linter.unusedSimpArgs false
def deB (p k : Int) : Bool := mdPB p && inB k 1 (dp p)
end Go.Proofs.YtpikckgaonppkaaGreat
