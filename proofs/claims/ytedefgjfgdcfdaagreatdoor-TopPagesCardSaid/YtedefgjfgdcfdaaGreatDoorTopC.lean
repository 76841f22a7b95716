/- Walks and laws for TopPages. -/
import Derived.Test.YtedefgjfgdcfdaaGreatDoorQ00
import Derived.Test.YtedefgjfgdcfdaaGreatDoorRows
import Derived.ProofKit
namespace Go.Proofs.YtedefgjfgdcfdaaGreatDoor
open Go.RowKit Go.Proofs.Tryz
set_option maxRecDepth 100000
set_option maxHeartbeats 4000000
theorem aa9:joinedFacts prog 3 f3 Rows.topPagesSpec Rows.topPagesRow=true:=qh
end Go.Proofs.YtedefgjfgdcfdaaGreatDoor
