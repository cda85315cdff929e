/- The reference's side: offers that run out in a copy; a chance. -/
import Derived.Test.YtejojcoaohlfbaaGreatAP
import Derived.Test.YtejojcoaohlfbaaGreatAN
namespace Go.Proofs.YtejojcoaohlfbaaGreat
namespace SX
open Go Go.RowKit
set_option linter.unusedVariables false
set_option linter.unusedSimpArgs false
set_option maxRecDepth 10000
set_option maxHeartbeats 1000000
attribute [local irreducible] CD DN OPL AT QL QT CND RETG BKP HL HT HO slA slHo slP ptC pull pulls
end SX
end Go.Proofs.YtejojcoaohlfbaaGreat
