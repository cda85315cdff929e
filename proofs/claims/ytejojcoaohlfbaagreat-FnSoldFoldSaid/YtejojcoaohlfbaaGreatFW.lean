/- Draws of the law of the judge. -/
import Derived.Test.YtejojcoaohlfbaaGreatGA
import Derived.Test.YtejojcoaohlfbaaGreatAS
import Derived.Test.YtejojcoaohlfbaaGreatSx9
namespace Go.Proofs.YtejojcoaohlfbaaGreat
namespace SX
open Go Go.RowKit
set_option linter.unusedVariables false
set_option linter.unusedSimpArgs false
set_option maxRecDepth 10000
set_option maxHeartbeats 1000000
attribute [local irreducible] CD DN OPL AT QL QT CND RETG BKP HL HT HO slA slHo slP ptC pull pulls
attribute [local irreducible] curO keepA RWk IsCur IsKd
end SX
end Go.Proofs.YtejojcoaohlfbaaGreat
