/- What the functions on bytes, frames and records come to, in plain Lean. It imports no program. -/
import Derived.Test.YtcbpmjfjdjpalaaGreatDoorMdl1
import Derived.Test.YtcbpmjfjdjpalaaGreatDoorSxs
namespace Go.Proofs.YtcbpmjfjdjpalaaGreatDoor
namespace SX
set_option linter.unusedVariables false
set_option linter.unusedSimpArgs false
end SX
end Go.Proofs.YtcbpmjfjdjpalaaGreatDoor
