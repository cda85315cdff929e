/- The laws' small parts. -/
import Derived.Test.YtejojcoaohlfbaaGreatFE
import Derived.Test.YtejojcoaohlfbaaGreatA9
import Derived.Test.YtejojcoaohlfbaaGreatMdlm
namespace Go.Proofs.YtejojcoaohlfbaaGreat
namespace SX
open Go Go.RowKit
set_option linter.unusedVariables false
set_option linter.unusedSimpArgs false
set_option maxRecDepth 10000
set_option maxHeartbeats 1000000
attribute [local irreducible] CD DN OPL AT QL QT CND RETG BKP HL HT HO slA slHo slP ptC pull pulls
abbrev RKt (d : Kd) : Res := ⟨Unit, fun _ => .bool true, fun _ => [keepA d]⟩
theorem rKT {d : Kd} {b : Bool} {C R : List Ass} {js : List Nat} (h : b = true) (hp : pulls js C = some ([keepA d], R) := by exact plS PU pl0) : RETG (.bool b) (RKt d) C := rEX () hp (by rw [h])
instance hBig_c : HC 32 (∀ (W : World) (a : Option Addr) (n c : Nat),Sp W [] 32 #[.slice a n c] (RV (.bool (decide ((n : Int) > 1048576))))) := by
 refine ⟨fun W a n c => gENT (vs := [_]) Tryz.func32 ?_⟩
 repeat' first | refine ST ?_ | intro _ | apply And.intro
 all_goals first | rfl | trace_state
end SX
end Go.Proofs.YtejojcoaohlfbaaGreat
