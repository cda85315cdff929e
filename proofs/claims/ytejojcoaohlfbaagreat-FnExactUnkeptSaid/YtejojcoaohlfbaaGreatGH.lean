/- The reference's side: requests behind which a house is not kept. -/
import Derived.Test.YtejojcoaohlfbaaGreatGR
import Derived.Test.YtejojcoaohlfbaaGreatGS
namespace Go.Proofs.YtejojcoaohlfbaaGreat
namespace SX
open Go Go.RowKit
set_option linter.unusedVariables false
set_option linter.unusedSimpArgs false
set_option maxRecDepth 10000
set_option maxHeartbeats 1000000
attribute [local irreducible] CD DN OPL AT QL QT CND RETG BKP HL HT HO slA slHo slP ptC pull pulls
instance sUnkept_c : HC 20 (∀ (W : World) (cs : List Value) (h : House) (l : List Req) (v : Value), HsR W cs h → HouseSz h → Rs reqL W v l → l.length ≤ 1048576 →Sp W [] 20 #[.agg cs.toArray, v] (RO 3 intL (unkept h l))) := by
 refine ⟨fun W cs h l v hh hsz hv hln => ?_⟩
 cases hok : houseOk h with
 | true => exact sUnk_ok W cs h l v hh hsz hv hln hok
 | false => exact sUnk_bad W cs h l v hh hsz hv hln hok
end SX
end Go.Proofs.YtejojcoaohlfbaaGreat
