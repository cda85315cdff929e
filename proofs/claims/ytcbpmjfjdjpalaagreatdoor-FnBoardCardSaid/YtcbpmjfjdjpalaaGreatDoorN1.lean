/- Walks, printed by program. -/
import Derived.Test.YtcbpmjfjdjpalaaGreatDoorMdlx
import Derived.Test.YtcbpmjfjdjpalaaGreatDoorE5
namespace Go.Proofs.YtcbpmjfjdjpalaaGreatDoor
namespace SX
open Go Go.RowKit
set_option linter.unusedVariables false
set_option linter.unusedSimpArgs false
set_option maxRecDepth 10000
set_option maxHeartbeats 400000
theorem big_c (W : World) (code : List UInt8) (code_a : Option Addr) (code_c : Nat) (hcode : Rd byteL W code_a code) : Spec Tryz.prog W [] 4 #[.slice code_a code.length code_c] (RV (.bool (decide ((code.length : Int) > 1048576)))) := by
 refine ENTER0 (N := 6) (vs := [.slice code_a code.length code_c]) Tryz.func4 rfl rfl (NL rfl) ?_
 have hcode_len := hcode.len
 refine SEQ (RG (UU 1 [] (NR (UU 4 [(2, B (decide ((code.length : Int) > 1048576)))] (ENDOPS (NEXT (RF rfl (.bool (decide ((code.length : Int) > 1048576))) () [] ?_ ?_)))))))
 · rfl
 · rfl

theorem drawBoardLine_c (W : World) (code : List UInt8) (code_a : Option Addr) (code_c : Nat) (hcode : Rd byteL W code_a code) : Spec Tryz.prog W [] 5 #[.slice code_a code.length code_c] (⟨{q : (HH × HH × HH × HH × HH) × (House × Int) // (fun x : House × Int => HouseSz x.1) q.2}, fun q => .tuple #[.agg (hC q.1.2.1 q.1.1.1.1 q.1.1.1.2 q.1.1.2.1.1 q.1.1.2.1.2 q.1.1.2.2.1.1 q.1.1.2.2.1.2 q.1.1.2.2.2.1.1 q.1.1.2.2.2.1.2 q.1.1.2.2.2.2.1 q.1.1.2.2.2.2.2).toArray, vi q.1.2.2], fun q => [slA 3 intL (.slice q.1.1.1.1 q.1.2.1.rules.seats.length q.1.1.1.2) q.1.2.1.rules.seats, slA 50 partyL (.slice q.1.1.2.1.1 q.1.2.1.parties.length q.1.1.2.1.2) q.1.2.1.parties, slA 42 (cabinLx 47 81 99) (.slice q.1.1.2.2.1.1 q.1.2.1.cabins.length q.1.1.2.2.1.2) q.1.2.1.cabins, slA 3 intL (.slice q.1.1.2.2.2.1.1 q.1.2.1.todo.length q.1.1.2.2.2.1.2) q.1.2.1.todo, slA 3 intL (.slice q.1.1.2.2.2.2.1 q.1.2.1.jobs.length q.1.1.2.2.2.2.2) q.1.2.1.jobs]⟩) := by
 refine ENTER0 (N := 8) (vs := [.slice code_a code.length code_c]) Tryz.func5 rfl rfl (NL rfl) ?_
 have hcode_len := hcode.len
 refine SEQ (RG (UL 2 [(2, .p 0 0)] [(30, hZ)] (NR (UU 1 [(4, .v (.slice code_a code.length code_c))] (OPC (CA 12 #[.slice code_a code.length code_c] (some 5) (⟨{q : (HH × HH × HH × HH × HH) × (House × Int) // (fun x : House × Int => HouseSz x.1) q.2}, fun q => .tuple #[.agg (hC q.1.2.1 q.1.1.1.1 q.1.1.1.2 q.1.1.2.1.1 q.1.1.2.1.2 q.1.1.2.2.1.1 q.1.1.2.2.1.2 q.1.1.2.2.2.1.1 q.1.1.2.2.2.1.2 q.1.1.2.2.2.2.1 q.1.1.2.2.2.2.2).toArray, vi q.1.2.2], fun q => [slA 3 intL (.slice q.1.1.1.1 q.1.2.1.rules.seats.length q.1.1.1.2) q.1.2.1.rules.seats, slA 50 partyL (.slice q.1.1.2.1.1 q.1.2.1.parties.length q.1.1.2.1.2) q.1.2.1.parties, slA 42 (cabinLx 47 81 99) (.slice q.1.1.2.2.1.1 q.1.2.1.cabins.length q.1.1.2.2.1.2) q.1.2.1.cabins, slA 3 intL (.slice q.1.1.2.2.2.1.1 q.1.2.1.todo.length q.1.1.2.2.2.1.2) q.1.2.1.todo, slA 3 intL (.slice q.1.1.2.2.2.2.1 q.1.2.1.jobs.length q.1.1.2.2.2.2.2) q.1.2.1.jobs]⟩) (fun w hw => l15Args_c w code code_a code_c (hcode.fr hw.fr)) ?_))))))
 rintro ⟨⟨⟨⟨a3, c4⟩, ⟨a5, c6⟩, ⟨a7, c8⟩, ⟨a9, c10⟩, ⟨a11, c12⟩⟩, m1⟩, hm2⟩
 try dsimp only at hm2
 refine UL 4 [(3, I m1.2)] [(30, (hC m1.1 a3 c4 a5 c6 a7 c8 a9 c10 a11 c12))] (ENDOPS (NEXT (RF rfl (.tuple #[.agg (hC m1.1 a3 c4 a5 c6 a7 c8 a9 c10 a11 c12).toArray, vi m1.2]) ⟨(((a3, c4), (a5, c6), (a7, c8), (a9, c10), (a11, c12)), (m1.1, m1.2)), (by assumption)⟩ [0, 0, 0, 0, 0] ?_ ?_)))
 · rfl
 · rfl

end SX
end Go.Proofs.YtcbpmjfjdjpalaaGreatDoor
