/- The laws' own walks over requests: weights, copies, comparisons, marks. -/
import Derived.Test.YtejojcoaohlfbaaGreatBU
import Derived.Test.YtejojcoaohlfbaaGreatK3
import Derived.Test.YtejojcoaohlfbaaGreatK5
namespace Go.Proofs.YtejojcoaohlfbaaGreat
namespace SX
open Go Go.RowKit
set_option linter.unusedVariables false
set_option linter.unusedSimpArgs false
set_option maxRecDepth 10000
set_option maxHeartbeats 1000000
attribute [local irreducible] CD DN OPL AT QL QT CND RETG BKP HL HT HO slA slHo slP ptC pull pulls
instance hMarkIntQ_c : HC 25 (∀ (W : World) (l : List Int) (a : Option Addr) (n c : Nat) (z : Int),Sp W [slA 3 intL (.slice a n c) l] 25 #[.slice a n c, vi z] (⟨Unit, fun _ => vi (markL markI l z).2, fun _ => [slA 3 intL (.slice a n c) (markL markI l z).1]⟩)) := by
 exact ⟨fun W l a n c z => markIntS_c W l a n c z⟩
instance hMarkHouseQ_c : HC 23 (∀ (W : World) (x : House) (a1 : Option Addr) (n1 c1 : Nat) (a2 : Option Addr) (n2 c2 : Nat) (a3 : Option Addr) (n3 c3 : Nat) (a4 : Option Addr) (n4 c4 : Nat) (a5 : Option Addr) (n5 c5 : Nat) (z : Int),Sp W [slA 3 intL (.slice a1 n1 c1) x.rules.seats, slA 91 partyL (.slice a2 n2 c2) x.parties, slA 70 (cabinLx 159 199 166) (.slice a3 n3 c3) x.cabins, slA 3 intL (.slice a4 n4 c4) x.todo, slA 3 intL (.slice a5 n5 c5) x.jobs] 23 #[.agg (hD x a1 n1 c1 a2 n2 c2 a3 n3 c3 a4 n4 c4 a5 n5 c5).toArray, vi z] (⟨Unit, fun _ => vi (markHouse x z).2, fun _ => [slA 3 intL (.slice a1 n1 c1) (markHouse x z).1.rules.seats, slA 91 partyL (.slice a2 n2 c2) (markHouse x z).1.parties, slA 70 (cabinLx 159 199 166) (.slice a3 n3 c3) (markHouse x z).1.cabins, slA 3 intL (.slice a4 n4 c4) (markHouse x z).1.todo, slA 3 intL (.slice a5 n5 c5) (markHouse x z).1.jobs]⟩)) := by
 exact ⟨fun W x a1 n1 c1 a2 n2 c2 a3 n3 c3 a4 n4 c4 a5 n5 c5 z => markHouse_c W x a1 n1 c1 a2 n2 c2 a3 n3 c3 a4 n4 c4 a5 n5 c5 z⟩
instance hSzReqS_c : HC 13 (∀ (W : World) (l : List Req) (v : Value) (left : Int), Rs reqL W v l → left ≤ 1048576 → 0 ≤ left →Sp W [] 13 #[v, vi left] (⟨{x : Int // 0 ≤ x → l.length ≤ 1048576}, fun q => vi q.1, fun _ => []⟩)) := by
 refine ⟨fun W l v left ⟨a, c, e, hc, hr⟩ h1 h2 => ?_⟩
 subst e; have hl := hr.len
 refine gENT (vs := [_, _]) Tryz.func13 ?_
 have hw9 : wr (left - (l.length : Int)) = left - (l.length : Int) := wr_of (by omega) (by omega)
 repeat' first | refine ST ?_ | intro _ | apply And.intro
 · exact rEX (js := []) (⟨-1, fun h => by omega⟩ : {x : Int // 0 ≤ x → l.length ≤ 1048576}) pl0 rfl
 · exact rEX (js := []) (⟨wr (left - (l.length : Int)), fun h => by omega⟩ : {x : Int // 0 ≤ x → l.length ≤ 1048576}) pl0 rfl
instance keqReq_c : HC 96 (∀ (W : World) (a b : Req),Sp W [] 96 #[.agg (reqE a).toArray, .agg (reqE b).toArray] (RV (.bool (eqReq a b)))) := by
 refine ⟨fun W a b => gENT (vs := [_, _]) Tryz.func96 ?_⟩
 repeat' first | refine ST ?_ | intro _ | apply And.intro
 all_goals simp_all [eqReq]
instance keqReqS_c : HC 19 (∀ (W : World) (x y : List Req) (v u : Value), Rs reqL W v x → Rs reqL W u y →Sp W [] 19 #[v, u] (RV (.bool (eqL eqReq x y)))) := by
 refine ⟨fun W x y v u ⟨a, c, e, hc, hr⟩ ⟨a2, c2, e2, hc2, hr2⟩ => ?_⟩
 subst e e2; have hl := hr.len; have hl2 := hr2.len
 refine gENT (vs := [_, _]) Tryz.func19 ?_
 by_cases hn : x.length = y.length
 · repeat' first | refine ST ?_ | intro _ | apply And.intro
   all_goals first | (exfalso; omega) | skip
   refine gFOR 5 x.length (fun k => eqL eqReq x y = eqL eqReq (x.drop k) (y.drop k)) rfl fun k hk hv => ?_
   by_cases hkl : k < x.length
   · rw [eqL_drop _ hkl (by omega)] at hv
     repeat' first | refine ST ?_ | intro _ | apply And.intro
     all_goals first | (exfalso; omega) | (rw [hv]; simp [*]; done) | (rw [hv]; simp_all; done) | trace_state
   · rw [eqL_end _ (by omega) (by omega)] at hv
     repeat' first | refine ST ?_ | intro _ | apply And.intro
     all_goals first | (exfalso; omega) | exact hv.symm | trace_state
 · have he := eqL_ne (f := eqReq) hn
   repeat' first | refine ST ?_ | intro _ | apply And.intro
   all_goals first | exact he.symm | (exfalso; omega) | trace_state
instance hToReqS_c : HC 16 (∀ (W : World) (l : List Req) (v : Value), Rs reqL W v l → l.length ≤ 1048576 →Sp W [] 16 #[v] (RO 84 reqL l)) := by
 refine ⟨fun W l v ⟨a, c, e, hc, hr⟩ hb => ?_⟩
 subst e
 exact toReqS_c W l a c hr hb
instance hMarkReqS_c : HC 24 (∀ (W : World) (l : List Req) (a : Option Addr) (n c : Nat) (z : Int),Sp W [slA 84 reqL (.slice a n c) l] 24 #[.slice a n c, vi z] (⟨Unit, fun _ => vi (markL markReq l z).2, fun _ => [slA 84 reqL (.slice a n c) (markL markReq l z).1]⟩)) := by
 exact ⟨fun W l a n c z => markReqS_c W l a n c z⟩
end SX
end Go.Proofs.YtejojcoaohlfbaaGreat
