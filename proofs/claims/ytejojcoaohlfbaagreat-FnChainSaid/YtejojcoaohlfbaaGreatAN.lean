/- Texts of this claim, put together by program. -/
import Derived.Test.YtejojcoaohlfbaaGreatAI
namespace Go.Proofs.YtejojcoaohlfbaaGreat
namespace SX
open Go Go.RowKit
set_option linter.unusedVariables false
set_option linter.unusedSimpArgs false
set_option maxRecDepth 10000
set_option maxHeartbeats 1000000
attribute [local irreducible] CD DN OPL AT QL QT CND RETG BKP HL HT HO slA slHo slP ptC pull pulls
instance s15Ok_c : HC 139 (∀ (W : World) (cs : List Value) (h : House) (cabin : Int), HsR W cs h → HouseSz h →Sp W [] 139 #[.agg cs.toArray, vi cabin] (RV (.bool (hasCab h cabin)))) := by
 refine ⟨fun W cs h cabin hh hsz => ?_⟩
 have hh1 := hh; obtain ⟨a1, c1, a2, c2, a3, c3, a4, c4, a5, c5, rfl, h1, h2, h3, h4, h5, h6, h7, h8, h9, h10⟩ := hh
 have hl := h8.len
 have hb : ∀ c ∈ h.cabins, c.wheel.spoke.flatten.length ≤ 1048576 := fun c hc => (hsz.2.2.2.2.2 c hc).2.2
 refine gENT (vs := [_, _]) Tryz.func139 ?_
 repeat' first | refine ST ?_ | intro _ | apply And.intro
 all_goals first | (simp [hasCab, *]; done) | (simp only [hasCab, ‹houseOk h = true›, Bool.true_and]; rfl)
instance sSeatsFree_c : HC 346 (∀ (W : World) (l : Ledger) (n : Int),Sp W [] 346 #[.agg (ledgerE l).toArray, vi n] (RT2 (RV (.agg (ledgerE (lFree l n)).toArray)) RBo)) := by
 refine ⟨fun W l n => gENT (vs := [_, _]) Tryz.func346 ?_⟩
 repeat' first | refine ST ?_ | intro _ | apply And.intro
 all_goals first | trivial | (rw [turn_free]; rfl)
instance sSeatsSell_c : HC 275 (∀ (W : World) (l : Ledger) (n : Int),Sp W [] 275 #[.agg (ledgerE l).toArray, vi n] (RT2 (RV (.agg (ledgerE (lSell l n)).toArray)) RBo)) := by
 refine ⟨fun W l n => gENT (vs := [_, _]) Tryz.func275 ?_⟩
 repeat' first | refine ST ?_ | intro _ | apply And.intro
 all_goals first | trivial | (rw [turn_sell]; rfl)
instance sSeatsHold_c : HC 245 (∀ (W : World) (l : Ledger) (n : Int),Sp W [] 245 #[.agg (ledgerE l).toArray, vi n] (RT2 (RV (.agg (ledgerE (lHold l n)).toArray)) RBo)) := by
 refine ⟨fun W l n => gENT (vs := [_, _]) Tryz.func245 ?_⟩
 repeat' first | refine ST ?_ | intro _ | apply And.intro
 all_goals first | trivial | (rw [turn_hold]; rfl)
instance sTodoPut_c : HC 150 (∀ (W : World) (list : List Int) (v : Value) (x : Int), Rs intL W v list → list.length ≤ 1048576 →Sp W [] 150 #[v, vi x] (RO 3 intL (todoPut list x))) := by
 refine ⟨fun W list v x ⟨a, c, e, hc, hr⟩ hb => ?_⟩
 subst e
 refine gENT (vs := [_, _]) Tryz.func150 ?_
 repeat' first | refine ST ?_ | intro _ | apply And.intro
 all_goals simp [todoPut, *]
instance sSeatsTie_c : HC 271 (∀ (W : World) (l : Ledger) (n : Int),Sp W [] 271 #[.agg (ledgerE l).toArray, vi n] (RT2 (RV (.agg (ledgerE (lTie l n)).toArray)) RBo)) := by
 refine ⟨fun W l n => gENT (vs := [_, _]) Tryz.func271 ?_⟩
 repeat' first | refine ST ?_ | intro _ | apply And.intro
 all_goals first | trivial | (rw [turn_tie]; rfl)
instance s14Free_c : HC 274 (∀ (W : World) (cs : List Value) (h : House) (pre : List Ass) (cabin n : Int), HsO cs h pre → HouseSz h → 0 ≤ cabin → cabin < (h.cabins.length : Int) →Sp W pre 274 #[.agg cs.toArray, vi cabin, vi n] (RHs (freeM h cabin n))) := by
 refine ⟨fun W cs h pre cabin n ⟨⟨⟨a1, c1⟩, ⟨a2, c2⟩, ⟨a3, c3⟩, ⟨a4, c4⟩, a5, c5⟩, e1, e2⟩ hsz hc0 hc1 => ?_⟩
 subst e1 e2
 have hk : cabin.toNat < h.cabins.length := by omega
 have hx := List.getElem?_eq_getElem hk
 have hs4 := hsz.2.2.2.1
 refine gENTO (vs := [_, _, _]) Tryz.func274 (fun S0 => ?_)
 repeat' first | refine ST ?_ | intro _ | apply And.intro
 all_goals (rw [freeM, modC_of _ hx]; rfl)
theorem queueAt_lt9 : ∀ (l : List Entry) (id : Int) (k : Nat), queueAt l id k < (k : Int) + (l.length : Int)
 | [], id, k => by simp only [queueAt, List.length_nil]; omega
 | e :: es, id, k => by
   have := queueAt_lt9 es id (k + 1)
   simp only [queueAt, List.length_cons]; split <;> omega
instance sQueueCut_c : HC 246 (∀ (W : World) (list : List Entry) (v : Value) (id : Int), Rs entryL W v list → list.length ≤ 1048576 →Sp W [] 246 #[v, vi id] (RT2 (RO 159 entryL (queueCut list id)) RBo)) := by
 refine ⟨fun W list v id ⟨a, c, e, hc, hr⟩ hb => ?_⟩
 subst e; have hl := hr.len
 have hat := queueAt_lt9 list id 0
 refine gENT (vs := [_, _]) Tryz.func246 ?_
 repeat' first | refine ST ?_ | intro _ | apply And.intro
 all_goals first | trivial | (rw [queueCut, if_pos ‹_›]) | (rw [queueCut, if_neg ‹_›, wr_of (by omega) (by omega), Int.toNat_add (by omega) (by omega)]; simp [cutAt]) | (rw [queueCut, if_neg ‹_›, wrap_of (by omega) (by omega), Int.toNat_add (by omega) (by omega)]; simp [cutAt])
instance sFirstFit_c : HC 326 (∀ (W : World) (list : List Entry) (v : Value) (free : Int) (skip : List Int) (u : Value), Rs entryL W v list → Rs intL W u skip →Sp W [] 326 #[v, vi free, u] (RV (vi (firstFit list free skip)))) := by
 refine ⟨fun W list v free skip u ⟨a, c, e, hc, hr⟩ ⟨a2, c2, e2, hc2, hr2⟩ => ?_⟩
 subst e e2; have hl := hr.len
 refine gENT (vs := [_, _, _]) Tryz.func326 ?_
 repeat' first | refine ST ?_ | intro _ | apply And.intro
 refine gFOR 7 list.length (fun k => firstFit list free skip = idxF (fun e : Entry => decide (e.size ≤ free) && !skip.any (fun x => x == e.id)) (list.drop k) k) rfl fun k hk hv => ?_
 repeat' first | refine ST ?_ | intro _ | apply And.intro
 all_goals (rw [hv]; grind [idxF, List.drop_eq_getElem_cons])
end SX
end Go.Proofs.YtejojcoaohlfbaaGreat
