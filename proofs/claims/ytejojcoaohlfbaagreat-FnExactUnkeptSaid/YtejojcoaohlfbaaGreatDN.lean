/- Texts of this claim, put together by program. -/
import Derived.Test.YtejojcoaohlfbaaGreatAU
import Derived.Test.YtejojcoaohlfbaaGreatAN
import Derived.Test.YtejojcoaohlfbaaGreatCD
import Derived.Test.YtejojcoaohlfbaaGreatDA
namespace Go.Proofs.YtejojcoaohlfbaaGreat
namespace SX
open Go Go.RowKit
set_option linter.unusedVariables false
set_option linter.unusedSimpArgs false
set_option maxRecDepth 10000
set_option maxHeartbeats 1000000
attribute [local irreducible] CD DN OPL AT QL QT CND RETG BKP HL HT HO slA slHo slP ptC pull pulls
set_option maxHeartbeats 8000000
instance sDecline_c : HC 179 (∀ (W : World) (cs : List Value) (h : House) (id : Int), HsR W cs h → HouseSz h →Sp W [] 179 #[.agg cs.toArray, vi id] (RT2 (RHs (doM h ⟨5, id, 0, 0, 0, 0⟩)) (RV (vi (verdict h ⟨5, id, 0, 0, 0, 0⟩))))) := by
 refine ⟨fun W cs h id hh hsz => ?_⟩
 have hh1 := hh; obtain ⟨a1, c1, a2, c2, a3, c3, a4, c4, a5, c5, rfl, h1, h2, h3, h4, h5, h6, h7, h8, h9, h10⟩ := hh
 refine gENT (vs := [_, _]) Tryz.func179 ?_
 by_cases hv : verdict h ⟨5, id, 0, 0, 0, 0⟩ = 0
 · obtain ⟨hR, pm, pid, pst⟩ := ansV rfl (.inr rfl) hv
   obtain ⟨p1, p2, p3⟩ := at_fact hR pm pid
   have p4 := p3 (by omega)
   have hd : doM h ⟨5, id, 0, 0, 0, 0⟩ = declineM h (partyOf h.parties id) := by rw [doM, if_pos hv]; rfl
   rw [p4] at hd pm pst
   have hf := (fails_hp hR pm pst).sz
   have hf9 := hf.2.2.2.1
   have hp9 := hsz.2.1
   have hd2 : doM h ⟨5, id, 0, 0, 0, 0⟩ = withTodo (failsM h (h.parties[(atId h.parties id).toNat]'(by omega))) (todoPut (failsM h (h.parties[(atId h.parties id).toNat]'(by omega))).todo (h.parties[(atId h.parties id).toNat]'(by omega)).cabin) := hd
   rw [hd2]
   repeat' first | refine ST ?_ | refine ST2 ?_ | intro _ | apply And.intro
   all_goals first | exact absurd hv ‹verdict h _ ≠ 0› | exact hv.symm | rfl | (exfalso; omega) | trace_state
 · repeat' first | refine ST ?_ | refine ST2 ?_ | intro _ | apply And.intro
   all_goals first | (rw [doM, if_neg hv]; done) | exact absurd ‹_› hv | rfl | trace_state
theorem drop_sz {h : House} {p : Party} (hs : HouseSz h) : HouseSz (dropM h p) := by
 obtain ⟨s1, s2, s3, s4, s5, s6⟩ := hs
 refine ⟨s1, s2, by unfold dropM; dsimp only; rw [modC_len]; exact s3, s4, s5, ?_⟩
 refine modC_sz s6 fun c hc => ?_
 have := wheelCut_len c.wheel ⟨p.until', p.id⟩
 exact ⟨hc.1, by show (wheelCut _ _).spoke.length ≤ _; rw [this.1]; exact hc.2.1, by show (wheelCut _ _).spoke.flatten.length ≤ _; exact Nat.le_trans this.2 hc.2.2⟩
theorem sCancel_off (W : World) (cs : List Value) (h : House) (id : Int) (hh : HsR W cs h) (hsz : HouseSz h) (hv : verdict h ⟨2, id, 0, 0, 0, 0⟩ = 0) (hs : (partyOf h.parties id).state = 2) : Sp W [] 176 #[.agg cs.toArray, vi id] (RT2 (RHs (doM h ⟨2, id, 0, 0, 0, 0⟩)) (RV (vi (verdict h ⟨2, id, 0, 0, 0, 0⟩)))) := by
 have hh1 := hh; obtain ⟨a1, c1, a2, c2, a3, c3, a4, c4, a5, c5, rfl, h1, h2, h3, h4, h5, h6, h7, h8, h9, h10⟩ := hh
 refine gENT (vs := [_, _]) Tryz.func176 ?_
 obtain ⟨hR, pm, pid⟩ := cutV rfl rfl hv
 obtain ⟨p1, p2, p3⟩ := at_fact hR pm pid
 have p4 := p3 (by omega)
 have hd : doM h ⟨2, id, 0, 0, 0, 0⟩ = goneM (withTodo (dropM h (partyOf h.parties id)) (todoPut h.todo (partyOf h.parties id).cabin)) (partyOf h.parties id) := by rw [doM, if_pos hv]; show cancelM h _ = _; rw [cancelM, if_pos hs]
 rw [p4] at hd pm hs
 have g := hR.pr pm; have g1 := g.cab; have g2 := g.frm; have g3 := hR.cabs
 have hp9 := hsz.2.1; have ht9 := hsz.2.2.2.1
 have hdz := drop_sz (p := h.parties[(atId h.parties id).toNat]'(by omega)) hsz
 have ttl : (todoPut h.todo (h.parties[(atId h.parties id).toNat]'(by omega)).cabin).length ≤ 1048576 := Nat.le_trans (todoPut_len h.todo _) (by have := todo_len hR; omega)
 have hdl : (dropM h (h.parties[(atId h.parties id).toNat]'(by omega))).cabins.length = h.cabins.length := modC_len _ _ _
 have htn : (dropM h (h.parties[(atId h.parties id).toNat]'(by omega))).todo = h.todo := rfl
 have hz2 : HouseSz (⟨(dropM h (h.parties[(atId h.parties id).toNat]'(by omega))).rules, (dropM h (h.parties[(atId h.parties id).toNat]'(by omega))).now, (dropM h (h.parties[(atId h.parties id).toNat]'(by omega))).turn, (dropM h (h.parties[(atId h.parties id).toNat]'(by omega))).parties, (dropM h (h.parties[(atId h.parties id).toNat]'(by omega))).cabins, todoPut (dropM h (h.parties[(atId h.parties id).toNat]'(by omega))).todo (h.parties[(atId h.parties id).toNat]'(by omega)).cabin, (dropM h (h.parties[(atId h.parties id).toNat]'(by omega))).jobs⟩ : House) := ⟨hdz.1, hdz.2.1, hdz.2.2.1, by show (todoPut h.todo _).length ≤ _; exact ttl, hdz.2.2.2.2⟩
 have hf1 : (h.parties[(atId h.parties id).toNat]'(by omega)).from' < ((⟨(dropM h (h.parties[(atId h.parties id).toNat]'(by omega))).rules, (dropM h (h.parties[(atId h.parties id).toNat]'(by omega))).now, (dropM h (h.parties[(atId h.parties id).toNat]'(by omega))).turn, (dropM h (h.parties[(atId h.parties id).toNat]'(by omega))).parties, (dropM h (h.parties[(atId h.parties id).toNat]'(by omega))).cabins, todoPut (dropM h (h.parties[(atId h.parties id).toNat]'(by omega))).todo (h.parties[(atId h.parties id).toNat]'(by omega)).cabin, (dropM h (h.parties[(atId h.parties id).toNat]'(by omega))).jobs⟩ : House).cabins.length : Int) := by show _ < ((dropM h _).cabins.length : Int); rw [hdl]; omega
 repeat' first | refine ST ?_ | refine ST2 ?_ | intro _ | apply And.intro
 all_goals first | exact absurd hv ‹verdict h _ ≠ 0› | exact hv.symm | exact hd.symm | rfl | (exfalso; omega) | trace_state
theorem cut_sz {h : House} {p : Party} {id : Int} (hs : HouseSz h) : HouseSz ⟨h.rules, h.now, h.turn, h.parties, modC h.cabins p.cabin (rowCut id), h.todo, h.jobs⟩ := by
 obtain ⟨s1, s2, s3, s4, s5, s6⟩ := hs
 refine ⟨s1, s2, by dsimp only; rw [modC_len]; exact s3, s4, s5, ?_⟩
 refine modC_sz s6 fun c hc => ?_
 exact ⟨Nat.le_trans (queueCut_len _ _) hc.1, hc.2.1, hc.2.2⟩
theorem sCancel_row (W : World) (cs : List Value) (h : House) (id : Int) (hh : HsR W cs h) (hsz : HouseSz h) (hv : verdict h ⟨2, id, 0, 0, 0, 0⟩ = 0) (hs : ¬ (partyOf h.parties id).state = 2) : Sp W [] 176 #[.agg cs.toArray, vi id] (RT2 (RHs (doM h ⟨2, id, 0, 0, 0, 0⟩)) (RV (vi (verdict h ⟨2, id, 0, 0, 0, 0⟩)))) := by
 have hh1 := hh; obtain ⟨a1, c1, a2, c2, a3, c3, a4, c4, a5, c5, rfl, h1, h2, h3, h4, h5, h6, h7, h8, h9, h10⟩ := hh
 refine gENT (vs := [_, _]) Tryz.func176 ?_
 obtain ⟨hR, pm, pid⟩ := cutV rfl rfl hv
 obtain ⟨p1, p2, p3⟩ := at_fact hR pm pid
 have p4 := p3 (by omega)
 have hd : doM h ⟨2, id, 0, 0, 0, 0⟩ = goneM ⟨h.rules, h.now, h.turn, h.parties, modC h.cabins (partyOf h.parties id).cabin (rowCut id), h.todo, h.jobs⟩ (partyOf h.parties id) := by rw [doM, if_pos hv]; show cancelM h _ = _; rw [cancelM, if_neg hs, pid]
 rw [p4] at hd pm hs
 have g := hR.pr pm; have g1 := g.cab; have g2 := g.frm; have g3 := hR.cabs
 have hp9 := hsz.2.1; have ht9 := hsz.2.2.2.1
 have hk : (((h.parties[(atId h.parties id).toNat]'(by omega))).cabin).toNat < h.cabins.length := by omega
 have hx := List.getElem?_eq_getElem hk
 obtain ⟨hs1, hs2, hs3⟩ := hsz.2.2.2.2.2 _ (List.getElem_mem hk)
 have hst := (g.st).resolve_right (fun w => hs w.1)
 have hM : modC h.cabins (h.parties[(atId h.parties id).toNat]'(by omega)).cabin (rowCut id) = h.cabins.set (((h.parties[(atId h.parties id).toNat]'(by omega)).cabin).toNat) ⟨(h.cabins[((h.parties[(atId h.parties id).toNat]'(by omega)).cabin).toNat]'(by omega)).seats, queueCut (h.cabins[((h.parties[(atId h.parties id).toNat]'(by omega)).cabin).toNat]'(by omega)).row id, (h.cabins[((h.parties[(atId h.parties id).toNat]'(by omega)).cabin).toNat]'(by omega)).wheel⟩ := modC_of _ hx
 rw [hM] at hd
 have hz2 : HouseSz ⟨h.rules, h.now, h.turn, h.parties, h.cabins.set (((h.parties[(atId h.parties id).toNat]'(by omega)).cabin).toNat) ⟨(h.cabins[((h.parties[(atId h.parties id).toNat]'(by omega)).cabin).toNat]'(by omega)).seats, queueCut (h.cabins[((h.parties[(atId h.parties id).toNat]'(by omega)).cabin).toNat]'(by omega)).row id, (h.cabins[((h.parties[(atId h.parties id).toNat]'(by omega)).cabin).toNat]'(by omega)).wheel⟩, h.todo, h.jobs⟩ := by rw [← hM]; exact cut_sz hsz
 have hf1 : (h.parties[(atId h.parties id).toNat]'(by omega)).from' < ((h.cabins.set (((h.parties[(atId h.parties id).toNat]'(by omega)).cabin).toNat) ⟨(h.cabins[((h.parties[(atId h.parties id).toNat]'(by omega)).cabin).toNat]'(by omega)).seats, queueCut (h.cabins[((h.parties[(atId h.parties id).toNat]'(by omega)).cabin).toNat]'(by omega)).row id, (h.cabins[((h.parties[(atId h.parties id).toNat]'(by omega)).cabin).toNat]'(by omega)).wheel⟩).length : Int) := by rw [List.length_set]; omega
 repeat' first | refine ST ?_ | refine ST2 ?_ | intro _ | apply And.intro
 all_goals first | exact absurd hv ‹verdict h _ ≠ 0› | exact hv.symm | exact hd.symm | rfl | (exfalso; omega) | trace_state
theorem sCancel_no (W : World) (cs : List Value) (h : House) (id : Int) (hh : HsR W cs h) (hsz : HouseSz h) (hv : ¬ verdict h ⟨2, id, 0, 0, 0, 0⟩ = 0) : Sp W [] 176 #[.agg cs.toArray, vi id] (RT2 (RHs (doM h ⟨2, id, 0, 0, 0, 0⟩)) (RV (vi (verdict h ⟨2, id, 0, 0, 0, 0⟩)))) := by
 have hh1 := hh; obtain ⟨a1, c1, a2, c2, a3, c3, a4, c4, a5, c5, rfl, h1, h2, h3, h4, h5, h6, h7, h8, h9, h10⟩ := hh
 refine gENT (vs := [_, _]) Tryz.func176 ?_
 repeat' first | refine ST ?_ | refine ST2 ?_ | intro _ | apply And.intro
 all_goals first | (rw [doM, if_neg hv]; done) | exact absurd ‹_› hv | rfl | trace_state
instance sCancel_c : HC 176 (∀ (W : World) (cs : List Value) (h : House) (id : Int), HsR W cs h → HouseSz h →Sp W [] 176 #[.agg cs.toArray, vi id] (RT2 (RHs (doM h ⟨2, id, 0, 0, 0, 0⟩)) (RV (vi (verdict h ⟨2, id, 0, 0, 0, 0⟩))))) := by
 refine ⟨fun W cs h id hh hsz => ?_⟩
 by_cases hv : verdict h ⟨2, id, 0, 0, 0, 0⟩ = 0
 · by_cases hs : (partyOf h.parties id).state = 2
   · exact sCancel_off W cs h id hh hsz hv hs
   · exact sCancel_row W cs h id hh hsz hv hs
 · exact sCancel_no W cs h id hh hsz hv
theorem join_facts {h : House} {q : Req} (hq : q.kind = 1) (hv : verdict h q = 0) : HRep h ∧ JoinV h q ∧ doM h q = joinM h q := by
 have v := verdict_ok hv
 refine ⟨v.hp, joinV v hq, ?_⟩
 rw [doM, if_pos hv, doneM, if_pos hq]
abbrev joinH (h : House) (q : Req) : House := ⟨h.rules, h.now, wr (h.turn + 1), partyPut h.parties (joinP h q), h.cabins, h.todo, h.jobs⟩
theorem joinH_sz {h : House} {q : Req} (hR : HRep h) (hs : HouseSz h) : HouseSz (joinH h q) := by
 refine ⟨hs.1, ?_, hs.2.2⟩
 have h1 := partyPut_len h.parties (joinP h q)
 have h2 := hR.len
 show (partyPut h.parties (joinP h q)).length ≤ 1048576
 omega
theorem joinE {h : House} {q : Req} (hf : ¬ q.from' < 0) (C0 : List Cabin) (hC : C0 = modC h.cabins q.cabin (rowPut (entryOf h.rules (joinP h q) h.now))) (hk : q.from'.toNat < C0.length) : joinM h q = ⟨h.rules, h.now, wr (h.turn + 1), partyPut h.parties (joinP h q), C0.set q.from'.toNat ⟨lTie (C0[q.from'.toNat]'hk).seats q.size, (C0[q.from'.toNat]'hk).row, (C0[q.from'.toNat]'hk).wheel⟩, todoPut h.todo q.cabin, h.jobs⟩ := by
 subst hC
 rw [joinM, if_neg hf, modC_of _ (List.getElem?_eq_getElem hk)]; rfl
theorem joinE0 {h : House} {q : Req} (hf : q.from' < 0) : joinM h q = ⟨h.rules, h.now, wr (h.turn + 1), partyPut h.parties (joinP h q), modC h.cabins q.cabin (rowPut (entryOf h.rules (joinP h q) h.now)), todoPut h.todo q.cabin, h.jobs⟩ := by
 rw [joinM, if_pos hf]
theorem sJoin_in (W : World) (cs : List Value) (h : House) (id cabin from' size tier : Int) (hh : HsR W cs h) (hsz : HouseSz h) (hv : verdict h ⟨1, id, cabin, from', size, tier⟩ = 0) : Sp W [] 175 #[.agg cs.toArray, vi id, vi cabin, vi from', vi size, vi tier] (RT2 (RHs (doM h ⟨1, id, cabin, from', size, tier⟩)) (RV (vi (verdict h ⟨1, id, cabin, from', size, tier⟩)))) := by
 have hh1 := hh; obtain ⟨a1, c1, a2, c2, a3, c3, a4, c4, a5, c5, rfl, h1, h2, h3, h4, h5, h6, h7, h8, h9, h10⟩ := hh
 refine gENT (vs := [_, _, _, _, _, _]) Tryz.func175 ?_
 obtain ⟨hR, v, hd⟩ := join_facts rfl hv
 rw [hd]
 have v1 := v.cab; have v2 := v.frm; dsimp only at v1 v2
 have hp9 := hsz.2.1; have ht9 := hsz.2.2.2.1
 have hz := joinH_sz (q := ⟨1, id, cabin, from', size, tier⟩) hR hsz
 have hrl : (rowM' ⟨⟨h.rules.seats, h.rules.tiers, h.rules.room, h.rules.size, h.rules.period, h.rules.window, h.rules.rest, h.rules.tries, h.rules.crew⟩, h.now, wr (h.turn + 1), partyPut h.parties ⟨id, cabin, from', size, tier, h.now, h.turn, 1, 0, 0⟩, h.cabins, h.todo, h.jobs⟩ ⟨id, cabin, from', size, tier, h.now, h.turn, 1, 0, 0⟩).cabins.length = h.cabins.length := modC_len _ _ _
 have hrt : (rowM' ⟨⟨h.rules.seats, h.rules.tiers, h.rules.room, h.rules.size, h.rules.period, h.rules.window, h.rules.rest, h.rules.tries, h.rules.crew⟩, h.now, wr (h.turn + 1), partyPut h.parties ⟨id, cabin, from', size, tier, h.now, h.turn, 1, 0, 0⟩, h.cabins, h.todo, h.jobs⟩ ⟨id, cabin, from', size, tier, h.now, h.turn, 1, 0, 0⟩).todo.length = h.todo.length := rfl
 repeat' first | refine ST ?_ | refine ST2 ?_ | intro _ | apply And.intro
 all_goals first | exact absurd hv ‹verdict h _ ≠ 0› | exact hv.symm | (refine Eq.trans ?_ (joinE (h := h) (q := ⟨1, id, cabin, from', size, tier⟩) (show ¬ from' < 0 by omega) _ rfl (by rw [modC_len]; show from'.toNat < h.cabins.length; omega)).symm; rfl) | (refine Eq.trans ?_ (joinE0 (h := h) (q := ⟨1, id, cabin, from', size, tier⟩) (show from' < 0 by omega)).symm; rfl) | (exfalso; omega) | trace_state
instance sJoin_c : HC 175 (∀ (W : World) (cs : List Value) (h : House) (id cabin from' size tier : Int), HsR W cs h → HouseSz h →Sp W [] 175 #[.agg cs.toArray, vi id, vi cabin, vi from', vi size, vi tier] (RT2 (RHs (doM h ⟨1, id, cabin, from', size, tier⟩)) (RV (vi (verdict h ⟨1, id, cabin, from', size, tier⟩))))) := by
 refine ⟨fun W cs h id cabin from' size tier hh hsz => ?_⟩
 by_cases hv : verdict h ⟨1, id, cabin, from', size, tier⟩ = 0
 · exact sJoin_in W cs h id cabin from' size tier hh hsz hv
 · have hh1 := hh; obtain ⟨a1, c1, a2, c2, a3, c3, a4, c4, a5, c5, rfl, h1, h2, h3, h4, h5, h6, h7, h8, h9, h10⟩ := hh1
   refine gENT (vs := [_, _, _, _, _, _]) Tryz.func175 ?_
   repeat' first | refine ST ?_ | refine ST2 ?_ | intro _ | apply And.intro
   all_goals first | (rw [doM, if_neg hv]; done) | exact absurd ‹_› hv | rfl | trace_state
abbrev RRep (e : TypeId) (code : Int) (xs : List Int) : Res := ⟨HH, fun p => .agg #[vi code, .slice p.1 xs.length p.2], fun p => [slA e intL (.slice p.1 xs.length p.2) xs]⟩
theorem pREP {e : TypeId} {a : Option Addr} {n c j : Nat} {xs xs' : List Int} {x y : Int} {C R : List Ass} (hp : pull j C = some (slA e intL (.slice a n c) xs, R) := by exact PU) (hn : n = xs.length := by first | rfl | exact LEN) (h : x = y ∧ xs = xs') : RP (.agg ⟨[vi x, .slice a n c]⟩) (RRep e y xs') C R := by
 obtain ⟨rfl, rfl⟩ := h; subst hn
 exact ⟨(a, c), [j], rfl, by simp [pulls, hp]⟩
theorem req_form {q : Req} (h : reqOk q = true) : (q.kind = 1 → q = ⟨1, q.id, q.cabin, q.from', q.size, q.tier⟩) ∧ (q.kind = 2 → q = ⟨2, q.id, 0, 0, 0, 0⟩) ∧ (q.kind = 3 → q = ⟨3, 0, q.cabin, 0, q.size, 0⟩) ∧ (q.kind = 4 → q = ⟨4, q.id, 0, 0, 0, 0⟩) ∧ (q.kind = 5 → q = ⟨5, q.id, 0, 0, 0, 0⟩) ∧ (q.kind = 6 → q = ⟨6, 0, 0, 0, 0, 0⟩) ∧ (q.kind = 7 → q = ⟨7, q.id, 0, 0, 0, 0⟩) := by
 obtain ⟨k, i, c, f, s, t⟩ := q
 simp only at *
 refine ⟨?_, ?_, ?_, ?_, ?_, ?_, ?_⟩ <;> (rintro rfl; simp [reqOk, reqEq, usedB] at h ⊢; try omega)
theorem done_v {h : House} {q : Req} (hv : verdict h q = 0) : 1 ≤ q.kind ∧ q.kind ≤ 7 ∧ (q.kind = 1 → q = ⟨1, q.id, q.cabin, q.from', q.size, q.tier⟩) ∧ (q.kind = 2 → q = ⟨2, q.id, 0, 0, 0, 0⟩) ∧ (q.kind = 3 → q = ⟨3, 0, q.cabin, 0, q.size, 0⟩) ∧ (q.kind = 4 → q = ⟨4, q.id, 0, 0, 0, 0⟩) ∧ (q.kind = 5 → q = ⟨5, q.id, 0, 0, 0, 0⟩) ∧ (q.kind = 6 → q = ⟨6, 0, 0, 0, 0, 0⟩) ∧ (q.kind = 7 → q = ⟨7, q.id, 0, 0, 0, 0⟩) := by
 have v := verdict_ok hv
 exact ⟨v.kind.1, v.kind.2, req_form v.ok⟩
theorem ids_n7 {h : House} {q : Req} (hk : ¬ q.kind = 7) : idsM h q = [] := by rw [idsM, if_neg (fun w => hk w.2)]
instance sDo_c : HC 80 (∀ (W : World) (cs : List Value) (h : House) (q : Req), HsR W cs h → HouseSz h →Sp W [] 80 #[.agg cs.toArray, .agg (reqE q).toArray] (RT2 (RHs (doM h q)) (RRep 3 (verdict h q) (idsM h q)))) := by
 refine ⟨fun W cs h q hh hsz => ?_⟩
 have hh1 := hh; obtain ⟨a1, c1, a2, c2, a3, c3, a4, c4, a5, c5, rfl, h1, h2, h3, h4, h5, h6, h7, h8, h9, h10⟩ := hh
 refine gENT (vs := [_, _]) Tryz.func80 (gNILN 3 intL ?_)
 by_cases hv : verdict h q = 0
 · obtain ⟨k1, k2, e1, e2, e3, e4, e5, e6, e7⟩ := done_v hv
   repeat' first | exact absurd hv ‹verdict h q ≠ 0› | (refine idRU ?_; refine rT2 (p2 := _ ∧ _) ?_ (h2 := fun k9 => pREP (h := k9))) | refine ST ?_ | refine ST2 ?_ | intro _ | apply And.intro
   all_goals first | exact (ids_n7 (by omega)).symm | exact congrArg (verdict h) (e1 (by assumption)).symm | (refine Eq.trans ?_ (congrArg (doM h) (e1 (by assumption)).symm); rfl) | exact congrArg (verdict h) (e2 (by assumption)).symm | (refine Eq.trans ?_ (congrArg (doM h) (e2 (by assumption)).symm); rfl) | exact congrArg (verdict h) (e3 (by assumption)).symm | (refine Eq.trans ?_ (congrArg (doM h) (e3 (by assumption)).symm); rfl) | exact congrArg (verdict h) (e4 (by assumption)).symm | (refine Eq.trans ?_ (congrArg (doM h) (e4 (by assumption)).symm); rfl) | exact congrArg (verdict h) (e5 (by assumption)).symm | (refine Eq.trans ?_ (congrArg (doM h) (e5 (by assumption)).symm); rfl) | exact congrArg (verdict h) (e6 (by assumption)).symm | (refine Eq.trans ?_ (congrArg (doM h) (e6 (by assumption)).symm); rfl) | exact congrArg (verdict h) (e7 (by omega)).symm | (refine Eq.trans ?_ (congrArg (doM h) (e7 (by omega)).symm); rfl) | exact congrArg (idsM h) (e7 (by omega)).symm | trace_state
 · repeat' first | exact absurd ‹verdict h q = 0› hv | (refine idRU ?_; refine rT2 (p2 := _ ∧ _) ?_ (h2 := fun k9 => pREP (h := k9))) | refine ST ?_ | refine ST2 ?_ | intro _ | apply And.intro
   all_goals first | (rw [doM, if_neg hv]; done) | rfl | (rw [idsM, if_neg (fun w => hv w.1)]; done) | trace_state
end SX
end Go.Proofs.YtejojcoaohlfbaaGreat
