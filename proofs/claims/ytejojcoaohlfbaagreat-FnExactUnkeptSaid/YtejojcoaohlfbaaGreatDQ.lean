/- Texts of this claim, put together by program. -/
import Derived.Test.YtejojcoaohlfbaaGreatBQ
import Derived.Test.YtejojcoaohlfbaaGreatDN
import Derived.Test.YtejojcoaohlfbaaGreatBP
import Derived.Test.YtejojcoaohlfbaaGreatBW
import Derived.Test.YtejojcoaohlfbaaGreatDC
import Derived.Test.YtejojcoaohlfbaaGreatCD
namespace Go.Proofs.YtejojcoaohlfbaaGreat
namespace SX
open Go Go.RowKit
set_option linter.unusedVariables false
set_option linter.unusedSimpArgs false
set_option maxRecDepth 10000
set_option maxHeartbeats 1000000
attribute [local irreducible] CD DN OPL AT QL QT CND RETG BKP HL HT HO slA slHo slP ptC pull pulls
set_option maxHeartbeats 8000000
instance iMovedT_c : HC 252 (∀ (W : World) (l : Ledger) (n : Int) (g c : Nat) (f : Ledger → Ledger), g ∈ [322] → (∀ (w : World) (b : Nat) (x : Ledger), Sp w [ptC b 64 (ledgerE x), ptC c 3 [vi n]] g #[.pointer (some ⟨b, 0, none⟩), .pointer (some ⟨c, 0, none⟩)] (RLd b c n (f x))) →Sp W [ptC c 3 [vi n]] 252 #[.agg (ledgerE l).toArray, vi n, .func (.func g) #[] #[.pointer (some ⟨c, 0, none⟩)]] (RMv c n (movL l n f) (movB l n f))) := by
 refine ⟨fun W l n g c f hgs hg => ?_⟩
 refine gENTO (vs := [_, _, _]) Tryz.func252 (fun S0 => ?_)
 repeat' first | refine ST ?_ | refine ST2 ?_ | intro _ | apply And.intro
 · exact rEX () (plS PU pl0) (by simp [movL, movB, *, ledgerE])
 · exact rEX () (plS PU pl0) (by simp [movL, movB, *, ledgerE])
 refine aRUN (oOP fun bs hb => ?_)
 obtain ⟨b1, b2, b3, rfl⟩ := len3 hb
 simp only [expT, expS, expC, List.getElem?_cons_zero, List.getElem?_cons_succ, List.cons_append, List.nil_append]
 refine oPV (d := 8) (b := b3) rfl (gNXT ?_)
 refine (aCX (inst := ⟨trivial⟩) (S := True) (hcon := fun _ w hw => hg w b3 l) (hp := plS PU (plS PU pl0)) (hc := by simp only [List.mem_cons, List.not_mem_nil, or_false] at hgs; rcases hgs with rfl; kernel_rfl) (k := fun x => oVP (d := 8) (b := b3) rfl ?_))
 repeat' first | refine ST ?_ | refine ST2 ?_ | intro _ | apply And.intro
 all_goals exact rEX () (plS PU pl0) (by simp [movL, movB, *, ledgerE])
instance iTie1_c : HC 322 (∀ (W : World) (b c : Nat) (n : Int) (x : Ledger),Sp W [ptC b 64 (ledgerE x), ptC c 3 [vi n]] 322 #[.pointer (some ⟨b, 0, none⟩), .pointer (some ⟨c, 0, none⟩)] (RLd b c n ⟨x.total, x.free, x.held, x.sold, wr (x.tied + n)⟩)) := by
 refine ⟨fun W b c n x => ?_⟩
 refine gENTO (vs := [_, _]) Tryz.func322 (fun S0 => cVP (d := 0) rfl (cVP (d := 1) rfl ?_))
 repeat' first | refine ST ?_ | refine ST2 ?_ | intro _ | apply And.intro
 all_goals exact rEX () (plS PU (plS PU pl0)) rfl
theorem mov_Tie (l : Ledger) (n : Int) : movL l n (fun x => ⟨x.total, x.free, x.held, x.sold, wr (x.tied + n)⟩) = lTie l n := movL_eq fun h hn => by
 have a1 := h.total; have a2 := h.free; have a3 := h.held; have a4 := h.sold; have a5 := h.sum; have a6 := h.tied
 have e1 : wr l.free = l.free := wr_of (by omega) (by omega)
 have e2 : wr l.held = l.held := wr_of (by omega) (by omega)
 have e3 : wr l.sold = l.sold := wr_of (by omega) (by omega)
 have e4 : wr l.tied = l.tied := wr_of (by omega) (by omega)
 simp only [mvL, Int.add_zero, ← Int.sub_eq_add_neg, e1, e2, e3, e4]
instance iTie_c : HC 233 (∀ (W : World) (l : Ledger) (n : Int),Sp W [] 233 #[.agg (ledgerE l).toArray, vi n] (RT2 (RV (.agg (ledgerE (lTie l n)).toArray)) RBo)) := by
 refine ⟨fun W l n => gENT (vs := [_, _]) Tryz.func233 ?_⟩
 repeat' first | refine ST ?_ | refine ST2 ?_ | intro _ | apply And.intro
 refine tOP fun bs hb => ?_
 obtain ⟨b1, b2, b3, rfl⟩ := len3 hb
 simp only [expT, expS, expC, List.getElem?_cons_zero, List.getElem?_cons_succ, List.cons_append, List.nil_append]
 repeat' first | refine ST ?_ | refine ST2 ?_ | intro _ | apply And.intro
 refine aCX (hcon := by intro c w hw; exact c w l n _ b2 (fun x => ⟨x.total, x.free, x.held, x.sold, wr (x.tied + n)⟩) (by simp) (fun w b x => iTie1_c.pf w b b2 n x)) (hp := plS PU pl0) (k := fun x => ?_)
 repeat' first | refine ST ?_ | refine ST2 ?_ | intro _ | apply And.intro
 all_goals first | trivial | (rw [mov_Tie]; rfl)
theorem freeE {h : House} {cabin n : Int} (hk : cabin.toNat < h.cabins.length) : freeM h cabin n = ⟨h.rules, h.now, h.turn, h.parties, h.cabins.set cabin.toNat ⟨lFree (h.cabins[cabin.toNat]'hk).seats n, (h.cabins[cabin.toNat]'hk).row, (h.cabins[cabin.toNat]'hk).wheel⟩, todoPut h.todo cabin, h.jobs⟩ := by
 rw [freeM, modC_of _ (List.getElem?_eq_getElem hk)]; rfl
instance iFreeSeats_c : HC 58 (∀ (W : World) (cs : List Value) (h : House) (cabin n : Int), HsR W cs h → HouseSz h →Sp W [] 58 #[.agg cs.toArray, vi cabin, vi n] (RT2 (RHs (doM h ⟨3, 0, cabin, 0, n, 0⟩)) (RV (vi (verdict h ⟨3, 0, cabin, 0, n, 0⟩))))) := by
 refine ⟨fun W cs h cabin n hh hsz => ?_⟩
 have hh1 := hh; obtain ⟨a1, c1, a2, c2, a3, c3, a4, c4, a5, c5, rfl, h1, h2, h3, h4, h5, h6, h7, h8, h9, h10⟩ := hh
 refine gENT (vs := [_, _, _]) Tryz.func58 ?_
 have hp9 := hsz.2.1; have ht9 := hsz.2.2.2.1
 have hsb : ∀ c ∈ h.cabins, c.wheel.spoke.flatten.length ≤ 1048576 := fun c hc => (hsz.2.2.2.2.2 c hc).2.2
 by_cases hv : verdict h ⟨3, 0, cabin, 0, n, 0⟩ = 0
 · obtain ⟨hR, hc0, hc1⟩ := doneV rfl rfl hv
   have hd : doM h ⟨3, 0, cabin, 0, n, 0⟩ = freeM h cabin n := by rw [doM, if_pos hv]; rfl
   rw [hd, freeE (by omega)]
   repeat' first | refine ST ?_ | refine ST2 ?_ | intro _ | apply And.intro
   all_goals first | exact absurd hv ‹verdict h _ ≠ 0› | exact hv.symm | rfl | (exfalso; omega) | trace_state
 · repeat' first | refine ST ?_ | refine ST2 ?_ | intro _ | apply And.intro
   all_goals first | (rw [doM, if_neg hv]; done) | exact absurd ‹_› hv | rfl | trace_state
instance iDecline_c : HC 71 (∀ (W : World) (cs : List Value) (h : House) (id : Int), HsR W cs h → HouseSz h →Sp W [] 71 #[.agg cs.toArray, vi id] (RT2 (RHs (doM h ⟨5, id, 0, 0, 0, 0⟩)) (RV (vi (verdict h ⟨5, id, 0, 0, 0, 0⟩))))) := by
 refine ⟨fun W cs h id hh hsz => ?_⟩
 have hh1 := hh; obtain ⟨a1, c1, a2, c2, a3, c3, a4, c4, a5, c5, rfl, h1, h2, h3, h4, h5, h6, h7, h8, h9, h10⟩ := hh
 refine gENT (vs := [_, _]) Tryz.func71 ?_
 by_cases hv : verdict h ⟨5, id, 0, 0, 0, 0⟩ = 0
 · obtain ⟨hR, pm, pid, pst⟩ := ansV rfl (.inr rfl) hv
   obtain ⟨p1, p2, p3⟩ := at_fact hR pm pid
   have p4 := p3 (by omega)
   have hd : doM h ⟨5, id, 0, 0, 0, 0⟩ = declineM h (partyOf h.parties id) := by rw [doM, if_pos hv]; rfl
   have hpe := List.getElem?_eq_getElem (show (atId h.parties id).toNat < h.parties.length by omega)
   have g := hR.pr pm; have g1 := g.cab; have g2 := g.frm; have g3 := hR.cabs
   rw [p4] at hd pm pst pid g1 g2
   have hf := (fails_hp hR pm pst).sz
   have hf9 := hf.2.2.2.1
   have hdf := decl_fails hR pm pst
   rw [← hdf] at hf9
   have hp9 := hsz.2.1
   have hd2 : doM h ⟨5, id, 0, 0, 0, 0⟩ = withTodo (declM h (h.parties[(atId h.parties id).toNat]'(by omega))) (todoPut (declM h (h.parties[(atId h.parties id).toNat]'(by omega))).todo (h.parties[(atId h.parties id).toNat]'(by omega)).cabin) := by rw [hdf]; exact hd
   rw [hd2]
   clear hf hdf hd hd2 g p3 p4
   repeat' first | refine ST ?_ | refine ST2 ?_ | intro _ | apply And.intro
   all_goals first | exact absurd hv ‹verdict h _ ≠ 0› | exact hv.symm | rfl | (exfalso; omega) | trace_state
 · repeat' first | refine ST ?_ | refine ST2 ?_ | intro _ | apply And.intro
   all_goals first | (rw [doM, if_neg hv]; done) | exact absurd ‹_› hv | rfl | trace_state
theorem canO_no {h : House} {p : Party} {id : Int} {c : Cabin} (hs : p.state = 2) (hx : h.cabins[p.cabin.toNat]? = some c) (hf : p.from' < 0) (hid : p.id = id) : cancelM h p = ⟨h.rules, h.now, h.turn, partyCut h.parties id, h.cabins.set p.cabin.toNat ⟨lDrop c.seats p.size, c.row, wheelCut c.wheel ⟨p.until', id⟩⟩, todoPut h.todo p.cabin, h.jobs⟩ := by
 subst hid
 rw [cancelM, if_pos hs]
 unfold goneM withTodo dropM
 dsimp only
 rw [if_pos hf, modC_of _ hx]; rfl
theorem canO_fr {h : House} {p : Party} {id : Int} {c y : Cabin} (hs : p.state = 2) (hx : h.cabins[p.cabin.toNat]? = some c) (hf : ¬ p.from' < 0) (hy : (h.cabins.set p.cabin.toNat ⟨lDrop c.seats p.size, c.row, wheelCut c.wheel ⟨p.until', id⟩⟩)[p.from'.toNat]? = some y) (hid : p.id = id) : cancelM h p = ⟨h.rules, h.now, h.turn, partyCut h.parties id, (h.cabins.set p.cabin.toNat ⟨lDrop c.seats p.size, c.row, wheelCut c.wheel ⟨p.until', id⟩⟩).set p.from'.toNat ⟨lUntie y.seats p.size, y.row, y.wheel⟩, todoPut h.todo p.cabin, h.jobs⟩ := by
 subst hid
 rw [cancelM, if_pos hs]
 unfold goneM withTodo dropM
 dsimp only
 rw [if_neg hf, modC_of _ hx]
 show (House.mk _ _ _ _ (modC (h.cabins.set p.cabin.toNat ⟨lDrop c.seats p.size, c.row, wheelCut c.wheel ⟨p.until', p.id⟩⟩) p.from' _) _ _) = _
 rw [modC_of _ hy]; rfl
theorem canW_no {h : House} {p : Party} {id : Int} {c : Cabin} (hs : ¬ p.state = 2) (hx : h.cabins[p.cabin.toNat]? = some c) (hf : p.from' < 0) (hid : p.id = id) : cancelM h p = ⟨h.rules, h.now, h.turn, partyCut h.parties id, h.cabins.set p.cabin.toNat ⟨c.seats, queueCut c.row id, c.wheel⟩, h.todo, h.jobs⟩ := by
 subst hid
 rw [cancelM, if_neg hs]
 unfold goneM
 dsimp only
 rw [if_pos hf, modC_of _ hx]; rfl
theorem canW_fr {h : House} {p : Party} {id : Int} {c y : Cabin} (hs : ¬ p.state = 2) (hx : h.cabins[p.cabin.toNat]? = some c) (hf : ¬ p.from' < 0) (hy : (h.cabins.set p.cabin.toNat ⟨c.seats, queueCut c.row id, c.wheel⟩)[p.from'.toNat]? = some y) (hid : p.id = id) : cancelM h p = ⟨h.rules, h.now, h.turn, partyCut h.parties id, (h.cabins.set p.cabin.toNat ⟨c.seats, queueCut c.row id, c.wheel⟩).set p.from'.toNat ⟨lUntie y.seats p.size, y.row, y.wheel⟩, h.todo, h.jobs⟩ := by
 subst hid
 rw [cancelM, if_neg hs]
 unfold goneM
 dsimp only
 rw [if_neg hf, modC_of _ hx]
 show (House.mk _ _ _ _ (modC (h.cabins.set p.cabin.toNat ⟨c.seats, queueCut c.row p.id, c.wheel⟩) p.from' _) _ _) = _
 rw [modC_of _ hy]; rfl
theorem iCancel_wait (W : World) (cs : List Value) (h : House) (id : Int) (hh : HsR W cs h) (hsz : HouseSz h) (hv : verdict h ⟨2, id, 0, 0, 0, 0⟩ = 0) (sd : (partyOf h.parties id).state = 1) : Sp W [] 128 #[.agg cs.toArray, vi id] (RT2 (RHs (doM h ⟨2, id, 0, 0, 0, 0⟩)) (RV (vi (verdict h ⟨2, id, 0, 0, 0, 0⟩)))) := by
 have hh1 := hh; obtain ⟨a1, c1, a2, c2, a3, c3, a4, c4, a5, c5, rfl, h1, h2, h3, h4, h5, h6, h7, h8, h9, h10⟩ := hh
 have hsb : ∀ c ∈ h.cabins, c.wheel.spoke.flatten.length ≤ 1048576 := fun c hc => (hsz.2.2.2.2.2 c hc).2.2
 refine gENT (vs := [_, _]) Tryz.func128 ?_
 obtain ⟨hR, pm, pid⟩ := cutV rfl rfl hv
 obtain ⟨p1, p2, p3⟩ := at_fact hR pm pid
 have p4 := p3 (by omega)
 have hd : doM h ⟨2, id, 0, 0, 0, 0⟩ = cancelM h (partyOf h.parties id) := by rw [doM, if_pos hv]; rfl
 have g := hR.pr pm; have g1 := g.cab; have g2 := g.frm; have g3 := hR.cabs
 rw [p4] at hd g1 g2 pid sd
 have hp9 := hsz.2.1; have ht9 := hsz.2.2.2.1
 have hk : ((h.parties[(atId h.parties id).toNat]'(by omega)).cabin).toNat < h.cabins.length := by omega
 have hx := List.getElem?_eq_getElem hk
 obtain ⟨hs1, hs2, hs3⟩ := hsz.2.2.2.2.2 _ (List.getElem_mem hk)
 clear g p3 p4 pm
 have sn : ¬ (h.parties[(atId h.parties id).toNat]'(by omega)).state = 2 := by omega
 repeat' first | exact absurd hv ‹verdict h _ ≠ 0› | refine ST ?_ | refine ST2 ?_ | refine hLH (hC := by exact NT9) (k := ?_) | refine hHL (hp := by exact PU9) (k := fun i9 => ?_) | refine hSH (hp := by exact PU9) (k := ?_) | refine hEND (hC := by exact eb5 PU9 PU9 PU9 PU9 PU9) (k := ?_) | (refine goLd ?_; refine uUNC (hp := by exact PU9) (hp1 := by exact PU9) (hp2 := by exact PU9) (k := ?_); refine hHL (hp := by exact PU9) (k := fun i9 => ?_)) | intro _ | apply And.intro
 all_goals first | exact hv.symm | (exfalso; omega) | (rw [hd, canW_no sn hx (by omega) pid]; done) | exact (hd.trans (canW_fr sn hx (by omega) (List.getElem?_eq_getElem (by rw [List.length_set]; omega)) pid)).symm | rfl | trace_state
theorem iCancel_off (W : World) (cs : List Value) (h : House) (id : Int) (hh : HsR W cs h) (hsz : HouseSz h) (hv : verdict h ⟨2, id, 0, 0, 0, 0⟩ = 0) (sd : (partyOf h.parties id).state = 2) : Sp W [] 128 #[.agg cs.toArray, vi id] (RT2 (RHs (doM h ⟨2, id, 0, 0, 0, 0⟩)) (RV (vi (verdict h ⟨2, id, 0, 0, 0, 0⟩)))) := by
 have hh1 := hh; obtain ⟨a1, c1, a2, c2, a3, c3, a4, c4, a5, c5, rfl, h1, h2, h3, h4, h5, h6, h7, h8, h9, h10⟩ := hh
 have hsb : ∀ c ∈ h.cabins, c.wheel.spoke.flatten.length ≤ 1048576 := fun c hc => (hsz.2.2.2.2.2 c hc).2.2
 refine gENT (vs := [_, _]) Tryz.func128 ?_
 obtain ⟨hR, pm, pid⟩ := cutV rfl rfl hv
 obtain ⟨p1, p2, p3⟩ := at_fact hR pm pid
 have p4 := p3 (by omega)
 have hd : doM h ⟨2, id, 0, 0, 0, 0⟩ = cancelM h (partyOf h.parties id) := by rw [doM, if_pos hv]; rfl
 have g := hR.pr pm; have g1 := g.cab; have g2 := g.frm; have g3 := hR.cabs
 rw [p4] at hd g1 g2 pid sd
 have hp9 := hsz.2.1; have ht9 := hsz.2.2.2.1
 have hk : ((h.parties[(atId h.parties id).toNat]'(by omega)).cabin).toNat < h.cabins.length := by omega
 have hx := List.getElem?_eq_getElem hk
 obtain ⟨hs1, hs2, hs3⟩ := hsz.2.2.2.2.2 _ (List.getElem_mem hk)
 clear g p3 p4 pm
 repeat' first | exact absurd hv ‹verdict h _ ≠ 0› | refine ST ?_ | refine ST2 ?_ | refine hLH (hC := by exact NT9) (k := ?_) | refine hHL (hp := by exact PU9) (k := fun i9 => ?_) | refine hSH (hp := by exact PU9) (k := ?_) | refine hEND (hC := by exact eb5 PU9 PU9 PU9 PU9 PU9) (k := ?_) | (refine goLd ?_; refine uUNC (hp := by exact PU9) (hp1 := by exact PU9) (hp2 := by exact PU9) (k := ?_); refine hHL (hp := by exact PU9) (k := fun i9 => ?_)) | intro _ | apply And.intro
 all_goals first | exact hv.symm | (exfalso; omega) | (rw [hd, canO_no sd hx (by omega) pid]; done) | exact (hd.trans (canO_fr sd hx (by omega) (List.getElem?_eq_getElem (by rw [List.length_set]; omega)) pid)).symm | rfl | trace_state
instance iCancel_c : HC 128 (∀ (W : World) (cs : List Value) (h : House) (id : Int), HsR W cs h → HouseSz h →Sp W [] 128 #[.agg cs.toArray, vi id] (RT2 (RHs (doM h ⟨2, id, 0, 0, 0, 0⟩)) (RV (vi (verdict h ⟨2, id, 0, 0, 0, 0⟩))))) := by
 refine ⟨fun W cs h id hh hsz => ?_⟩
 by_cases hv : verdict h ⟨2, id, 0, 0, 0, 0⟩ = 0
 · obtain ⟨hR, pm, pid⟩ := cutV rfl rfl hv
   rcases (hR.pr pm).st with h9 | h9
   · exact iCancel_wait W cs h id hh hsz hv h9.1
   · exact iCancel_off W cs h id hh hsz hv h9.1
 · have hh1 := hh; obtain ⟨a1, c1, a2, c2, a3, c3, a4, c4, a5, c5, rfl, h1, h2, h3, h4, h5, h6, h7, h8, h9, h10⟩ := hh
   refine gENT (vs := [_, _]) Tryz.func128 ?_
   repeat' first | refine ST ?_ | refine ST2 ?_ | intro _ | apply And.intro
   all_goals first | (rw [doM, if_neg hv]; done) | exact absurd ‹_› hv | rfl | trace_state
theorem joinPut {h : House} {q : Req} (hR : HRep h) (v : JoinV h q) (hk : q.cabin.toNat < h.cabins.length) : queuePut (h.cabins[q.cabin.toNat]'hk).row (entryOf h.rules (joinP h q) h.now) = qIns (h.cabins[q.cabin.toNat]'hk).row (entryOf h.rules (joinP h q) h.now) := by
 have hR2 := join_hp hR v
 have hx := List.getElem?_eq_getElem hk
 have v1 := v.cab; have v2 := v.frm; have v3 := v.ne
 have h1 := (agrees_row (houseP_iff.2 hR) hx).1
 obtain ⟨c', hc', hr'⟩ : ∃ c', (joinM h q).cabins[q.cabin.toNat]? = some c' ∧ c'.row = qIns (h.cabins[q.cabin.toNat]'hk).row (entryOf h.rules (joinP h q) h.now) := by
  unfold joinM
  dsimp only
  have h5 : (modC h.cabins q.cabin (rowPut (entryOf h.rules (joinP h q) h.now)))[q.cabin.toNat]? = some (rowPut (entryOf h.rules (joinP h q) h.now) (h.cabins[q.cabin.toNat]'hk)) := by
   rw [modC_at v1.1 hx, if_pos (by omega)]
  split
  · exact ⟨_, h5, rfl⟩
  · rw [modC_at (by omega) h5, if_neg (by omega)]
    exact ⟨_, rfl, rfl⟩
 have h2 := (agrees_row (houseP_iff.2 hR2) hc').1
 rw [hr'] at h2
 exact (queuePut_t (queueOk_t h1) (queueOk_t h2)).1
theorem iJoin_in (W : World) (cs : List Value) (h : House) (id cabin from' size tier : Int) (hh : HsR W cs h) (hsz : HouseSz h) (hv : verdict h ⟨1, id, cabin, from', size, tier⟩ = 0) : Sp W [] 127 #[.agg cs.toArray, vi id, vi cabin, vi from', vi size, vi tier] (RT2 (RHs (doM h ⟨1, id, cabin, from', size, tier⟩)) (RV (vi (verdict h ⟨1, id, cabin, from', size, tier⟩)))) := by
 have hh1 := hh; obtain ⟨a1, c1, a2, c2, a3, c3, a4, c4, a5, c5, rfl, h1, h2, h3, h4, h5, h6, h7, h8, h9, h10⟩ := hh
 refine gENT (vs := [_, _, _, _, _, _]) Tryz.func127 ?_
 obtain ⟨hR, v, hd⟩ := join_facts rfl hv
 have v1 := v.cab; have v2 := v.frm; dsimp only at v1 v2
 have hp9 := hsz.2.1; have ht9 := hsz.2.2.2.1
 have hk : cabin.toNat < h.cabins.length := by omega
 have hx := List.getElem?_eq_getElem hk
 obtain ⟨hs1, hs2, hs3⟩ := hsz.2.2.2.2.2 _ (List.getElem_mem hk)
 have hjp := joinPut (q := ⟨1, id, cabin, from', size, tier⟩) hR v hk
 have hC : h.cabins.set cabin.toNat ⟨(h.cabins[cabin.toNat]'hk).seats, queuePut (h.cabins[cabin.toNat]'hk).row (entryOf h.rules (joinP h ⟨1, id, cabin, from', size, tier⟩) h.now), (h.cabins[cabin.toNat]'hk).wheel⟩ = modC h.cabins cabin (rowPut (entryOf h.rules (joinP h ⟨1, id, cabin, from', size, tier⟩) h.now)) := by
  rw [modC_of _ hx, hjp]; rfl
 repeat' first | exact absurd hv ‹verdict h _ ≠ 0› | refine ST ?_ | refine ST2 ?_ | refine hLH (hC := by exact NT9) (k := ?_) | refine hHL (hp := by exact PU9) (k := fun i9 => ?_) | refine hSH (hp := by exact PU9) (k := ?_) | refine hEND (hC := by exact eb5 PU9 PU9 PU9 PU9 PU9) (k := ?_) | (refine goLd ?_; refine uUNC (hp := by exact PU9) (hp1 := by exact PU9) (hp2 := by exact PU9) (k := ?_); refine hHL (hp := by exact PU9) (k := fun i9 => ?_)) | intro _ | apply And.intro
 all_goals first | exact hv.symm | (exfalso; omega) | (refine Eq.trans ?_ (hd.trans (joinE (h := h) (q := ⟨1, id, cabin, from', size, tier⟩) (show ¬ from' < 0 by omega) _ hC (by rw [List.length_set]; show from'.toNat < h.cabins.length; omega))).symm; rfl) | (refine Eq.trans ?_ (hd.trans (joinE0 (h := h) (q := ⟨1, id, cabin, from', size, tier⟩) (show from' < 0 by omega))).symm; rw [← hC]; rfl) | trace_state
instance iJoin_c : HC 127 (∀ (W : World) (cs : List Value) (h : House) (id cabin from' size tier : Int), HsR W cs h → HouseSz h →Sp W [] 127 #[.agg cs.toArray, vi id, vi cabin, vi from', vi size, vi tier] (RT2 (RHs (doM h ⟨1, id, cabin, from', size, tier⟩)) (RV (vi (verdict h ⟨1, id, cabin, from', size, tier⟩))))) := by
 refine ⟨fun W cs h id cabin from' size tier hh hsz => ?_⟩
 by_cases hv : verdict h ⟨1, id, cabin, from', size, tier⟩ = 0
 · exact iJoin_in W cs h id cabin from' size tier hh hsz hv
 · have hh1 := hh; obtain ⟨a1, c1, a2, c2, a3, c3, a4, c4, a5, c5, rfl, h1, h2, h3, h4, h5, h6, h7, h8, h9, h10⟩ := hh1
   refine gENT (vs := [_, _, _, _, _, _]) Tryz.func127 ?_
   repeat' first | refine ST ?_ | refine ST2 ?_ | intro _ | apply And.intro
   all_goals first | (rw [doM, if_neg hv]; done) | exact absurd ‹_› hv | rfl | trace_state
instance iDo_c : HC 45 (∀ (W : World) (cs : List Value) (h : House) (q : Req), HsR W cs h → HouseSz h →Sp W [] 45 #[.agg cs.toArray, .agg (reqE q).toArray] (RT2 (RHs (doM h q)) (RRep 3 (verdict h q) (idsM h q)))) := by
 refine ⟨fun W cs h q hh hsz => ?_⟩
 have hh1 := hh; obtain ⟨a1, c1, a2, c2, a3, c3, a4, c4, a5, c5, rfl, h1, h2, h3, h4, h5, h6, h7, h8, h9, h10⟩ := hh
 refine gENT (vs := [_, _]) Tryz.func45 (gNILN 3 intL ?_)
 by_cases hv : verdict h q = 0
 · obtain ⟨k1, k2, e1, e2, e3, e4, e5, e6, e7⟩ := done_v hv
   repeat' first | exact absurd hv ‹verdict h q ≠ 0› | (refine idRU ?_; refine rT2 (p2 := _ ∧ _) ?_ (h2 := fun k9 => pREP (h := k9))) | refine ST ?_ | refine ST2 ?_ | intro _ | apply And.intro
   all_goals first | exact (ids_n7 (by omega)).symm | exact congrArg (verdict h) (e1 (by assumption)).symm | (refine Eq.trans ?_ (congrArg (doM h) (e1 (by assumption)).symm); rfl) | exact congrArg (verdict h) (e2 (by assumption)).symm | (refine Eq.trans ?_ (congrArg (doM h) (e2 (by assumption)).symm); rfl) | exact congrArg (verdict h) (e3 (by assumption)).symm | (refine Eq.trans ?_ (congrArg (doM h) (e3 (by assumption)).symm); rfl) | exact congrArg (verdict h) (e4 (by assumption)).symm | (refine Eq.trans ?_ (congrArg (doM h) (e4 (by assumption)).symm); rfl) | exact congrArg (verdict h) (e5 (by assumption)).symm | (refine Eq.trans ?_ (congrArg (doM h) (e5 (by assumption)).symm); rfl) | exact congrArg (verdict h) (e6 (by assumption)).symm | (refine Eq.trans ?_ (congrArg (doM h) (e6 (by assumption)).symm); rfl) | exact congrArg (verdict h) (e7 (by omega)).symm | (refine Eq.trans ?_ (congrArg (doM h) (e7 (by omega)).symm); rfl) | exact congrArg (idsM h) (e7 (by omega)).symm | trace_state
 · repeat' first | exact absurd ‹verdict h q = 0› hv | (refine idRU ?_; refine rT2 (p2 := _ ∧ _) ?_ (h2 := fun k9 => pREP (h := k9))) | refine ST ?_ | refine ST2 ?_ | intro _ | apply And.intro
   all_goals first | (rw [doM, if_neg hv]; done) | rfl | (rw [idsM, if_neg (fun w => hv w.1)]; done) | trace_state
end SX
end Go.Proofs.YtejojcoaohlfbaaGreat
