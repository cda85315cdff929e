/- Texts of this claim, put together by program. -/
import Derived.Test.YtejojcoaohlfbaaGreatMdlg
import Derived.Test.YtejojcoaohlfbaaGreatSu5
import Derived.Test.YtejojcoaohlfbaaGreatSxd
import Derived.Test.YtejojcoaohlfbaaGreatMdly
import Derived.ProofKit
import Derived.OpenShut
import Derived.Handed
namespace Go.Proofs.YtejojcoaohlfbaaGreat
namespace SX
set_option linter.unusedVariables false
set_option linter.unusedSimpArgs false
open Go Go.RowKit
def partyOf (l : List Party) (id : Int) : Party := match l[(atId l id).toNat]? with
 | some p => p
 | none => partyZ
theorem partyOf_of {l : List Party} {id : Int} {p : Party} (h : l[(atId l id).toNat]? = some p) : partyOf l id = p := by simp [partyOf, h]
theorem partyOf_mem {l : List Party} (hd : (l.map (·.id)).Nodup) {p : Party} (hp : p ∈ l) : partyOf l p.id = p := by
 obtain ⟨k, h1, h2⟩ := atId_of hd hp
 exact partyOf_of (by rw [h1]; simpa using h2)
theorem partyOf_in {l : List Party} {id : Int} (h : ¬ atId l id < 0) : partyOf l id ∈ l ∧ (partyOf l id).id = id := by
 obtain ⟨p, h1, h2⟩ := atId_at h
 rw [partyOf_of h1]
 exact ⟨List.mem_of_getElem? h1, h2⟩
theorem HRep.ids {h : House} (hp : HRep h) : (h.parties.map (·.id)).Nodup := hp.good.ids
theorem cut_mem {l : List Party} {p x : Party} (hd : (l.map (·.id)).Nodup) (hp : p ∈ l) (hx : x ∈ l) (hne : x.id ≠ p.id) : x ∈ partyCut l p.id := by
 rcases List.mem_cons.1 ((partyCut_perm hd hp).mem_iff.1 hx) with h | h
 · rw [h] at hne; exact absurd rfl hne
 · exact h
theorem put_mem {l : List Party} {p q x : Party} (hd : (l.map (·.id)).Nodup) (hp : p ∈ l) (he : q.id = p.id) (hx : x ∈ l) (hne : x.id ≠ p.id) : x ∈ partyPut l q :=
 (partyPut_perm hd hp he).mem_iff.2 (List.mem_cons_of_mem _ (cut_mem hd hp hx hne))
theorem fails_parties {h : House} {p : Party} : (failsM h p).parties = if failedB h.rules p h.now then partyPut h.parties (failedP h.rules p h.now) else partyCut h.parties p.id := by
 unfold failsM
 split <;> rfl
theorem fails_mem {h : House} {p x : Party} (hp : HRep h) (hm : p ∈ h.parties) (hx : x ∈ h.parties) (hne : x.id ≠ p.id) : x ∈ (failsM h p).parties := by
 rw [fails_parties]
 split
 · exact put_mem hp.ids hm rfl hx hne
 · exact cut_mem hp.ids hm hx hne
theorem fails_same {h : House} {p : Party} : (failsM h p).rules = h.rules ∧ (failsM h p).now = h.now ∧ (failsM h p).turn = h.turn ∧ (failsM h p).todo = h.todo ∧ (failsM h p).jobs = h.jobs ∧ (failsM h p).cabins.length = h.cabins.length := by
 unfold failsM
 split
 · exact ⟨rfl, rfl, rfl, rfl, rfl, modC_len _ _ _⟩
 · refine ⟨rfl, rfl, rfl, rfl, rfl, ?_⟩
   unfold goneM dropM
   dsimp only
   split <;> simp only [modC_len]
noncomputable def dueGo (wh : Wheel) (now : Int) : List Pin := (pinsOf wh).filter fun p => decide (p.at' ≤ now)
def dueL (now : Int) (l : List Pin) : List Pin := l.filter fun p => decide (p.at' ≤ now)
theorem dueL_cons {now : Int} {p : Pin} {l : List Pin} : dueL now (p :: l) = if p.at' ≤ now then p :: dueL now l else dueL now l := by
 unfold dueL
 rw [List.filter_cons]
 by_cases h : p.at' ≤ now <;> simp [h]
theorem pinsOf_le (wh : Wheel) : (pinsOf wh).length ≤ 10 := by
 unfold pinsOf
 split
 · rename_i h
   have hw := wheelP_of h
   rw [pinsSort_foldr, (foldr_perm _).length_eq]; exact hw.2.1
 · simp
theorem dueGo_len (wh : Wheel) (now : Int) : (dueGo wh now).length ≤ 10 := Nat.le_trans (List.length_filter_le _ _) (pinsOf_le wh)
noncomputable def dueIds (h : House) (cabin : Int) : List Int := match h.cabins[cabin.toNat]? with
 | some c => (dueGo c.wheel h.now).map (·.id)
 | none => []
theorem dueIds_of {h : House} {cabin : Int} {c : Cabin} (hc : h.cabins[cabin.toNat]? = some c) : dueIds h cabin = (dueGo c.wheel h.now).map (·.id) := by simp [dueIds, hc]
theorem dueIds_len (h : House) (cabin : Int) : (dueIds h cabin).length ≤ 10 := by
 unfold dueIds
 split
 · rw [List.length_map]; exact dueGo_len _ _
 · simp
noncomputable def expireGo : List Int → House → House
 | [], h => h
 | id :: ids, h => expireGo ids (failsM h (partyOf h.parties id))
noncomputable def expireM (h : House) (cabin : Int) : House := expireGo (dueIds h cabin) h
def DueP (l : List Party) (ids : List Int) : Prop := ids.Nodup ∧ ∀ id ∈ ids, ∃ p ∈ l, p.id = id ∧ p.state = 2
theorem due_start {h : House} {cabin : Int} (hp : HRep h) (h0 : 0 ≤ cabin) : DueP h.parties (dueIds h cabin) := by
 unfold dueIds
 split
 · rename_i c hc
   have hr := (hp.cab _ c hc).2.1
   have hw := hr.wh
   unfold dueGo
   rw [pinsOf_of hw, pinsSort_foldr]
   have hper := foldr_perm (lt := pinLess) c.wheel.spoke.flatten
   constructor
   · have h1 := (hper.map (·.id)).nodup_iff.2 hw.2.2.2.1
     exact h1.sublist (List.Sublist.map _ List.filter_sublist)
   · intro id hid
     obtain ⟨x, hx, rfl⟩ := List.mem_map.1 hid
     have h2 := hper.mem_iff.1 (List.mem_filter.1 hx).1
     obtain ⟨q, hq, h3, _, h5⟩ := (hr.pin x).1 h2
     exact ⟨q, hq, by rw [h5], h3⟩
 · exact ⟨List.nodup_nil, fun id h => absurd h List.not_mem_nil⟩
theorem due_step {h : House} {id : Int} {ids : List Int} (hp : HRep h) (hd : DueP h.parties (id :: ids)) :
 partyOf h.parties id ∈ h.parties ∧ (partyOf h.parties id).id = id ∧ (partyOf h.parties id).state = 2 ∧ HRep (failsM h (partyOf h.parties id)) ∧ DueP (failsM h (partyOf h.parties id)).parties ids := by
 obtain ⟨h1, h2⟩ := hd
 obtain ⟨p, hpm, hid, hst⟩ := h2 id (by simp)
 have he : partyOf h.parties id = p := by rw [← hid]; exact partyOf_mem hp.ids hpm
 rw [he]
 refine ⟨hpm, hid, hst, fails_hp hp hpm hst, (List.nodup_cons.1 h1).2, fun x hx => ?_⟩
 obtain ⟨q, hq, hqi, hqs⟩ := h2 x (by simp [hx])
 refine ⟨q, fails_mem hp hpm hq fun he => ?_, hqi, hqs⟩
 rw [hqi, hid] at he
 exact (List.nodup_cons.1 h1).1 (he ▸ hx)
theorem expireGo_hp : ∀ {ids : List Int} {h : House}, HRep h → DueP h.parties ids → HRep (expireGo ids h)
 | [], h, hp, _ => hp
 | id :: ids, h, hp, hd => by
   obtain ⟨_, _, _, h4, h5⟩ := due_step hp hd
   show HRep (expireGo ids (failsM h (partyOf h.parties id)))
   exact expireGo_hp h4 h5
theorem expireGo_same : ∀ (ids : List Int) (h : House), (expireGo ids h).rules = h.rules ∧ (expireGo ids h).now = h.now ∧ (expireGo ids h).turn = h.turn ∧ (expireGo ids h).todo = h.todo ∧ (expireGo ids h).jobs = h.jobs ∧ (expireGo ids h).cabins.length = h.cabins.length
 | [], h => ⟨rfl, rfl, rfl, rfl, rfl, rfl⟩
 | id :: ids, h => by
   have h1 := expireGo_same ids (failsM h (partyOf h.parties id))
   have h2 := fails_same (h := h) (p := partyOf h.parties id)
   unfold expireGo
   obtain ⟨a1, a2, a3, a4, a5, a6⟩ := h1
   obtain ⟨b1, b2, b3, b4, b5, b6⟩ := h2
   exact ⟨a1.trans b1, a2.trans b2, a3.trans b3, a4.trans b4, a5.trans b5, a6.trans b6⟩
theorem hasCab_rep {h : House} {cabin : Int} (hb : hasCab h cabin = true) : HRep h ∧ 0 ≤ cabin ∧ cabin < (h.cabins.length : Int) := by
 refine ⟨houseP_iff.1 (hasCab_P hb), hasCab_in hb⟩
theorem hasCab_mk {h : House} {cabin : Int} (hp : HRep h) (h0 : 0 ≤ cabin) (h1 : cabin < (h.cabins.length : Int)) : hasCab h cabin = true := by
 have h2 := hp.cabs
 have h3 := (rr_of hp.rules).seats
 unfold hasCab
 rw [hp.eq]
 simp only [Bool.true_and, inB, Bool.and_eq_true, decide_eq_true_eq]
 rw [wr_of (by omega) (by omega)]
 omega
theorem expire_hp {h : House} {cabin : Int} (hb : hasCab h cabin = true) : HRep (expireM h cabin) ∧ hasCab (expireM h cabin) cabin = true := by
 obtain ⟨hp, h0, h1⟩ := hasCab_rep hb
 have h2 := expireGo_hp hp (due_start hp h0)
 have h3 := (expireGo_same (dueIds h cabin) h).2.2.2.2.2
 exact ⟨h2, hasCab_mk h2 h0 (by unfold expireM; rw [h3]; exact h1)⟩
theorem nextOffer_party {h : House} {cabin : Int} (h0 : nextOffer h cabin ≠ 0) : ∃ p c, p ∈ h.parties ∧ p.id = nextOffer h cabin ∧ p.state = 1 ∧ p.cabin = cabin ∧ h.cabins[cabin.toNat]? = some c ∧ p.size ≤ c.seats.free ∧ hasCab h cabin = true := by
 have hb : hasCab h cabin = true := by
  cases hb : hasCab h cabin with
  | true => rfl
  | false => exact absurd (nextOffer_no hb) h0
 obtain ⟨hp, hc0, hc1⟩ := hasCab_rep hb
 obtain ⟨c, hc⟩ : ∃ c, h.cabins[cabin.toNat]? = some c := ⟨_, List.getElem?_eq_getElem (by omega)⟩
 have hcn : ((cabin.toNat : Nat) : Int) = cabin := by omega
 by_cases hk : firstFit c.row c.seats.free (skipGo h.now h.parties) < 0
 · exact absurd (nextOffer_neg hb hc hk) h0
 · obtain ⟨k, e, hk1, hk2, hk3, _⟩ := idxF_at c.row 0 (by unfold firstFit at hk; exact Int.not_lt.1 hk)
   have hk5 : firstFit c.row c.seats.free (skipGo h.now h.parties) = (k : Int) := by unfold firstFit; rw [hk1]; simp
   have hid : nextOffer h cabin = e.id := nextOffer_at hb hc hk (by rw [hk5]; simpa using hk2)
   have hr := (hp.cab _ c hc).2.1
   obtain ⟨p, hpm, h1, h2, rfl⟩ := (hr.row e).1 (List.mem_of_getElem? hk2)
   rw [hcn] at h2
   have hst := (entryOk_st (hp.good.pok hpm)).1 h1
   rw [entryOf_ok h1] at hid hk3
   simp only [fitE, Bool.and_eq_true, decide_eq_true_eq] at hk3
   exact ⟨p, c, hpm, hid.symm, hst, h2, hc, hk3.1, hb⟩
noncomputable def nextM (h : House) (cabin : Int) : Int := match h.cabins[cabin.toNat]? with
 | some c => if firstFit c.row c.seats.free (skipGo h.now h.parties) < 0 then 0 else match c.row[(firstFit c.row c.seats.free (skipGo h.now h.parties)).toNat]? with
   | some e => e.id
   | none => 0
 | none => 0
theorem nextM_eq {h : House} {cabin : Int} (hb : hasCab h cabin = true) : nextOffer h cabin = nextM h cabin := by
 unfold nextOffer nextM
 rw [if_pos hb]
 rfl
noncomputable def offeredM (h : House) (cabin : Int) : House := offerM h (partyOf h.parties (nextOffer h cabin))
noncomputable def offer (h : House) (cabin : Int) : House := if nextOffer h cabin = 0 then h else offeredM h cabin
theorem offerM_same {h : House} {p : Party} : (offerM h p).rules = h.rules ∧ (offerM h p).now = h.now ∧ (offerM h p).turn = h.turn ∧ (offerM h p).todo = h.todo ∧ (offerM h p).jobs = h.jobs ∧ (offerM h p).cabins.length = h.cabins.length :=
 ⟨rfl, rfl, rfl, rfl, rfl, modC_len _ _ _⟩
theorem next_party {h : House} {cabin : Int} (h0 : nextOffer h cabin ≠ 0) : partyOf h.parties (nextOffer h cabin) ∈ h.parties ∧ (partyOf h.parties (nextOffer h cabin)).id = nextOffer h cabin ∧ (partyOf h.parties (nextOffer h cabin)).state = 1 ∧ (partyOf h.parties (nextOffer h cabin)).cabin = cabin ∧ hasCab h cabin = true := by
 obtain ⟨p, c, hm, hid, hst, hcab, hc, hfit, hb⟩ := nextOffer_party h0
 have hp := (hasCab_rep hb).1
 have he : partyOf h.parties (nextOffer h cabin) = p := by rw [← hid]; exact partyOf_mem hp.ids hm
 rw [he]
 exact ⟨hm, hid, hst, hcab, hb⟩
theorem offered_hp {h : House} {cabin : Int} (h0 : nextOffer h cabin ≠ 0) : HRep (offeredM h cabin) ∧ hasCab (offeredM h cabin) cabin = true := by
 obtain ⟨p, c, hm, hid, hst, hcab, hc, hfit, hb⟩ := nextOffer_party h0
 obtain ⟨hp, hc0, hc1⟩ := hasCab_rep hb
 have he : partyOf h.parties (nextOffer h cabin) = p := by rw [← hid]; exact partyOf_mem hp.ids hm
 unfold offeredM
 rw [he]
 have h2 := offer_hp hp hm hst (by rw [hcab]; exact hc) hfit
 exact ⟨h2, hasCab_mk h2 hc0 (by rw [offerM_same.2.2.2.2.2]; exact hc1)⟩
def waits (l : List Party) : Nat := (l.filter fun p => p.state == 1).length
theorem waits_perm {a b : List Party} (h : a.Perm b) : waits a = waits b := (h.filter _).length_eq
theorem waits_cons (p : Party) (l : List Party) : waits (p :: l) = (if p.state = 1 then 1 else 0) + waits l := by
 unfold waits
 rw [List.filter_cons]
 by_cases h : p.state = 1
 · rw [if_pos (by simpa using h), if_pos h, List.length_cons]; omega
 · rw [if_neg (by simpa using h), if_neg h]; omega
theorem waits_le (l : List Party) : waits l ≤ l.length := List.length_filter_le _ _
theorem offered_waits {h : House} {cabin : Int} (h0 : nextOffer h cabin ≠ 0) : waits (offeredM h cabin).parties + 1 = waits h.parties := by
 obtain ⟨p, c, hm, hid, hst, hcab, hc, hfit, hb⟩ := nextOffer_party h0
 have hp := (hasCab_rep hb).1
 have he : partyOf h.parties (nextOffer h cabin) = p := by rw [← hid]; exact partyOf_mem hp.ids hm
 unfold offeredM
 rw [he]
 have h1 : (offerM h p).parties = partyPut h.parties (offeredP h.rules p h.now) := rfl
 have hq : (offeredP h.rules p h.now).state = 2 := rfl
 rw [h1, waits_perm (partyPut_perm (q := offeredP h.rules p h.now) hp.ids hm rfl), waits_perm (partyCut_perm hp.ids hm), waits_cons, waits_cons, hst, hq]
 simp; omega
noncomputable def scanGo : Nat → House → Int → House × List Int
 | 0, h, _ => (h, [])
 | n + 1, h, cabin => if nextOffer h cabin = 0 then (h, []) else ((scanGo n (offeredM h cabin) cabin).1, nextOffer h cabin :: (scanGo n (offeredM h cabin) cabin).2)
noncomputable def scanM (h : House) (cabin : Int) : House × List Int := scanGo (waits h.parties) h cabin
theorem scanM_end {h : House} {cabin : Int} (h0 : nextOffer h cabin = 0) : scanM h cabin = (h, []) := by
 unfold scanM
 cases waits h.parties with
 | zero => rfl
 | succ n => unfold scanGo; rw [if_pos h0]
theorem scanM_step {h : House} {cabin : Int} (h0 : nextOffer h cabin ≠ 0) : scanM h cabin = ((scanM (offeredM h cabin) cabin).1, nextOffer h cabin :: (scanM (offeredM h cabin) cabin).2) := by
 have := offered_waits h0
 unfold scanM
 rw [← this]
 show scanGo (_ + 1) h cabin = _
 rw [scanGo, if_neg h0]
noncomputable def scan (h : House) (cabin : Int) : House × List Int := if hasCab h cabin then scanM (expireM h cabin) cabin else (h, [])
theorem scanGo_hp : ∀ (n : Nat) (h : House) (cabin : Int), HRep h → HRep (scanGo n h cabin).1 ∧ (scanGo n h cabin).1.cabins.length = h.cabins.length ∧ (scanGo n h cabin).1.rules = h.rules ∧ (scanGo n h cabin).1.now = h.now ∧ (scanGo n h cabin).1.todo = h.todo ∧ (scanGo n h cabin).1.jobs = h.jobs
 | 0, h, cabin, hp => ⟨hp, rfl, rfl, rfl, rfl, rfl⟩
 | n + 1, h, cabin, hp => by
   unfold scanGo
   split
   · exact ⟨hp, rfl, rfl, rfl, rfl, rfl⟩
   · rename_i h0
     obtain ⟨a1, a2, a3, a4, a5, a6⟩ := scanGo_hp n (offeredM h cabin) cabin (offered_hp h0).1
     obtain ⟨b1, b2, b3, b4, b5, b6⟩ := offerM_same (h := h) (p := partyOf h.parties (nextOffer h cabin))
     exact ⟨a1, a2.trans b6, a3.trans b1, a4.trans b2, a5.trans b4, a6.trans b5⟩
theorem HRep.todo {h : House} (hp : HRep h) {k : Int} (h0 : 0 ≤ k) (h1 : k < (h.cabins.length : Int)) : HRep (withTodo h (todoPut h.todo k)) := by
 refine hp.jobs' rfl rfl rfl rfl rfl ?_
 have hj := JobsP.iff.1 hp.jobs
 have h2 := hp.cabs
 have h3 := (rr_of hp.rules).seats
 have hin : inB k 0 (wr ((h.cabins.length : Int) - 1)) = true := by
  rw [wr_of (by omega) (by omega)]
  simp only [inB, Bool.and_eq_true, decide_eq_true_eq]; omega
 refine JobsP.iff.2 ⟨fun x hx => ?_, ?_, hj.2.2.1, hj.2.2.2⟩
 · unfold withTodo todoPut at hx
   dsimp only at hx
   split at hx
   · exact hj.1 x hx
   · rcases List.mem_append.1 hx with hx | hx
     · exact hj.1 x hx
     · rw [List.mem_singleton.1 hx]; exact hin
 · unfold withTodo todoPut
   dsimp only
   split
   · exact hj.2.1
   · rename_i hn
     refine List.nodup_append.2 ⟨hj.2.1, by simp, fun a ha b hb he => hn ?_⟩
     rw [List.mem_singleton.1 hb] at he
     exact List.any_eq_true.2 ⟨a, ha, by simpa using he⟩
theorem free_hp {h : House} {cabin n : Int} {c : Cabin} (hp : HRep h) (h0 : 0 ≤ cabin) (hc : h.cabins[cabin.toNat]? = some c) (hn : 0 ≤ n ∧ n ≤ 60) (hl : n ≤ c.seats.sold - c.seats.tied) : HRep (freeM h cabin n) := by
 have hlt := (List.getElem?_eq_some_iff.1 hc).1
 have h1 : HRep ⟨h.rules, h.now, h.turn, h.parties, modC h.cabins cabin (seatsC (lFree · n)), h.todo, h.jobs⟩ := by
  refine hp.ledger rfl rfl rfl rfl (modC_len _ _ _) rfl rfl fun k d d' hd hd' hl' => ?_
  dsimp only at hd'
  rw [modC_at h0 hd] at hd'
  injection hd' with hd'
  subst hd'
  split
  · rename_i hk
    have hkn : cabin.toNat = k := by omega
    rw [hkn, hd] at hc
    injection hc with hc
    subst hc
    obtain ⟨e1, e2⟩ := hl'.free' hn hl
    unfold seatsC
    dsimp only
    rw [e1]
    exact ⟨rfl, rfl, e2, rfl, rfl, rfl⟩
  · exact ⟨rfl, rfl, hl', rfl, rfl, rfl⟩
 exact h1.todo h0 (by dsimp only; rw [modC_len]; omega)
theorem failed_cab {r : Rules} {p : Party} {now : Int} {m : Party × Bool} (h : m.1 = failedX r p now ∧ m.2 = failedB r p now) (hb : m.2 = true) : m.1.cabin = p.cabin := by
 rw [h.1, failedX, if_pos (h.2.symm.trans hb)]; rfl
theorem fails_no {h m x : House} {p : Party} {q : Party × Bool} (hm : m = dropM h p) (hq : q.1 = failedX m.rules p m.now ∧ q.2 = failedB m.rules p m.now) (hb : q.2 = false) (hx : x = goneM m p) : x = failsM h p := by
 subst hm
 have h1 : failedB h.rules p h.now = false := hq.2.symm.trans hb
 rw [hx, failsM, if_neg (by simp [h1])]
theorem fails_yes {h m x : House} {p : Party} {q : Party × Bool} (hm : m = dropM h p) (hq : q.1 = failedX m.rules p m.now ∧ q.2 = failedB m.rules p m.now) (hb : q.2 = true) (hx : x = rowM' ⟨m.rules, m.now, m.turn, partyPut m.parties q.1, m.cabins, m.todo, m.jobs⟩ q.1) : x = failsM h p := by
 subst hm
 have h1 : failedB h.rules p h.now = true := hq.2.symm.trans hb
 have h2 : q.1 = failedP h.rules p h.now := by rw [hq.1, failedX, if_pos (hq.2.symm.trans hb)]; rfl
 rw [hx, h2, failsM, if_pos h1, rowM']
 unfold dropM
 dsimp only
 have h3 : (failedP h.rules p h.now).cabin = p.cabin := rfl
 rw [h3, modC_modC]
theorem due_at {h : House} {id : Int} {ids : List Int} (hp : HRep h) (hd : DueP h.parties (id :: ids)) : ¬ atId h.parties id < 0 := by
 obtain ⟨p, hpm, hid, hst⟩ := hd.2 id (by simp)
 obtain ⟨k, h1, _⟩ := atId_of hp.ids hpm
 rw [← hid]; omega
theorem due_next {h m : House} {id : Int} {ids : List Int} {x : Party} (hp : HRep h) (hd : DueP h.parties (id :: ids)) (hx : h.parties[(atId h.parties id).toNat]? = some x) (hm : m = failsM h x) : HRep m ∧ DueP m.parties ids ∧ expireGo ids m = expireGo (id :: ids) h := by
 obtain ⟨h1, h2, h3, h4, h5⟩ := due_step hp hd
 have he : partyOf h.parties id = x := partyOf_of hx
 subst hm
 rw [← he]
 exact ⟨h4, h5, rfl⟩
theorem due_state {h : House} {id : Int} {ids : List Int} {x : Party} (hp : HRep h) (hd : DueP h.parties (id :: ids)) (hx : h.parties[(atId h.parties id).toNat]? = some x) : x.state = 2 := by
 have := (due_step hp hd).2.2.1
 rw [partyOf_of hx] at this; exact this
theorem modC_sz {cs : List Cabin} {k : Int} {f : Cabin → Cabin} (h : ∀ c ∈ cs, CabinSz c) (hf : ∀ c, CabinSz c → CabinSz (f c)) : ∀ c ∈ modC cs k f, CabinSz c := by
 unfold modC
 split
 · rename_i c hc
   exact mem_set_of h (hf c (h c (List.mem_of_getElem? hc)))
 · exact h
theorem drop_keep {h m : House} {p : Party} (hm : m = dropM h p) (hs : HouseSz h) : HouseSz m ∧ m.cabins.length = h.cabins.length ∧ m.rules = h.rules ∧ m.now = h.now ∧ m.parties.length = h.parties.length ∧ m.todo = h.todo ∧ m.jobs = h.jobs := by
 subst hm
 obtain ⟨s1, s2, s3, s4, s5, s6⟩ := hs
 refine ⟨⟨s1, s2, by unfold dropM; dsimp only; rw [modC_len]; exact s3, s4, s5, ?_⟩, modC_len _ _ _, rfl, rfl, rfl, rfl, rfl⟩
 refine modC_sz s6 fun c hc => ?_
 have := wheelCut_len c.wheel ⟨p.until', p.id⟩
 exact ⟨hc.1, by show (wheelCut _ _).spoke.length ≤ _; rw [this.1]; exact hc.2.1, by show (wheelCut _ _).spoke.flatten.length ≤ _; exact Nat.le_trans this.2 hc.2.2⟩
theorem put_sz {h : House} {l : List Party} (hs : HouseSz h) (hl : l.length ≤ 1048576) : HouseSz ⟨h.rules, h.now, h.turn, l, h.cabins, h.todo, h.jobs⟩ := ⟨hs.1, hl, hs.2.2⟩
theorem HRep.sz {h : House} (hp : HRep h) : HouseSz h := by
 have h1 := (rr_of hp.rules).seats; have h2 := hp.cabs; have h3 := hp.len
 have hc := rulesOk_len hp.rules
 have h4 := hp.jobs.2.2
 have h5 := todo_le (houseP_iff.2 hp)
 refine ⟨by omega, by omega, by omega, by omega, by omega, fun c hcm => ?_⟩
 obtain ⟨k, hk⟩ := List.mem_iff_getElem?.1 hcm
 have hr := (hp.cab k c hk).2.1
 have hq := (agrees_row (houseP_iff.2 hp) hk).1
 have hw := hr.wh
 exact ⟨by have := hq.1; omega, by have := hw.1; omega, by have := hw.2.1; omega⟩
end SX
end Go.Proofs.YtejojcoaohlfbaaGreat
namespace Go.Proofs.YtejojcoaohlfbaaGreat
namespace SX
open Go Go.RowKit
@[reducible] def hC (x : House) (a1 : Option Addr) (c1 : Nat) (a2 : Option Addr) (c2 : Nat) (a3 : Option Addr) (c3 : Nat) (a4 : Option Addr) (c4 : Nat) (a5 : Option Addr) (c5 : Nat) : List Value :=
  [.slice a1 x.rules.seats.length c1, vi x.rules.tiers, vi x.rules.room, vi x.rules.size, vi x.rules.period, vi x.rules.window, vi x.rules.rest, vi x.rules.tries, vi x.rules.crew, vi x.now, vi x.turn, .slice a2 x.parties.length c2, .slice a3 x.cabins.length c3, .slice a4 x.todo.length c4, .slice a5 x.jobs.length c5]
@[reducible] def hZ : List Value :=
  [.slice none 0 0, vi 0, vi 0, vi 0, vi 0, vi 0, vi 0, vi 0, vi 0, vi 0, vi 0, .slice none 0 0, .slice none 0 0, .slice none 0 0, .slice none 0 0]
@[reducible] def hD (x : House) (a1 : Option Addr) (n1 c1 : Nat) (a2 : Option Addr) (n2 c2 : Nat) (a3 : Option Addr) (n3 c3 : Nat) (a4 : Option Addr) (n4 c4 : Nat) (a5 : Option Addr) (n5 c5 : Nat) : List Value :=
  [.slice a1 n1 c1, vi x.rules.tiers, vi x.rules.room, vi x.rules.size, vi x.rules.period, vi x.rules.window, vi x.rules.rest, vi x.rules.tries, vi x.rules.crew, vi x.now, vi x.turn, .slice a2 n2 c2, .slice a3 n3 c3, .slice a4 n4 c4, .slice a5 n5 c5]
@[reducible] def hO (e1 e2 e3 e4 e5 e6 : TypeId) (x : House) (a1 : Option Addr) (n1 c1 : Nat) (a2 : Option Addr) (n2 c2 : Nat) (a3 : Option Addr) (n3 c3 : Nat) (a4 : Option Addr) (n4 c4 : Nat) (a5 : Option Addr) (n5 c5 : Nat) : List Ass :=
  [slA e1 intL (.slice a1 n1 c1) x.rules.seats, slA e2 partyL (.slice a2 n2 c2) x.parties, slA e3 (cabinLx e4 e5 e6) (.slice a3 n3 c3) x.cabins, slA e1 intL (.slice a4 n4 c4) x.todo, slA e1 intL (.slice a5 n5 c5) x.jobs]
@[reducible] def hR (e1 e2 e3 e4 e5 e6 : TypeId) (p : House → Prop) : Res :=
  ⟨{q : (HH × HH × HH × HH × HH) × House // p q.2}, fun q => .agg (hC q.1.2 q.1.1.1.1 q.1.1.1.2 q.1.1.2.1.1 q.1.1.2.1.2 q.1.1.2.2.1.1 q.1.1.2.2.1.2 q.1.1.2.2.2.1.1 q.1.1.2.2.2.1.2 q.1.1.2.2.2.2.1 q.1.1.2.2.2.2.2).toArray,
    fun q => hO e1 e2 e3 e4 e5 e6 q.1.2 q.1.1.1.1 q.1.2.rules.seats.length q.1.1.1.2 q.1.1.2.1.1 q.1.2.parties.length q.1.1.2.1.2 q.1.1.2.2.1.1 q.1.2.cabins.length q.1.1.2.2.1.2 q.1.1.2.2.2.1.1 q.1.2.todo.length q.1.1.2.2.2.1.2 q.1.1.2.2.2.2.1 q.1.2.jobs.length q.1.1.2.2.2.2.2⟩
set_option linter.unusedVariables false
set_option linter.unusedSimpArgs false
section
variable {P : Program} {N : Nat} {W : World} {S0 : List Nat} {ops : Array Oper} {Q : Exit → Go.Act → World → Prop} {T : Tm} {L : Bx} {C : List Ass} {α : Type}
theorem cellsRep.dropF {α : Type} {L : Lay α} {m : Bool} {w : World} : ∀ {xs : List α} {cells f} (k : Nat), cellsRep L m w cells xs f → ∃ f1 f2, f = f1 ++ f2 ∧ cellsRep L m w (cells.drop (k * L.sz)) (xs.drop k) f2
 | [], cells, f, k, h => by simp [cellsRep] at h; exact ⟨f, [], by simp, by simp [h.1, cellsRep]⟩
 | x :: xs, cells, f, 0, h => ⟨[], f, rfl, by simpa using h⟩
 | x :: xs, cells, f, k + 1, ⟨cs, rest, f1, f2, h1, h2, h3, h4⟩ => by
   subst h1; subst h2
   obtain ⟨g1, g2, e, h5⟩ := h4.dropF k
   refine ⟨f1 ++ g1, g2, by rw [e, List.append_assoc], ?_⟩
   have hl := L.len h3
   have e9 : (cs ++ rest).drop ((k + 1) * L.sz) = rest.drop (k * L.sz) := by
    rw [List.drop_append, hl, List.drop_eq_nil_of_le (by rw [hl, Nat.add_mul]; omega), List.nil_append]
    congr 1
    rw [Nat.add_mul]; omega
   rw [e9]
   exact h5
def cutA (a : Option Addr) (c l sz : Nat) : Option Addr := if c = l then a else a.map (·.add (l * sz))
theorem BEHEAD {K : Go.Act → World → Prop} {e : TypeId} {La : Lay α} {a : Option Addr} {n c : Nat} {xs : List α} (k j : Nat) (R : List Ass) (hp : pulls [j] C = some ([slA e La (.slice a n c) xs], R)) (hk : k ≤ xs.length) (kk : G N W S0 K T L (R ++ [slA e La (.slice (cutA a c k La.sz) (xs.drop k).length (c - k)) (xs.drop k)])) : G N W S0 K T L C := by
 rintro ac w ⟨bs, fps, ht, hb, hm⟩
 obtain ⟨xps, hx, hnx, hex⟩ := hm.exch hp
 match xps, hx with
 | [fp], ⟨⟨cells, g, h1, h2, h3, h4⟩, _⟩ =>
   obtain ⟨f1, f2, rfl, h5⟩ := h3.dropF k
   have hl : (xs.drop k).length = xs.length - k := List.length_drop
   have ho : ownsR w e La.sz (.slice (cutA a c k La.sz) (xs.drop k).length (c - k)) (xs.drop k).length (cells.drop (k * La.sz)) := by
    rw [hl]
    rcases h1.2 with ⟨hv, h0⟩ | ⟨b, ob, cap, cur, fz, hv, hg, hfz, hnc, hcm, hcs, htake⟩
    · simp only [Value.slice.injEq] at hv
      obtain ⟨rfl, rfl, rfl⟩ := hv
      have hk0 : k = 0 := by omega
      subst hk0
      have hc0 : cells = [] := List.eq_nil_of_length_eq_zero (by rw [h1.1, h0, Nat.zero_mul])
      subst hc0
      rw [h0]
      simpa [cutA] using ownsR_nil w e La.sz
    · simp only [Value.slice.injEq] at hv
      obtain ⟨rfl, rfl, rfl⟩ := hv
      have h9 := h1.tail (k := k) hk
      have ea : cutA (some ⟨b, ob, none⟩) c k La.sz = some ⟨b, if c = k then ob else ob + k * La.sz, none⟩ := by
       unfold cutA
       split
       · rfl
       · simp [add_lit]
      rw [ea]
      exact h9
   have hob : (Value.slice (cutA a c k La.sz) (xs.drop k).length (c - k)).ownBlock = (Value.slice a n c).ownBlock := by
    unfold cutA
    cases a with
    | none => split <;> rfl
    | some ad => split
                 · rfl
                 · simp only [Value.ownBlock, Option.map_some, Addr.add]; split <;> rfl
   obtain ⟨fps', hmem⟩ := hex w [slA e La (.slice (cutA a c k La.sz) (xs.drop k).length (c - k)) (xs.drop k)] [(Value.slice a n c).ownBlock.toList ++ f2] ⟨⟨_, f2, ho, by rw [hob], h5, by rw [hl]; omega⟩, trivial⟩
    (by
      simp only [List.flatten_cons, List.flatten_nil, List.append_nil]
      have h9 : ((Value.slice a n c).ownBlock.toList ++ (f1 ++ f2)).Nodup := by rw [← h2]; simpa using hnx
      exact h9.sublist (List.Sublist.append (List.Sublist.refl _) (List.sublist_append_right f1 f2)))
    (fun b hb _ => by
      simp only [List.flatten_cons, List.flatten_nil, List.append_nil] at hb ⊢
      rw [h2]
      rcases List.mem_append.1 hb with h | h
      · exact List.mem_append.2 (.inl h)
      · exact List.mem_append.2 (.inr (List.mem_append.2 (.inr h)))) (Fr.refl _ _)
   exact kk ac w ⟨bs, fps', ht, hb, hmem⟩
theorem CUTOL {i : Nat} {K : Go.Act → World → Prop} (t : TypeId) (x lo : Operand) (d : Nat) (ty : TypeId) (ho : opAt ops T i = some (.slice t x (some lo) none none, some d, ty)) (hd : d < N) (a : Option Addr) (n cap : Nat) (kl : IntKind) (l : Int)
 (hx : evv T x = some (.slice a n cap)) (hl : evv T lo = some (.int kl l)) (e : TypeId) (La : Lay α) (xs : List α) (hu : P.underlying t = some (.slice e)) (hs : (P.info? e).map (·.size) = some La.sz) (h0 : 0 ≤ l) (h1 : l ≤ n) (hn : n = xs.length)
 (j : Nat) (R : List Ass) (hp : pulls [j] C = some ([slA e La (.slice a n cap) xs], R))
 (k : ∀ a' : Option Addr, G N W S0 K ((d, .v (.slice a' (xs.drop l.toNat).length (cap - l.toNat))) :: T) L (R ++ [slA e La (.slice a' (xs.drop l.toNat).length (cap - l.toNat)) (xs.drop l.toNat)])) : OP P N W S0 ops Q i K T L C := by
 refine STEP _ _ _ ho (by rintro _ ⟨⟩; exact hd) (.v (.slice (cutA a cap l.toNat La.sz) (xs.drop l.toNat).length (cap - l.toNat))) (by intro j off he; cases he) ?_ (BEHEAD l.toNat j R hp (by omega) (k _))
 intro ac o bs w hev hop _ _
 obtain ⟨inf, hi, hsz⟩ := Option.map_eq_some_iff.1 hs
 have hel : P.elem t = e := by unfold Program.elem; rw [hu]
 have hu' : P.underlying t = some (.slice (P.elem t)) := by rw [hel]; exact hu
 have e1 : ac.eval x = .slice a n cap := hev x _ (evo_of_evv hx)
 have e2 : ac.eval lo = .int kl l := hev lo _ (evo_of_evv hl)
 rw [List.length_drop, ← hn]
 simp only [execOp, hop, e1, e2, Option.map_some, Option.map_none, Sem.run_bind, run_sliceAt_slice w t _ _ _ _ hu', run_slice_l w t a n cap hu' kl l h0 h1, hel, run_sizeOf hi, Result.andThen_ok, Sem.run_pure, hsz, sliced, den, cutA]
end
section rules
variable {X : List Nat} {P : Program} {N : Nat} {W : World} {S0 : List Nat} {Q : Exit → Go.Act → World → Prop} {T : Tm} {L : Bx} {C : List Ass} {ops : Array Oper} {Kn : List (Nat × Nat)} {i : Nat}
theorem aLP {t : TypeId} {x : Operand} {d b bt : Nat} {ty : TypeId} {j off : Nat} {cs : List Value} {v : Value} [TB P]
 (hx : evo T x = some (.e (some ⟨b, 0, none⟩) 0 off) := by conv => lhs; whnf) (hC : C[j]? = some (ptC b bt cs) := by exact NT) (hv : ldB (TB.D P) t cs off some = some v := by conv => lhs; whnf) (k : OPL X P N W S0 ops Q Kn (i + 1) ((d, .v v) :: T) L C)
 (hi : Nat.blt i ops.size = true := by rfl) (ho : opAt ops T i = some (.load t x, some d, ty) := by kernel_rfl) (hd : d < N := by exact NL rfl) (hl : loadOf P t cs off = some v := by kernel_rfl) :
 AT (.op (.load t x) (some d) ty) X P N W S0 ops Q Kn i T L C := opsOne (lt_of_blt hi) (LOADE t x d ty ho hd (some ⟨b, 0, none⟩) 0 off cs v hx (fun w hw => ptC_elem (hw.own j hC)) hl k)
theorem qLP {t : TypeId} {x : Operand} {d b bt : Nat} {ty : TypeId} {j off : Nat} {cs : List Value} {v : Value} [TB P]
 (hx : evo T x = some (.e (some ⟨b, 0, none⟩) 0 off) := by conv => lhs; whnf) (hC : C[j]? = some (ptC b bt cs) := by exact NT) (hv : ldB (TB.D P) t cs off some = some v := by conv => lhs; whnf) (k : QL X P N W S0 ops Q Kn (i + 1) ((d, .v v) :: T) L C)
 (ho : opAt ops T i = some (.load t x, some d, ty) := by kernel_rfl) (hd : d < N := by exact NL rfl) (hl : loadOf P t cs off = some v := by kernel_rfl) :
 QT (.op (.load t x) (some d) ty) X P N W S0 ops Q Kn i T L C := QLOADE t x d ty ho hd (some ⟨b, 0, none⟩) 0 off cs v hx (fun w hw => ptC_elem (hw.own j hC)) hl k
theorem aSP {t : TypeId} {x y : Operand} {b bt : Nat} {ty : TypeId} {j off : Nat} {cs cs' : List Value} {v : Value} {R : List Ass} [TB P]
 (hx : evo T x = some (.e (some ⟨b, 0, none⟩) 0 off) := by conv => lhs; whnf) (hp : pull j C = some (ptC b bt cs, R) := by exact PU) (hy : evv T y = some v := by conv => lhs; whnf) (hv : stB (TB.D P) t bt cs off v = some cs' := by conv => lhs; whnf)
 (k : OPL X P N W S0 ops Q Kn (i + 1) T L (R ++ [ptC b bt cs'])) (hi : Nat.blt i ops.size = true := by rfl) (ho : opAt ops T i = some (.store t x y, none, ty) := by kernel_rfl) (hst : storeOf P t cs off v = some cs' := by kernel_rfl) :
 AT (.op (.store t x y) none ty) X P N W S0 ops Q Kn i T L C := opsOne (lt_of_blt hi) (STOREC t x y ty ho j R b off bt cs cs' (by simp [pulls, hp]) v hx hy hst k)
theorem aLW {t : TypeId} {x : Operand} {d b : Nat} {ty : TypeId} {off : Nat} {cs : List Value} {v : Value} [TB P]
 (hx : evo T x = some (.e (some ⟨b, 0, none⟩) 0 off) := by conv => lhs; whnf) (he : ElemAt W (some ⟨b, 0, none⟩) 0 cs) (hv : ldB (TB.D P) t cs off some = some v := by conv => lhs; whnf) (k : OPL X P N W [] ops Q Kn (i + 1) ((d, .v v) :: T) L C)
 (hi : Nat.blt i ops.size = true := by rfl) (ho : opAt ops T i = some (.load t x, some d, ty) := by kernel_rfl) (hd : d < N := by exact NL rfl) (hl : loadOf P t cs off = some v := by kernel_rfl) :
 AT (.op (.load t x) (some d) ty) X P N W [] ops Q Kn i T L C := opsOne (lt_of_blt hi) (LOADE t x d ty ho hd (some ⟨b, 0, none⟩) 0 off cs v hx (fun w hw j hj => ElemAt.fr he hw.fr j hj) hl k)
variable {bs : List Nat} {L0 : Bx} {Ks : Keys} {T0 : Tm} {f : Nat} {Ls : List Nat} {la : Array Bool}
theorem hLWd {t : TypeId} {x : Operand} {d b : Nat} {ty : TypeId} {off : Nat} {cs : List Value} {v : Value} [TB P]
 (hx : evo T x = some (.e (some ⟨b, 0, none⟩) 0 off) := by conv => lhs; whnf) (he : ∀ w, At W S0 (frz bs L0) w → ElemAt w (some ⟨b, 0, none⟩) 0 cs) (hv : ldB (TB.D P) t cs off some = some v := by conv => lhs; whnf)
 (k : HL X P N W S0 ops Q bs L0 Ks T0 f (i :: Ls) (la.setIfInBounds i true) Kn ((d, .v v) :: T) L C) (hC : KP (frz bs L0) Ks Ls la C := by exact KP.mk)
 (hk : takeB ops la Ks i = true := by kernel_rfl) (ho : opAt ops T i = some (.load t x, some d, ty) := by kernel_rfl) (hd : d < N := by exact NL rfl) (hl : loadOf P t cs off = some v := by kernel_rfl) :
 HT (.op i (.load t x) (some d) ty) X P N W S0 ops Q bs L0 Ks T0 (f + 1) Ls la Kn T L C := hC.pulls.elim fun _ h9 => HDLOADE t x d ty ho hd (some ⟨b, 0, none⟩) 0 off cs v hx he hl hk h9 k
def capO {R : Type} (T : Tm) : List Operand → (List Value → Option R) → Option R
 | [], k => k []
 | x :: xs, k => match evo T x with
   | some (.e (some ⟨b, 0, none⟩) 0 0) => capO T xs (fun l => k (.pointer (some ⟨b, 0, none⟩) :: l))
   | some (.v v) => capO T xs (fun l => k (v :: l))
   | _ => none
theorem capO_ok {T : Tm} {a : Go.Act} {bs : List Nat} (hev : ∀ x s, evo T x = some s → a.eval x = den bs s) : ∀ (xs : List Operand) (k : List Value → Option (List Value)) (vs : List Value), capO T xs k = some vs → ∃ l, k l = some vs ∧ xs.map a.eval = l
 | [], k, vs, h => ⟨[], h, rfl⟩
 | x :: xs, k, vs, h => by
   simp only [capO] at h
   split at h
   · rename_i b hx
     obtain ⟨l, h1, h2⟩ := capO_ok hev xs _ vs h
     refine ⟨_, h1, ?_⟩
     rw [List.map_cons, h2, hev _ _ hx]
     simp [den, addrOf, add_lit]
   · rename_i v hx
     obtain ⟨l, h1, h2⟩ := capO_ok hev xs _ vs h
     refine ⟨_, h1, ?_⟩
     rw [List.map_cons, h2, hev _ _ hx]
     rfl
   · cases h
theorem aMF {fn : FuncId} {caps : Array Operand} {d : Nat} {ty : TypeId} {vs : List Value} (hv : capO T caps.toList some = some vs := by conv => lhs; whnf) (k : OPL X P N W S0 ops Q Kn (i + 1) ((d, .v (.func (.func fn) #[] vs.toArray)) :: T) L C)
 (hv' : capO T caps.toList some = some vs := by rfl) (hi : Nat.blt i ops.size = true := by rfl) (ho : opAt ops T i = some (.makeFunc (.func fn) #[] caps, some d, ty) := by kernel_rfl) (hd : d < N := by exact NL rfl) :
 AT (.op (.makeFunc (.func fn) #[] caps) (some d) ty) X P N W S0 ops Q Kn i T L C :=
 opsOne (lt_of_blt hi) (RUNV _ d ty ho hd _ (by
  intro a o bs w hev hop _ _
  obtain ⟨l, h1, h2⟩ := capO_ok hev _ _ _ hv'
  simp only [Option.some.injEq] at h1
  subst h1
  have h3 : caps.map a.eval = l.toArray := by
   apply Array.toList_inj.1
   rw [Array.toList_map, h2]
  simp [execOp, hop, Instr.makeFunc, Sem.run_pure, h3, den]) k)
theorem oOP (k : ∀ bs : List Nat, bs.length = L.length → OPL X P N W S0 ops Q Kn i (expT bs T) [] (expC bs L ++ C)) : OPL X P N W S0 ops Q Kn i T L C := EXPORT k
theorem tOP {x : Nx} (k : ∀ bs : List Nat, bs.length = L.length → AT x X P N W S0 ops Q Kn i (expT bs T) [] (expC bs L ++ C)) : AT x X P N W S0 ops Q Kn i T L C := EXPORT k
theorem oPV {d b : Nat} (hd : lk T d = some (.e (some ⟨b, 0, none⟩) 0 0)) (k : OPL X P N W S0 ops Q Kn i ((d, .v (.pointer (some ⟨b, 0, none⟩))) :: T) L C) : OPL X P N W S0 ops Q Kn i T L C := ASV hd k
theorem gVP {K : Go.Act → World → Prop} {d b : Nat} (hd : lk T d = some (.v (.pointer (some ⟨b, 0, none⟩)))) (k : G N W S0 K ((d, .e (some ⟨b, 0, none⟩) 0 0) :: T) L C) : G N W S0 K T L C := by
 rintro a w ⟨bs, fps, ht, hb, hm⟩
 refine k a w ⟨bs, fps, ⟨ht.1, ht.2.1, fun i x hx => ?_⟩, hb, hm⟩
 simp only [lk] at hx
 by_cases hk : d = i
 · subst hk
   simp at hx; subst hx
   have := ht.2.2 d _ hd
   rw [this]
   simp [den, addrOf, add_lit]
 · have : (d == i) = false := by simpa using hk
   simp only [this, Bool.false_eq_true, if_false] at hx
   exact ht.2.2 i x hx
theorem oVP {d b : Nat} (hd : lk T d = some (.v (.pointer (some ⟨b, 0, none⟩)))) (k : OPL X P N W S0 ops Q Kn i ((d, .e (some ⟨b, 0, none⟩) 0 0) :: T) L C) : OPL X P N W S0 ops Q Kn i T L C := gVP hd k
theorem cVP {c : Code} {d b : Nat} (hd : lk T d = some (.v (.pointer (some ⟨b, 0, none⟩)))) (k : CD X P N W S0 c Q ((d, .e (some ⟨b, 0, none⟩) 0 0) :: T) L C) : CD X P N W S0 c Q T L C := gVP (K := c.wp P Q) hd k
def cellE (T : Tm) : List ResultVar → Option Nat
 | [] => none
 | .cell t _ :: r => match lk T t with
   | some (.e _ _ _) => some t
   | _ => cellE T r
 | _ :: r => cellE T r
theorem gCB {K : Go.Act → World → Prop} {d b t : Nat} {cs : List Value} {j : Nat} {R : List Ass} (hl : lk T d = some (.e (some ⟨b, 0, none⟩) 0 0)) (hp : pull j C = some (ptC b t cs, R)) (k : G N W S0 K ((d, .p L.length 0) :: T) (L ++ [(t, cs)]) R) : G N W S0 K T L C := by
 rintro a w ⟨bs, fps, ht, hb, hm⟩
 obtain ⟨fp, gps, ha, hr, hperm⟩ := holds.pull j hm.ch hp
 have hfp : fp = [b] := ha.1
 subst hfp
 have hbl := boxes_len hm.bx
 have hfl : (b :: gps.flatten).Perm fps.flatten := by simpa using flat_perm hperm
 have hall : ((bs ++ [b]) ++ gps.flatten).Perm (bs ++ fps.flatten) := by
  rw [List.append_assoc]
  exact hfl.append_left bs
 refine k a w ⟨bs ++ [b], gps, ⟨ht.1, ht.2.1, fun i x hx => ?_⟩, ?_, ⟨hm.fr, boxes_append hm.bx ⟨ha.2, trivial⟩, hr, hall.nodup_iff.2 hm.nd, fun c hc => hm.new c (hall.subset hc)⟩⟩
 · simp only [lk] at hx
   by_cases hk : d = i
   · subst hk
     simp at hx; subst hx
     have := ht.2.2 d _ hl
     rw [this]
     simp [den, addrOf, add_lit, hbl, List.getD_eq_getElem?_getD]
   · have h9 : (d == i) = false := by simpa using hk
     simp only [h9, Bool.false_eq_true, if_false] at hx
     have := ht.2.2 i x hx
     rw [this]
     cases x with
     | v _ => rfl
     | e _ _ _ => rfl
     | p m off =>
       have hlt := hb.lk hx
       simp only [den, List.getD_eq_getElem?_getD]
       rw [List.getElem?_append_left (by rw [← hbl] at hlt; exact hlt)]
 · refine ⟨by simp, hb.mono (by simp)⟩
theorem gRTC {fn : Func} {d b t : Nat} {cs : List Value} {j : Nat} {R : List Ass} {r : Res} {n : Nat} {L1 : Bx} (hq : Q .ret = bodyPost P fn (RetM S0 r W) .ret := by rfl) (hd : cellE T fn.results.toList = some d := by conv => lhs; whnf) (hl : lk T d = some (.e (some ⟨b, 0, none⟩) 0 0) := by conv => lhs; whnf) (hp : pull j C = some (ptC b t cs, R) := by exact PU)
 (hL : snocBx L 0 (t, cs) (fun i l => some (i, l)) = some (n, L1) := by conv => lhs; whnf) (k : CD X P N W S0 .ret Q ((d, .p n 0) :: T) L1 R) (hn : n = L.length := by rfl) (hL1 : L1 = L ++ [(t, cs)] := by rfl) : CD X P N W S0 .ret Q T L C := by
 subst hn hL1
 exact gCB (K := Code.ret.wp P Q) hl hp k
theorem rEX {v : Value} {r : Res} {R : List Ass} {js : List Nat} (x : r.ι) (hp : pulls js C = some (r.own x, R)) (hv : v = r.val x) : RETG v r C := ⟨x, js, hv, by rw [hp]; rfl⟩
theorem gFINN [TB P] {fn : Func} {r : Res} {v : Value} (k : RETG v r C) (hv : resV (TB.D P) fn T L = some v := by conv => lhs; whnf) (hv' : resOf fn P T L = some v := by kernel_rfl) : DN X N W S0 (bodyPost P fn (RetM S0 r W)) .normal T L C := by
 obtain ⟨x, js, hx, hp⟩ := k
 exact FINN v hv' x hx js hp
def LGT {α : Type} (U : α → Tm) (T : Tm) (q : α) : Tm := U q ++ T
def LGC {α : Type} (O : α → List Ass) (C0 : List Ass) (q : α) : List Ass := C0 ++ O q
theorem gLPG {c : Code} {L : Bx} {α : Type} (U : α → Tm) (bs : List (Nat × (α → List Value))) (O : α → List Ass) (Inv : α → Prop) (m : α → Nat) (x0 : α) {Lf : α → Bx} {js : List Nat} {C0 : List Ass}
 (hLf : ∀ x, setBs x bs L some = some (Lf x) := by intro x; conv => lhs; whnf) (hp : pulls js C = some (O x0, C0) := by first | exact pl0 | exact plS PU pl0 | exact plS PU (plS PU pl0) | exact plS PU (plS PU (plS PU (plS PU (plS PU pl0)))) | exact plS PU (plS PU (plS PU (plS PU (plS PU (plS PU pl0)))))) (h0 : Inv x0)
 (body : ∀ x, Inv x → CD X P N W S0 c (Exit.then (BKP N W S0 (LGT U T) Lf (LGC O C0) Inv m x) Q) (U x ++ T) (Lf x) (C0 ++ O x))
 (hL : L = Lf x0 := by rfl) (hT : keep T ((LGT U T x0).map (·.1)) = keep (LGT U T x0) ((LGT U T x0).map (·.1)) := by kernel_rfl) (hn : boundedB (Lf x0).length (LGT U T x0) = true := by kernel_rfl) : CD X P N W S0 (.loop c) Q T L C := by
 have h := gLOOP (X := X) (P := P) (N := N) (W := W) (S0 := S0) (Q := Q) (T := T) (L := L) (C := C0 ++ O x0) (LGT U T) Lf (LGC O C0) Inv m x0 h0 (fun q hk => body q hk) hT hn hL rfl
 unfold CD at *
 intro a w hs
 exact h a w (hs.turn (fun _ => rfl) id rfl ((pulls_perm hp).trans List.perm_append_comm))
theorem gLBK {α : Type} {U : α → Tm} {O : α → List Ass} {Lf : α → Bx} {x : α} {Inv : α → Prop} {m : α → Nat} {T1 : Tm} {L1 : Bx} {C0 C1 R R2 : List Ass} {js : List Nat} (x' : α) (hm : m x' < m x) (hU : keep T1 ((U x).map (·.1)) = some (U x') := by conv => lhs; whnf) (hLx : tkB (Lf x) L1 some = some (Lf x') := by conv => lhs; whnf)
 (hp : pulls js C1 = some (O x', R) := by first | exact pl0 | exact plS PU pl0 | exact plS PU (plS PU pl0) | exact plS PU (plS PU (plS PU (plS PU (plS PU pl0)))) | exact plS PU (plS PU (plS PU (plS PU (plS PU (plS PU pl0)))))) (h : Inv x') (hR : R = C0 ++ R2 := by rfl)
 (hT : keep T1 ((LGT U T x').map (·.1)) = keep (LGT U T x') ((LGT U T x').map (·.1)) := by kernel_rfl)
 (hn : boundedB (Lf x').length (LGT U T x') = true := by kernel_rfl) (hL : L1.take (Lf x').length = Lf x' := by kernel_rfl) : DN X N W S0 (Exit.then (BKP N W S0 (LGT U T) Lf (LGC O C0) Inv m x) Q) .normal T1 L1 C1 := by
 subst hR
 intro aa w hs
 have hperm : C1.Perm ((C0 ++ O x') ++ R2) := by
  refine (pulls_perm hp).trans ?_
  rw [← List.append_assoc]
  exact List.perm_append_comm.append_right R2
 have h1 := hs.turn (T1 := T1) (fun _ => rfl) id rfl hperm
 exact ⟨x', h, hm, h1.into (js := zeros (C0 ++ O x')) (R := R2) hT hn hL (pulls_zeros _ _)⟩
theorem tUNC {x : Nx} {e e4 e5 e6 : TypeId} {v : Value} {xs : List Cabin} {m j j1 j2 : Nat} {R R1 R2 : List Ass} {t f9 h s ti : Int} {a1 a2 : Option Addr} {n1 n2 c1 c2 : Nat} {row : List Entry} {sp : List (List Pin)}
 (hp : pull j C = some (slHo e (cabinLx e4 e5 e6) v xs m [vi t, vi f9, vi h, vi s, vi ti, .slice a1 n1 c1, .slice a2 n2 c2], R) := by exact PU) (hp1 : pull j1 R = some (slA e4 entryL (.slice a1 n1 c1) row, R1) := by exact PU) (hp2 : pull j2 R1 = some (slA e5 (sl e6 pinL) (.slice a2 n2 c2) sp, R2) := by exact PU)
 (k : AT x X P N W S0 ops Q Kn i T L (R2 ++ [slA e (cabinLx e4 e5 e6) v (xs.set m ⟨⟨t, f9, h, s, ti⟩, row, ⟨sp⟩⟩)])) : AT x X P N W S0 ops Q Kn i T L C := by
 unfold AT OPL at *
 exact oUNC hp hp1 hp2 k
theorem tUNS {x : Nx} {α : Type} {La : Lay α} {e e1 : TypeId} {v : Value} {xs : List (List α)} {m j j1 : Nat} {R R1 : List Ass} {a1 : Option Addr} {n1 c1 : Nat} {row : List α}
 (hp : pull j C = some (slHo e (sl e1 La) v xs m [.slice a1 n1 c1], R) := by exact PU) (hp1 : pull j1 R = some (slA e1 La (.slice a1 n1 c1) row, R1) := by exact PU)
 (k : AT x X P N W S0 ops Q Kn i T L (R1 ++ [slA e (sl e1 La) v (xs.set m row)])) : AT x X P N W S0 ops Q Kn i T L C := by
 unfold AT OPL at *
 exact oUNS hp hp1 k
theorem uUNC {x : Nx} {e e4 e5 e6 : TypeId} {v : Value} {xs : List Cabin} {m j j1 j2 : Nat} {R R1 R2 : List Ass} {t f9 h s ti : Int} {a1 a2 : Option Addr} {n1 n2 c1 c2 : Nat} {row : List Entry} {sp : List (List Pin)}
 (hp : pull j C = some (slHo e (cabinLx e4 e5 e6) v xs m [vi t, vi f9, vi h, vi s, vi ti, .slice a1 n1 c1, .slice a2 n2 c2], R) := by exact PU) (hp1 : pull j1 R = some (slA e4 entryL (.slice a1 n1 c1) row, R1) := by exact PU) (hp2 : pull j2 R1 = some (slA e5 (sl e6 pinL) (.slice a2 n2 c2) sp, R2) := by exact PU)
 (k : HO x i X P N W S0 ops Q bs L0 Ks T0 f Ls la Kn T L (R2 ++ [slA e (cabinLx e4 e5 e6) v (xs.set m ⟨⟨t, f9, h, s, ti⟩, row, ⟨sp⟩⟩)])) : HO x i X P N W S0 ops Q bs L0 Ks T0 f Ls la Kn T L C := by
 unfold HO OP at *
 exact oUNC hp hp1 hp2 k
theorem uUNS {x : Nx} {α : Type} {La : Lay α} {e e1 : TypeId} {v : Value} {xs : List (List α)} {m j j1 : Nat} {R R1 : List Ass} {a1 : Option Addr} {n1 c1 : Nat} {row : List α}
 (hp : pull j C = some (slHo e (sl e1 La) v xs m [.slice a1 n1 c1], R) := by exact PU) (hp1 : pull j1 R = some (slA e1 La (.slice a1 n1 c1) row, R1) := by exact PU)
 (k : HO x i X P N W S0 ops Q bs L0 Ks T0 f Ls la Kn T L (R1 ++ [slA e (sl e1 La) v (xs.set m row)])) : HO x i X P N W S0 ops Q bs L0 Ks T0 f Ls la Kn T L C := by
 unfold HO OP at *
 exact oUNS hp hp1 k
theorem oBUILDP {K : Go.Act → World → Prop} {t : TypeId} {len : Nat} {parts : Array (Nat × Operand)} {d : Nat} {ty : TypeId} {e sz : Nat} {α : Type} {enc : α → List Value} {hh : ∀ x, (enc x).length = sz ∧ ∀ u ∈ enc x, isCell u = true} {xs : List α} [TB P]
 (he : lkn (TB.D P).row t = some (e, sz) := by conv => lhs; whnf) (el : ElT P e α sz enc hh := by infer_instance) (hx : partsO el.dec T 0 parts.toList some = some xs := by conv => lhs; whnf)
 (k : ∀ a : Option Addr, a.isSome = true → G N W S0 K ((d, .v (.slice a len len)) :: T) L (C ++ [slP e (flat sz enc hh) (.slice a len len) xs]))
 (ho : opAt ops T i = some (.buildSlice t len parts, some d, ty) := by kernel_rfl) (hd : d < N := by exact NL rfl) (hb : (partsOf T parts.toList).bind (bsOf P t len) = some (e, xs.flatMap enc) := by kernel_rfl) (hl : xs.length = len := by kernel_rfl) (hm : Nat.ble len maxLen = true := by rfl) : OP P N W S0 ops Q i K T L C :=
 BUILDP t len parts d ty e (xs.flatMap enc) (flat sz enc hh) xs (flatRep rfl) k ho hd hb hl (Nat.le_of_ble_eq_true hm)
theorem aBUILDP {t : TypeId} {len : Nat} {parts : Array (Nat × Operand)} {d : Nat} {ty : TypeId} {e sz : Nat} {α : Type} {enc : α → List Value} {hh : ∀ x, (enc x).length = sz ∧ ∀ u ∈ enc x, isCell u = true} {xs : List α} [TB P]
 (he : lkn (TB.D P).row t = some (e, sz) := by conv => lhs; whnf) (el : ElT P e α sz enc hh := by infer_instance) (hx : partsO el.dec T 0 parts.toList some = some xs := by conv => lhs; whnf)
 (k : ∀ a : Option Addr, a.isSome = true → OPL X P N W S0 ops Q Kn (i + 1) ((d, .v (.slice a len len)) :: T) L (C ++ [slP e (flat sz enc hh) (.slice a len len) xs])) (hi : Nat.blt i ops.size = true := by rfl)
 (ho : opAt ops T i = some (.buildSlice t len parts, some d, ty) := by kernel_rfl) (hd : d < N := by exact NL rfl) (hb : (partsOf T parts.toList).bind (bsOf P t len) = some (e, xs.flatMap enc) := by kernel_rfl) (hl : xs.length = len := by kernel_rfl) (hm : Nat.ble len maxLen = true := by rfl) :
 AT (.op (.buildSlice t len parts) (some d) ty) X P N W S0 ops Q Kn i T L C := opsOne (lt_of_blt hi) (oBUILDP he el hx k ho hd hb hl hm)
theorem hBUILDP {t : TypeId} {len : Nat} {parts : Array (Nat × Operand)} {d : Nat} {ty : TypeId} {e sz : Nat} {α : Type} {enc : α → List Value} {hh : ∀ x, (enc x).length = sz ∧ ∀ u ∈ enc x, isCell u = true} {xs : List α} [TB P]
 (he : lkn (TB.D P).row t = some (e, sz) := by conv => lhs; whnf) (el : ElT P e α sz enc hh := by infer_instance) (hx : partsO el.dec T 0 parts.toList some = some xs := by conv => lhs; whnf)
 (k : ∀ a : Option Addr, a.isSome = true → HL X P N W S0 ops Q bs L0 Ks T0 f (i :: Ls) (la.setIfInBounds i true) Kn ((d, .v (.slice a len len)) :: T) L (C ++ [slP e (flat sz enc hh) (.slice a len len) xs])) (hC : KP (frz bs L0) Ks (i :: Ls) (la.setIfInBounds i true) C := by exact KP.mk)
 (ho : opAt ops T i = some (.buildSlice t len parts, some d, ty) := by kernel_rfl) (hd : d < N := by exact NL rfl) (hb : (partsOf T parts.toList).bind (bsOf P t len) = some (e, xs.flatMap enc) := by kernel_rfl) (hl : xs.length = len := by kernel_rfl) (hm : Nat.ble len maxLen = true := by rfl) :
 HO (.op (.buildSlice t len parts) (some d) ty) i X P N W S0 ops Q bs L0 Ks T0 f Ls la Kn T L C := oBUILDP he el hx (fun a ha => hKEEP hC.app (k a ha)) ho hd hb hl hm
theorem STP {A B : Prop} (k : B) (h : B → A := by
 intro k
 first
 | (refine gtB ?_; exact aBUILDP (k := k))
 | (refine goB ?_; exact hBUILDP (k := k))) : A := h k
theorem ST2 {A B : Prop} (k : B) (h : B → A := by
 intro k
 first
 | (refine idAT ?_
    first
    | (refine aLd ?_
       first
       | exact aLP (k := k)
       | exact aLW (he := by assumption) (k := k))
    | (refine gtS ?_; exact aSP (k := k))
    | (refine aCa ?_
       first
       | exact tUNS (k := k)
       | exact tUNC (k := k))
    | exact aMF (k := k))
 | (refine idHO ?_
    refine goC ?_
    first
    | exact uUNS (k := k)
    | exact uUNC (k := k))
 | (refine idDN ?_; exact gFINN k)
 | (refine idCD ?_; exact gRTC (k := k))
 | (refine idQT ?_; refine qLd ?_; exact qLP (k := k))
 | (refine idHT ?_; refine ghL ?_; exact hLWd (he := fun w hw j hj => ElemAt.fr (by assumption) hw.fr j hj) (k := k))) : A := h k
end rules
theorem KR {p : Prop} (h : p := by kernel_rfl) : p := h
theorem LQ {p : Prop} (h : p := by first | omega | (simp only [List.length_append, List.length_cons, List.length_nil, List.length_take, List.length_drop] at *; omega)) : p := h
theorem LM {p : Prop} (h : p := by simp only [maxLen]; first | omega | (simp only [List.length_append, List.length_cons, List.length_nil, List.length_take, List.length_drop] at *; omega)) : p := h
theorem LA {p : Prop} (h : p := by first | assumption | omega | (dsimp only; omega) | (simp only [List.length_append, List.length_cons, List.length_nil] at *; omega)) : p := h
theorem LD {p : Prop} (h : p := by first | omega | (dsimp only; omega)) : p := h
theorem LO {p : Prop} (h : p := by omega) : p := h
theorem LF {p : Prop} (h : p := by simp only [maxLen]; omega) : p := h
theorem LS {p : Prop} (h : p := by assumption) : p := h
@[reducible] def rC (x : Rules) (a : Option Addr) (c : Nat) : List Value := [.slice a x.seats.length c, vi x.tiers, vi x.room, vi x.size, vi x.period, vi x.window, vi x.rest, vi x.tries, vi x.crew]
@[reducible] def caC (x : Cabin) (a1 : Option Addr) (c1 : Nat) (a2 : Option Addr) (c2 : Nat) : List Value := [vi x.seats.total, vi x.seats.free, vi x.seats.held, vi x.seats.sold, vi x.seats.tied, .slice a1 x.row.length c1, .slice a2 x.wheel.spoke.length c2]
@[reducible] def paC (x : Party) : List Value := [vi x.id, vi x.cabin, vi x.from', vi x.size, vi x.tier, vi x.since, vi x.turn, vi x.state, vi x.until', vi x.asked]
@[reducible] def paZ : List Value := [vi 0, vi 0, vi 0, vi 0, vi 0, vi 0, vi 0, vi 0, vi 0, vi 0]
@[reducible] def leC (x : Ledger) : List Value := [vi x.total, vi x.free, vi x.held, vi x.sold, vi x.tied]
section
variable {P : Program} {N : Nat} {W : World} {S0 : List Nat} {Q : Exit → Go.Act → World → Prop} {T : Tm} {L : Bx} {C C0 : List Ass} {ops : Array Oper}
theorem CX {i : Nat} {K : Go.Act → World → Prop} {f : FuncId} {vs : Array Value} {r : Res} (d : Nat) (hcon : ∀ w, At W S0 C w → Spec P w [] f vs r) (k : ∀ x : r.ι, G N W S0 K (putd (some d) (.v (r.val x)) T) L (C ++ r.own x))
 (hc : callOf P ops T i = some (f, vs, some d) := by kernel_rfl) (hd : ∀ k, some d = some k → k < N := by exact NO rfl) : OP P N W S0 ops Q i K T L C := CA f vs (some d) r hcon k hc hd
theorem CY {i : Nat} {K : Go.Act → World → Prop} {f : FuncId} {vs : Array Value} {r : Res} {pre R : List Ass} (d : Nat) (js : List Nat) (hcon : ∀ w, At W S0 C w → Spec P w pre f vs r) (hp : pulls js C = some (pre, R)) (k : ∀ x : r.ι, G N W S0 K (putd (some d) (.v (r.val x)) T) L (R ++ r.own x))
 (hc : callOf P ops T i = some (f, vs, some d) := by kernel_rfl) (hd : ∀ k, some d = some k → k < N := by exact NO rfl) : OP P N W S0 ops Q i K T L C := CALL f vs (some d) hc js pre R hp r hcon hd k
theorem QX {i : Nat} {f : FuncId} {vs : Array Value} {v : Value} (d : Nat) (hcon : ∀ w, At W S0 C w → Spec P w [] f vs (RV v)) (k : QO P N W S0 ops Q (i + 1) (putd (some d) (.v v) T) L C)
 (hc : callOf P ops T i = some (f, vs, some d) := by kernel_rfl) (hd : ∀ k, some d = some k → k < N := by exact NO rfl) : QO P N W S0 ops Q i T L C := QCA f vs (some d) v hcon k hc hd
theorem HW {fuel : Nat} {listed : Array Bool} (js : List Nat) (k : H P N W S0 ops Q C0 fuel listed T L C) (hC : (pulls js C).map (·.1) = some C0 := by rfl) : G N W S0 (HN P W S0 ops Q C0 fuel listed) T L C := HKEEP hC k
theorem HK {fuel : Nat} {listed : Array Bool} (js rs : List Nat) (k : AllOf (fun i => OP P N W S0 ops (nQ Q) i (HN P W S0 ops Q C0 fuel (listed.setIfInBounds i true)) T L C) rs) (hC : (pulls js C).map (·.1) = some C0 := by rfl) (hr : Region.ready .any ops listed = rs := by kernel_rfl) (hne : rs ≠ [] := by decide) :
 G N W S0 (HN P W S0 ops Q C0 (fuel + 1) listed) T L C := HKEEP hC (HALL rs hr hne k)
theorem HDz {fuel : Nat} {listed : Array Bool} (k : DONE N W S0 Q .normal T L C) (hr : Region.ready .any ops listed = [] := by kernel_rfl) : H P N W S0 ops Q C0 fuel listed T L C := HEND hr k
theorem XN {y : Code} {Q' : Exit → Go.Act → World → Prop} {is : List Nat} (k : CODE P N W S0 y Q T L C) (h : is = [] := by rfl) : OPS P N W S0 ops (Exit.then (y.wp P Q) Q') is T L C := by subst h; exact ENDOPS (NEXT k)
theorem XF {fn : Func} {r : Res} {Q' : Exit → Go.Act → World → Prop} {is : List Nat} (hq : Q .ret = bodyPost P fn (RetM S0 r W) .ret) (v : Value) (x : r.ι) (js : List Nat) (hx : v = r.val x) (hp : (pulls js C).map (·.1) = some (r.own x) := by rfl) (hv : resOf fn P T L = some v := by kernel_rfl) (h : is = [] := by rfl) :
 OPS P N W S0 ops (Exit.then (Code.wp P .ret Q) Q') is T L C := by subst h; exact ENDOPS (NEXT (RF hq v x js hx hp hv))
theorem RB {fn : Func} {val : Unit → Value} {Q' : Exit → Go.Act → World → Prop} {is : List Nat} (hq : Q .ret = bodyPost P fn (RetM S0 ⟨Unit, val, fun _ => []⟩ W) .ret) (d : Nat) (b : Bool) (hx : .bool b = val ()) (hr : runD P N ops 1 is T L [d] = some ([(d, B b)], L) := by kernel_rfl)
 (hv : resOf fn P ((d, B b) :: T) L = some (.bool b) := by kernel_rfl) (h : is.drop 1 = [] := by rfl) :
 OPS P N W S0 ops (Exit.then (Code.wp P .ret Q) Q') is T L C := RUL 1 _ [(d, B b)] L hr rfl (XF (r := ⟨Unit, val, fun _ => []⟩) hq (.bool b) () [] hx rfl hv h)
theorem XK {y : Code} {Q' : Exit → Go.Act → World → Prop} (k : CODE P N W S0 y Q T L C) : CODE P N W S0 .skip (Exit.then (y.wp P Q) Q') T L C := SKIP (NEXT k)
theorem XG {id : Nat} {y : Code} (k : OPS P N W S0 ops (Exit.then (y.wp P Q) Q) (List.range ops.size) T L C) : CODE P N W S0 (.seq (.region id ops false) y) Q T L C := SEQ (RG k)
theorem XI {x : Operand} {c d : Code} (k : CODE P N W S0 c Q T L C) (hx : evv T x = some (.bool true) := by kernel_rfl) : CODE P N W S0 (.cond x c d) Q T L C := IFT hx k
end
theorem dT {p X : Prop} [Decidable p] (f : p → decide p = true → X) (h : decide p = true) : X := f (of_decide_eq_true h) h
theorem dF {p X : Prop} [Decidable p] (f : ¬ p → decide p = false → X) (h : decide p = false) : X := f (of_decide_eq_false h) h
theorem aT {a b X : Prop} (g : a → b) (f : b → a → X) (h : a) : X := f (g h) h
theorem VC {x : Int} {n : Nat} (h : x = n := by omega) (h1 : n ≤ 9223372036854775807 := by omega) : vi (wr x) = vi (n : Int) := vi_cast h h1
def looseAt (h : House) (k : Int) : Int := match h.cabins[k.toNat]? with
 | some c => wr (c.seats.sold - c.seats.tied)
 | none => 0
def jobAt (h : House) (k : Int) : Int := match h.jobs[k.toNat]? with
 | some j => j
 | none => 0
def dueB (p : Party) (now : Int) : Bool := p.state == 2 && decide (p.until' ≤ now)
def vJoin (h : House) (q : Req) : Int :=
 if q.cabin ≥ (h.cabins.length : Int) ∨ q.from' ≥ (h.cabins.length : Int) ∨ q.from' = q.cabin then 4
 else if inB q.size 1 h.rules.size = false then 5
 else if q.tier ≥ h.rules.tiers then 6
 else if inB q.id 1 999 = false then 7
 else if atId h.parties q.id ≥ 0 then 8
 else if countGo h.parties q.cabin 0 ≥ h.rules.room then 9
 else if q.from' ≥ 0 ∧ looseAt h q.from' < q.size then 10
 else if h.turn > 1000000 then 11 else 0
def vAns (h : House) (id : Int) : Int :=
 if atId h.parties id < 0 then 7 else if (partyOf h.parties id).state ≠ 2 then 13 else if dueB (partyOf h.parties id) h.now = true then 14 else 0
def vFree (h : House) (q : Req) : Int :=
 if q.cabin ≥ (h.cabins.length : Int) then 4 else if inB q.size 1 60 = false then 5 else if looseAt h q.cabin < q.size then 12 else 0
def vPick (h : House) (q : Req) : Int :=
 if q.id ≥ h.rules.crew then 16 else if jobAt h q.id < 0 ∧ h.todo.length = 0 then 17 else 0
def vKind (h : House) (q : Req) : Int :=
 if q.kind = 1 then vJoin h q
 else if q.kind = 2 then (if atId h.parties q.id < 0 then 7 else 0)
 else if q.kind = 3 then vFree h q
 else if q.kind = 4 ∨ q.kind = 5 then vAns h q.id
 else if q.kind = 6 then (if h.now ≥ 1000000 then 15 else 0)
 else vPick h q
noncomputable def verdict (h : House) (q : Req) : Int :=
 if houseOk h = false then 1 else if inB q.kind 1 7 = false then 2 else if reqOk q = false then 3 else vKind h q
def joinP (h : House) (q : Req) : Party := ⟨q.id, q.cabin, q.from', q.size, q.tier, h.now, h.turn, 1, 0, 0⟩
def joinM (h : House) (q : Req) : House :=
 ⟨h.rules, h.now, wr (h.turn + 1), partyPut h.parties (joinP h q),
   if q.from' < 0 then modC h.cabins q.cabin (rowPut (entryOf h.rules (joinP h q) h.now)) else modC (modC h.cabins q.cabin (rowPut (entryOf h.rules (joinP h q) h.now))) q.from' (seatsC (lTie · q.size)),
   todoPut h.todo q.cabin, h.jobs⟩
noncomputable def declineM (h : House) (p : Party) : House := withTodo (failsM h p) (todoPut (failsM h p).todo p.cabin)
def tickC (h : House) (k : Nat) : Nat → List Cabin → List Cabin
 | _, [] => []
 | i, c :: cs => (if i < k then ⟨c.seats, queueOf h.rules h.parties i (wr (h.now + 1)), c.wheel⟩ else c) :: tickC h k (i + 1) cs
def tickT (ps : List Party) : Nat → List Int → List Int
 | 0, l => l
 | k + 1, l => if countGo ps k 0 > 0 then todoPut (tickT ps k l) k else tickT ps k l
def tickK (h : House) (k : Nat) : House := ⟨h.rules, wr (h.now + 1), h.turn, h.parties, tickC h k 0 h.cabins, tickT h.parties k h.todo, h.jobs⟩
def tickM (h : House) : House := tickK h h.cabins.length
def withJobs (h : House) (l m : List Int) : House := ⟨h.rules, h.now, h.turn, h.parties, h.cabins, l, m⟩
noncomputable def pickM (h : House) (who : Int) : House × List Int :=
 if jobAt h who < 0 then (withJobs h h.todo.tail (h.jobs.set who.toNat (h.todo.headD 0)), [])
 else (withJobs (scan h (jobAt h who)).1 (scan h (jobAt h who)).1.todo ((scan h (jobAt h who)).1.jobs.set who.toNat (-1)), (scan h (jobAt h who)).2)
noncomputable def doneM (h : House) (q : Req) : House :=
 if q.kind = 1 then joinM h q
 else if q.kind = 2 then cancelM h (partyOf h.parties q.id)
 else if q.kind = 3 then freeM h q.cabin q.size
 else if q.kind = 4 then acceptM h (partyOf h.parties q.id)
 else if q.kind = 5 then declineM h (partyOf h.parties q.id)
 else if q.kind = 6 then tickM h
 else (pickM h q.id).1
noncomputable def doM (h : House) (q : Req) : House := if verdict h q = 0 then doneM h q else h
noncomputable def idsM (h : House) (q : Req) : List Int := if verdict h q = 0 ∧ q.kind = 7 then (pickM h q.id).2 else []
theorem reqOk_form {q : Req} (h : reqOk q = true) : (1 ≤ q.kind ∧ q.kind ≤ 7) ∧ (0 ≤ q.id ∧ q.id ≤ 9999) ∧ (0 ≤ q.cabin ∧ q.cabin ≤ 9999) ∧ (-1 ≤ q.from' ∧ q.from' ≤ 9999) ∧ (0 ≤ q.size ∧ q.size ≤ 9999) ∧ (0 ≤ q.tier ∧ q.tier ≤ 9999) := by
 unfold reqOk at h
 split at h
 · rename_i hk; simp [usedB, inB] at h hk; omega
 · split at h
   · rename_i hk; simp [usedB, inB, reqEq] at h hk; omega
   · split at h
     · rename_i hk; simp [usedB, inB, reqEq] at h hk; omega
     · split at h
       · rename_i hk; simp [usedB, inB, reqEq] at h hk; omega
       · cases h
structure VOk (h : House) (q : Req) : Prop where
 hp : HRep h
 ok : reqOk q = true
 kind : 1 ≤ q.kind ∧ q.kind ≤ 7
 v : vKind h q = 0
theorem verdict_ok {h : House} {q : Req} (h0 : verdict h q = 0) : VOk h q := by
 unfold verdict at h0
 split at h0
 · omega
 · rename_i h1
   split at h0
   · omega
   · rename_i h2
     split at h0
     · omega
     · rename_i h3
       simp only [Bool.not_eq_false, inB, Bool.and_eq_true, decide_eq_true_eq] at h1 h2 h3
       exact ⟨hp_of h1, h3, h2, h0⟩
theorem VOk.eq {h : House} {q : Req} (v : VOk h q) : verdict h q = 0 := by
 have h2 : inB q.kind 1 7 = true := by simp only [inB, Bool.and_eq_true, decide_eq_true_eq]; exact v.kind
 simp [verdict, v.hp.eq, h2, v.ok, v.v]
theorem goneSold_hp {h : House} {p : Party} (hp : HRep h) (hm : p ∈ h.parties) (hs : p.state = 2) : HRep (goneM (soldM h p) p) := by
 have g := hp.pr hm
 have gs := g.size; have gc := g.cab; have gf := g.frm; have gn := g.ne
 refine hp.gone hm rfl rfl rfl rfl ?_ rfl rfl fun k c c' hc hc' hl hh ht => ?_
 · unfold goneM soldM
   dsimp only
   split <;> simp only [modC_len]
 · have h1 : (modC h.cabins p.cabin (sellC p))[k]? = some (if p.cabin = (k : Int) then sellC p c else c) := modC_at gc.1 hc
   have h2 : c' = if p.from' = (k : Int) then seatsC (lUntie · p.size) (if p.cabin = (k : Int) then sellC p c else c) else (if p.cabin = (k : Int) then sellC p c else c) := by
    unfold goneM soldM at hc'
    dsimp only at hc'
    split at hc'
    · rename_i hneg
      rw [if_neg (by omega)]
      rw [h1] at hc'; injection hc' with hc'; exact hc'.symm
    · rw [modC_at (by omega) h1] at hc'; injection hc' with hc'; exact hc'.symm
   rw [h2]
   by_cases hk : p.cabin = (k : Int)
   · have hf : ¬ p.from' = (k : Int) := by omega
     rw [if_pos hk, if_neg hf, if_neg (by omega), if_pos ⟨hs, hk⟩, heldW_yes ⟨hs, hk⟩, tiedW_no hf]
     rw [heldW_yes ⟨hs, hk⟩] at hh
     obtain ⟨e1, e2⟩ := hl.sell (n := p.size) (by omega) hh
     unfold sellC
     dsimp only
     rw [e1]
     exact ⟨rfl, rfl, e2, rfl, rfl, by dsimp only; omega⟩
   · rw [if_neg hk, if_neg (c := p.state = 1 ∧ p.cabin = (k : Int)) (fun w => hk w.2), if_neg (c := p.state = 2 ∧ p.cabin = (k : Int)) (fun w => hk w.2), heldW_no fun w => hk w.2]
     by_cases hf : p.from' = (k : Int)
     · rw [if_pos hf, tiedW_yes hf]
       rw [tiedW_yes hf] at ht
       obtain ⟨e1, e2⟩ := hl.untie (n := p.size) (by omega) ht
       unfold seatsC
       dsimp only
       rw [e1]
       exact ⟨rfl, rfl, e2, rfl, by dsimp only; omega, rfl⟩
     · rw [if_neg hf, tiedW_no hf]
       exact ⟨rfl, rfl, hl, rfl, by omega, by omega⟩
theorem gone_from {h : House} {p : Party} (hp : HRep h) (hm : p ∈ h.parties) (hf : ¬ p.from' < 0) : ∃ c, (goneM (soldM h p) p).cabins[p.from'.toNat]? = some c ∧ p.size ≤ c.seats.sold - c.seats.tied := by
 have g := hp.pr hm
 have gs := g.size; have gc := g.cab; have gf := g.frm; have gn := g.ne; have hl := hp.cabs
 obtain ⟨c, hc⟩ : ∃ c, h.cabins[p.from'.toNat]? = some c := ⟨_, List.getElem?_eq_getElem (by omega)⟩
 have hr := (hp.cab _ c hc).2.1
 have hlp := ledgerOk_iff.1 hr.led
 have hge := held_ge (k := ((p.from'.toNat : Nat) : Int)) hp.good (partyCut_perm hp.good.ids hm)
 rw [← hr.held, ← hr.tied, tiedW_yes (by omega)] at hge
 have h1 : (modC h.cabins p.cabin (sellC p))[p.from'.toNat]? = some c := by
  rw [modC_at gc.1 hc, if_neg (by omega)]
 refine ⟨seatsC (lUntie · p.size) c, ?_, ?_⟩
 · unfold goneM soldM
   dsimp only
   rw [if_neg hf, modC_at (by omega) h1, if_pos (by omega)]
 · obtain ⟨e1, e2⟩ := hlp.untie (n := p.size) (by omega) hge.2
   unfold seatsC
   dsimp only
   rw [e1]
   have := hlp.tied
   dsimp only; omega
theorem accept_hp {h : House} {p : Party} (hp : HRep h) (hm : p ∈ h.parties) (hs : p.state = 2) : HRep (acceptM h p) := by
 unfold acceptM
 split
 · exact goneSold_hp hp hm hs
 · rename_i hf
   have g := hp.pr hm
   have gs := g.size
   obtain ⟨c, h1, h2⟩ := gone_from hp hm hf
   exact free_hp (goneSold_hp hp hm hs) (by omega) h1 (by omega) h2
theorem goneCut_hp {h : House} {p : Party} (hp : HRep h) (hm : p ∈ h.parties) (hs : p.state = 1) : HRep (goneM ⟨h.rules, h.now, h.turn, h.parties, modC h.cabins p.cabin (rowCut p.id), h.todo, h.jobs⟩ p) := by
 have g := hp.pr hm
 have gs := g.size; have gc := g.cab; have gf := g.frm; have gn := g.ne
 refine hp.gone hm rfl rfl rfl rfl ?_ rfl rfl fun k c c' hc hc' hl hh ht => ?_
 · unfold goneM
   dsimp only
   split <;> simp only [modC_len]
 · have h1 : (modC h.cabins p.cabin (rowCut p.id))[k]? = some (if p.cabin = (k : Int) then rowCut p.id c else c) := modC_at gc.1 hc
   have h2 : c' = if p.from' = (k : Int) then seatsC (lUntie · p.size) (if p.cabin = (k : Int) then rowCut p.id c else c) else (if p.cabin = (k : Int) then rowCut p.id c else c) := by
    unfold goneM at hc'
    dsimp only at hc'
    split at hc'
    · rename_i hneg
      rw [if_neg (by omega)]
      rw [h1] at hc'; injection hc' with hc'; exact hc'.symm
    · rw [modC_at (by omega) h1] at hc'; injection hc' with hc'; exact hc'.symm
   rw [h2, heldW_no (fun w => by omega), if_neg (c := p.state = 2 ∧ p.cabin = (k : Int)) (fun w => by omega)]
   by_cases hk : p.cabin = (k : Int)
   · have hf : ¬ p.from' = (k : Int) := by omega
     rw [if_pos hk, if_neg hf, if_pos ⟨hs, hk⟩, tiedW_no hf]
     exact ⟨rfl, rfl, hl, rfl, by simp [rowCut], by simp [rowCut]⟩
   · rw [if_neg hk, if_neg (c := p.state = 1 ∧ p.cabin = (k : Int)) (fun w => hk w.2)]
     by_cases hf : p.from' = (k : Int)
     · rw [if_pos hf, tiedW_yes hf]
       rw [tiedW_yes hf] at ht
       obtain ⟨e1, e2⟩ := hl.untie (n := p.size) (by omega) ht
       unfold seatsC
       dsimp only
       rw [e1]
       exact ⟨rfl, rfl, e2, rfl, by dsimp only; omega, rfl⟩
     · rw [if_neg hf, tiedW_no hf]
       exact ⟨rfl, rfl, hl, rfl, by omega, by omega⟩
theorem cancel_hp {h : House} {p : Party} (hp : HRep h) (hm : p ∈ h.parties) : HRep (cancelM h p) := by
 have g := hp.pr hm
 have gc := g.cab; have hl := hp.cabs; have gst := g.st
 unfold cancelM
 split
 · rename_i hs
   have h1 := goneDrop_hp hp hm hs
   have h2 : goneM (withTodo (dropM h p) (todoPut h.todo p.cabin)) p = withTodo (goneM (dropM h p) p) (todoPut (goneM (dropM h p) p).todo p.cabin) := rfl
   rw [h2]
   refine h1.todo gc.1 ?_
   have : (goneM (dropM h p) p).cabins.length = h.cabins.length := by
    unfold goneM dropM
    dsimp only
    split <;> simp only [modC_len]
   omega
 · exact goneCut_hp hp hm (by omega)
theorem decline_hp {h : House} {p : Party} (hp : HRep h) (hm : p ∈ h.parties) (hs : p.state = 2) : HRep (declineM h p) := by
 have g := hp.pr hm
 have gc := g.cab; have hl := hp.cabs
 obtain ⟨_, _, _, _, _, h6⟩ := fails_same (h := h) (p := p)
 exact (fails_hp hp hm hs).todo gc.1 (by omega)
theorem looseAt_of {h : House} {k : Int} {c : Cabin} (hp : HRep h) (hc : h.cabins[k.toNat]? = some c) : looseAt h k = c.seats.sold - c.seats.tied := by
 have hlp := ledgerOk_iff.1 (hp.cab _ c hc).2.1.led
 have a1 := hlp.total; have a2 := hlp.free; have a3 := hlp.held; have a4 := hlp.sold; have a5 := hlp.sum; have a6 := hlp.tied
 simp only [looseAt, hc]
 exact wr_of (by omega) (by omega)
theorem count_cnt {h : House} (hp : HRep h) (k : Int) : countGo h.parties k 0 = (cnt h.parties k : Nat) := by
 have := hp.len
 rw [countGo_cnt k h.parties 0 (by omega) (by omega)]; omega
structure JoinV (h : House) (q : Req) : Prop where
 cab : 0 ≤ q.cabin ∧ q.cabin < (h.cabins.length : Int)
 frm : -1 ≤ q.from' ∧ q.from' < (h.cabins.length : Int)
 ne : q.from' ≠ q.cabin
 size : 1 ≤ q.size ∧ q.size ≤ h.rules.size
 tier : 0 ≤ q.tier ∧ q.tier < h.rules.tiers
 id : 1 ≤ q.id ∧ q.id ≤ 999
 no : atId h.parties q.id < 0
 full : (cnt h.parties q.cabin : Int) < h.rules.room
 tied : ∀ c, 0 ≤ q.from' → h.cabins[q.from'.toNat]? = some c → q.size ≤ c.seats.sold - c.seats.tied
 turn : h.turn ≤ 1000000
theorem joinV {h : House} {q : Req} (v : VOk h q) (hk : q.kind = 1) : JoinV h q := by
 have hv := v.v
 obtain ⟨_, r2, r3, r4, r5, r6⟩ := reqOk_form v.ok
 unfold vKind at hv
 rw [if_pos hk] at hv
 unfold vJoin at hv
 rw [count_cnt v.hp] at hv
 have hrr := rr_of v.hp.rules
 simp only [inB, Bool.and_eq_false_iff, decide_eq_false_iff_not] at hv
 repeat' (split at hv; omega)
 rename_i h1 h2 h3 h4 h5 h6 h7 h8
 refine ⟨by omega, by omega, by omega, by omega, by omega, by omega, by omega, by omega, fun c h0 hc => ?_, by omega⟩
 rw [← looseAt_of v.hp hc]
 omega
theorem join_hp {h : House} {q : Req} (hp : HRep h) (v : JoinV h q) : HRep (joinM h q) := by
 have hrr := rr_of hp.rules
 have hcb := hp.cabs; have hn := hp.now; have ht := hp.turn
 have v1 := v.cab; have v2 := v.frm; have v3 := v.ne; have v4 := v.size; have v5 := v.tier; have v6 := v.id; have v7 := v.full; have v8 := v.turn
 have r1 := hrr.size; have r2 := hrr.tries; have r3 := hrr.rest
 have e0 : wr (h.turn + 1) = h.turn + 1 := wr_of (by omega) (by omega)
 have hq : PR h.rules h.now (joinP h q) := ⟨by dsimp only [joinP]; omega, by dsimp only [joinP]; omega, by dsimp only [joinP]; omega, by dsimp only [joinP]; omega, by dsimp only [joinP]; omega, by dsimp only [joinP]; omega, by dsimp only [joinP]; omega, by dsimp only [joinP]; omega, by dsimp only [joinP]; omega, by dsimp only [joinP]; omega, .inl (by dsimp only [joinP]; omega)⟩
 have hlen : (partyPut h.parties (joinP h q)).length ≤ 40 := by
  have h1 := cnt_all h.rules.room.toNat h.rules.seats.length (partyPut h.parties (joinP h q)) (fun p hpm => by
   rw [partyPut_new v.no, insL_iff] at hpm
   rcases hpm with rfl | hpm
   · exact ⟨v1.1, by dsimp only [joinP]; omega⟩
   · exact (hp.pr hpm).cab) (fun k hk => by
   obtain ⟨c, hck⟩ : ∃ c, h.cabins[k]? = some c := ⟨_, List.getElem?_eq_getElem (by omega)⟩
   have h9 := (hp.cab k c hck).2.2
   rw [partyPut_new v.no, cnt_perm (insL_perm _ _), cnt_cons]
   split
   · rename_i he
     have : (joinP h q).cabin = q.cabin := rfl
     rw [← he, this] at h9 ⊢
     omega
   · omega)
  have r4 := hrr.room; have r5 := hrr.seats
  have : h.rules.room.toNat * h.rules.seats.length ≤ 10 * 4 := Nat.mul_le_mul (by omega) (by omega)
  omega
 have h1 : HRep ⟨h.rules, h.now, wr (h.turn + 1), partyPut h.parties (joinP h q),
  if q.from' < 0 then modC h.cabins q.cabin (rowPut (entryOf h.rules (joinP h q) h.now)) else modC (modC h.cabins q.cabin (rowPut (entryOf h.rules (joinP h q) h.now))) q.from' (seatsC (lTie · q.size)), h.todo, h.jobs⟩ := by
  refine hp.join (q := joinP h q) hq v.no rfl rfl rfl v.full rfl rfl e0 rfl (by dsimp only; split <;> simp only [modC_len]) rfl rfl hlen fun k c c' hc hc' hl => ?_
  dsimp only at hc'
  have g1 : (modC h.cabins q.cabin (rowPut (entryOf h.rules (joinP h q) h.now)))[k]? = some (if q.cabin = (k : Int) then rowPut (entryOf h.rules (joinP h q) h.now) c else c) := modC_at v1.1 hc
  have g2 : c' = if q.from' = (k : Int) then seatsC (lTie · q.size) (if q.cabin = (k : Int) then rowPut (entryOf h.rules (joinP h q) h.now) c else c) else (if q.cabin = (k : Int) then rowPut (entryOf h.rules (joinP h q) h.now) c else c) := by
   split at hc'
   · rename_i hneg
     rw [if_neg (by omega)]
     rw [g1] at hc'; injection hc' with hc'; exact hc'.symm
   · rw [modC_at (by omega) g1] at hc'; injection hc' with hc'; exact hc'.symm
  have k1 : (joinP h q).cabin = q.cabin := rfl
  have k2 : (joinP h q).from' = q.from' := rfl
  have k3 : (joinP h q).size = q.size := rfl
  rw [g2, k1]
  by_cases hk : q.cabin = (k : Int)
  · rw [if_pos hk, if_neg (by omega), if_pos hk, tiedW_no (by rw [k2]; omega)]
    exact ⟨rfl, rfl, hl, rfl, rfl, by simp [rowPut]⟩
  · rw [if_neg hk, if_neg hk]
    by_cases hf : q.from' = (k : Int)
    · rw [if_pos hf, tiedW_yes (by rw [k2]; exact hf), k3]
      have ht := v.tied c (by omega) (by rw [hf]; simpa using hc)
      obtain ⟨e1, e2⟩ := hl.tie (n := q.size) (by omega) ht
      unfold seatsC
      dsimp only
      rw [e1]
      exact ⟨rfl, rfl, e2, rfl, rfl, rfl⟩
    · rw [if_neg hf, tiedW_no (by rw [k2]; exact hf)]
      exact ⟨rfl, rfl, hl, rfl, rfl, by omega⟩
 refine h1.todo v1.1 ?_
 dsimp only
 split <;> simp only [modC_len] <;> omega
theorem tickC_len (h : House) (k : Nat) : ∀ (l : List Cabin) (i : Nat), (tickC h k i l).length = l.length
 | [], _ => rfl
 | c :: cs, i => by simp [tickC, tickC_len h k cs]
theorem tickC_at (h : House) (k : Nat) : ∀ (l : List Cabin) (i j : Nat) (c : Cabin), l[j]? = some c → (tickC h k i l)[j]? = some (if i + j < k then ⟨c.seats, queueOf h.rules h.parties ((i + j : Nat) : Int) (wr (h.now + 1)), c.wheel⟩ else c)
 | [], _, j, c, hc => by simp at hc
 | d :: cs, i, 0, c, hc => by
   simp at hc; subst hc
   simp [tickC]
 | d :: cs, i, j + 1, c, hc => by
   have := tickC_at h k cs (i + 1) j c (by simpa using hc)
   rw [show i + 1 + j = i + (j + 1) by omega] at this
   simpa [tickC] using this
theorem tickC_step (h : House) (k : Nat) : ∀ (l : List Cabin) (i : Nat), tickC h (i + k + 1) i l = modC (tickC h (i + k) i l) k (fun c => ⟨c.seats, queueOf h.rules h.parties ((i + k : Nat) : Int) (wr (h.now + 1)), c.wheel⟩) := by
 intro l i
 refine List.ext_getElem? fun j => ?_
 cases hj : l[j]? with
 | none =>
   have hle := List.getElem?_eq_none_iff.1 hj
   rw [List.getElem?_eq_none (by rw [tickC_len]; exact hle), List.getElem?_eq_none (by rw [modC_len, tickC_len]; exact hle)]
 | some c =>
   rw [tickC_at h _ l i j c hj, modC_at (by omega) (tickC_at h _ l i j c hj)]
   by_cases hjk : (k : Int) = (j : Int)
   · have : k = j := by omega
     subst this
     rw [if_pos (by omega), if_pos rfl, if_neg (by omega)]
   · rw [if_neg hjk]
     by_cases h1 : i + j < i + k
     · rw [if_pos (by omega), if_pos h1]
     · rw [if_neg (by omega), if_neg h1]
theorem tickT_ok {ps : List Party} {n : Int} : ∀ (k : Nat) {l : List Int}, (k : Int) ≤ n → (∀ x ∈ l, 0 ≤ x ∧ x < n) → l.Nodup → (∀ x ∈ tickT ps k l, 0 ≤ x ∧ x < n) ∧ (tickT ps k l).Nodup
 | 0, l, _, h1, h2 => ⟨h1, h2⟩
 | k + 1, l, hk, h1, h2 => by
   have ih := tickT_ok (ps := ps) k (l := l) (by omega) h1 h2
   unfold tickT
   split
   · unfold todoPut
     split
     · exact ih
     · rename_i hn
       refine ⟨fun x hx => ?_, List.nodup_append.2 ⟨ih.2, by simp, fun a ha b hb he => hn ?_⟩⟩
       · rcases List.mem_append.1 hx with hx | hx
         · exact ih.1 x hx
         · rw [List.mem_singleton.1 hx]; omega
       · rw [List.mem_singleton.1 hb] at he
         exact List.any_eq_true.2 ⟨a, ha, by simpa using he⟩
   · exact ih
theorem tick_hp {h : House} (hp : HRep h) (hn : h.now < 1000000) : HRep (tickM h) := by
 have hw := hp.now
 have hrr := rr_of hp.rules
 have e1 : wr (h.now + 1) = h.now + 1 := wr_of (by omega) (by omega)
 have hseat := hrr.seats; have hcb := hp.cabs
 have hpok : ∀ p ∈ h.parties, PR h.rules (h.now + 1) p := fun p hm => by
  have g := hp.pr hm
  have g1 := g.since; have g2 := g.st
  exact ⟨g.id0, g.id1, g.cab, g.frm, g.ne, g.size, g.tier, by omega, g.turn, g.asked, by omega⟩
 have hpps : PPs (tickM h) := ⟨fun p hm => ⟨partyOk_iff.2 ⟨hp.rules, by show 0 ≤ wr (h.now + 1) ∧ wr (h.now + 1) ≤ 1000000; omega, by show PR h.rules (wr (h.now + 1)) p; rw [e1]; exact hpok p hm⟩, (hp.pps.ok p hm).2⟩, hp.pps.ids, hp.pps.kk⟩
 have hj := JobsP.iff.1 hp.jobs
 have hwl : wr ((h.cabins.length : Int) - 1) = (h.cabins.length : Int) - 1 := wr_of (by omega) (by omega)
 have hlen : (tickM h).cabins.length = h.cabins.length := tickC_len _ _ _ _
 refine ⟨hp.rules, by show 0 ≤ wr (h.now + 1) ∧ wr (h.now + 1) ≤ 1000000; omega, hp.turn, hp.len, hlen.trans hp.cabs, hpps, ?_, fun k c' hc' => ?_⟩
 · have h2 := tickT_ok (ps := h.parties) (n := (h.cabins.length : Int)) h.cabins.length (l := h.todo) (by omega) (fun x hx => by
    have := hj.1 x hx
    rw [hwl] at this
    simp only [inB, Bool.and_eq_true, decide_eq_true_eq] at this; omega) hj.2.1
   refine JobsP.iff.2 ⟨fun x hx => ?_, h2.2, fun x hx => ?_, hj.2.2.2⟩
   · rw [hlen, hwl]
     have := h2.1 x hx
     simp only [inB, Bool.and_eq_true, decide_eq_true_eq]; omega
   · rw [hlen]; exact hj.2.2.1 x hx
 · have hlt : k < h.cabins.length := by have := (List.getElem?_eq_some_iff.1 hc').1; omega
   have hc := List.getElem?_eq_getElem hlt
   have h3 := tickC_at h h.cabins.length h.cabins 0 k _ hc
   rw [Nat.zero_add, if_pos hlt] at h3
   have h4 : (tickM h).cabins[k]? = some _ := h3
   rw [h4] at hc'
   injection hc' with hc'
   subst hc'
   obtain ⟨g1, g2, g3⟩ := hp.cab k _ hc
   refine ⟨g1, rep_of g2.led ?_ g2.whR g2.held g2.tied, g3⟩
   exact ⟨queueOf_ss hp.good.turns, fun e => queueOf_iff⟩
theorem job_rng {h : House} (hp : HRep h) {k : Int} (h0 : 0 ≤ k) (h1 : k < h.rules.crew) : h.jobs[k.toNat]? = some (jobAt h k) ∧ -1 ≤ jobAt h k ∧ jobAt h k < (h.cabins.length : Int) := by
 have hj := JobsP.iff.1 hp.jobs
 have hs := (rr_of hp.rules).seats; have hcb := hp.cabs
 have hl := hj.2.2.2
 obtain ⟨j, hjk⟩ : ∃ j, h.jobs[k.toNat]? = some j := ⟨_, List.getElem?_eq_getElem (by omega)⟩
 have h2 := hj.2.2.1 j (List.mem_of_getElem? hjk)
 rw [wr_of (by omega) (by omega)] at h2
 simp only [inB, Bool.and_eq_true, decide_eq_true_eq] at h2
 simp only [jobAt, hjk]
 exact ⟨trivial, by omega, by omega⟩
theorem HRep.setJobs {h : House} (hp : HRep h) {l m : List Int} (hl : ∀ x ∈ l, x ∈ h.todo) (hd : l.Nodup) (hm : ∀ x ∈ m, -1 ≤ x ∧ x < (h.cabins.length : Int)) (hlen : m.length = h.jobs.length) : HRep (withJobs h l m) := by
 refine hp.jobs' rfl rfl rfl rfl rfl ?_
 have hj := JobsP.iff.1 hp.jobs
 have hs := (rr_of hp.rules).seats; have hcb := hp.cabs
 refine JobsP.iff.2 ⟨fun x hx => hj.1 x (hl x hx), hd, fun x hx => ?_, by show (m.length : Int) = _; rw [hlen]; exact hj.2.2.2⟩
 have := hm x hx
 show inB x (-1) (wr ((h.cabins.length : Int) - 1)) = true
 rw [wr_of (by omega) (by omega)]
 simp only [inB, Bool.and_eq_true, decide_eq_true_eq]; omega
theorem HRep.jobRng {h : House} (hp : HRep h) {x : Int} (hx : x ∈ h.jobs) : -1 ≤ x ∧ x < (h.cabins.length : Int) := by
 have hs := (rr_of hp.rules).seats; have hcb := hp.cabs
 have h2 := (JobsP.iff.1 hp.jobs).2.2.1 x hx
 rw [wr_of (by omega) (by omega)] at h2
 simp only [inB, Bool.and_eq_true, decide_eq_true_eq] at h2
 omega
theorem HRep.todoRng {h : House} (hp : HRep h) {x : Int} (hx : x ∈ h.todo) : 0 ≤ x ∧ x < (h.cabins.length : Int) := by
 have hs := (rr_of hp.rules).seats; have hcb := hp.cabs
 have h2 := (JobsP.iff.1 hp.jobs).1 x hx
 rw [wr_of (by omega) (by omega)] at h2
 simp only [inB, Bool.and_eq_true, decide_eq_true_eq] at h2
 omega
theorem set_mem' {l : List Int} {k : Nat} {y x : Int} (h : x ∈ l.set k y) : x = y ∨ x ∈ l := by
 rcases List.mem_or_eq_of_mem_set h with h | h
 · exact .inr h
 · exact .inl h
theorem scan_hp {h : House} {cabin : Int} (hp : HRep h) (h0 : 0 ≤ cabin) (h1 : cabin < (h.cabins.length : Int)) : HRep (scan h cabin).1 ∧ (scan h cabin).1.cabins.length = h.cabins.length ∧ (scan h cabin).1.rules = h.rules ∧ (scan h cabin).1.now = h.now ∧ (scan h cabin).1.todo = h.todo ∧ (scan h cabin).1.jobs = h.jobs := by
 have hb := hasCab_mk hp h0 h1
 obtain ⟨e1, e2⟩ := expire_hp hb
 obtain ⟨b1, b2, b3, b4, b5, b6⟩ := expireGo_same (dueIds h cabin) h
 unfold scan
 rw [if_pos hb]
 obtain ⟨a1, a2, a3, a4, a5, a6⟩ := scanGo_hp (waits (expireM h cabin).parties) (expireM h cabin) cabin e1
 exact ⟨a1, a2.trans b6, a3.trans b1, a4.trans b2, a5.trans b4, a6.trans b5⟩
theorem pick_hp {h : House} {who : Int} (hp : HRep h) (h0 : 0 ≤ who) (h1 : who < h.rules.crew) (h2 : ¬ (jobAt h who < 0 ∧ h.todo.length = 0)) : HRep (pickM h who).1 := by
 obtain ⟨j1, j2, j3⟩ := job_rng hp h0 h1
 have hj := JobsP.iff.1 hp.jobs
 unfold pickM
 split
 · rename_i hneg
   cases ht : h.todo with
   | nil => exact absurd ⟨hneg, by rw [ht]; rfl⟩ h2
   | cons t ts =>
     dsimp only
     refine hp.setJobs (fun x hx => by rw [ht]; exact List.mem_cons_of_mem _ hx) (by rw [ht] at hj; exact (List.nodup_cons.1 hj.2.1).2) (fun x hx => ?_) (by simp)
     rcases set_mem' hx with hx | hx
     · have := hp.todoRng (x := t) (by rw [ht]; simp)
       have e : x = t := hx
       rw [e]; omega
     · exact hp.jobRng hx
 · obtain ⟨a1, a2, a3, a4, a5, a6⟩ := scan_hp hp (show 0 ≤ jobAt h who by omega) j3
   have hs := (rr_of hp.rules).seats; have hcb := hp.cabs
   refine a1.setJobs (fun x hx => hx) (JobsP.iff.1 a1.jobs).2.1 (fun x hx => ?_) (by simp)
   rcases set_mem' hx with rfl | hx
   · omega
   · exact a1.jobRng hx
theorem vAns_ok {h : House} {id : Int} (hp : HRep h) (hv : vAns h id = 0) : partyOf h.parties id ∈ h.parties ∧ (partyOf h.parties id).id = id ∧ (partyOf h.parties id).state = 2 ∧ h.now < (partyOf h.parties id).until' := by
 unfold vAns at hv
 split at hv
 · omega
 · rename_i h1
   split at hv
   · omega
   · rename_i h2
     split at hv
     · omega
     · rename_i h3
       obtain ⟨a, b⟩ := partyOf_in h1
       have h4 : (partyOf h.parties id).state = 2 := by omega
       refine ⟨a, b, h4, ?_⟩
       simp [dueB, h4] at h3
       omega
theorem done_hp {h : House} {q : Req} (v : VOk h q) : HRep (doneM h q) := by
 have hp := v.hp
 have hv := v.v
 have hk := v.kind
 obtain ⟨r1, r2, r3, r4, r5, r6⟩ := reqOk_form v.ok
 unfold doneM
 split
 · rename_i h1; exact join_hp hp (joinV v h1)
 · rename_i h1
   unfold vKind at hv
   rw [if_neg h1] at hv
   split
   · rename_i h2
     rw [if_pos h2] at hv
     split at hv
     · omega
     · rename_i h3; exact cancel_hp hp (partyOf_in h3).1
   · rename_i h2
     rw [if_neg h2] at hv
     split
     · rename_i h3
       rw [if_pos h3] at hv
       unfold vFree at hv
       split at hv
       · omega
       · rename_i g1
         split at hv
         · omega
         · rename_i g2
           split at hv
           · omega
           · rename_i g3
             obtain ⟨c, hc⟩ : ∃ c, h.cabins[q.cabin.toNat]? = some c := ⟨_, List.getElem?_eq_getElem (by omega)⟩
             rw [looseAt_of hp hc] at g3
             simp only [Bool.not_eq_false, inB, Bool.and_eq_true, decide_eq_true_eq] at g2
             exact free_hp hp r3.1 hc (by omega) (by omega)
     · rename_i h3
       rw [if_neg h3] at hv
       split
       · rename_i h4
         rw [if_pos (.inl h4)] at hv
         obtain ⟨a, b, c, d⟩ := vAns_ok hp hv
         exact accept_hp hp a c
       · rename_i h4
         split
         · rename_i h5
           rw [if_pos (.inr h5)] at hv
           obtain ⟨a, b, c, d⟩ := vAns_ok hp hv
           exact decline_hp hp a c
         · rename_i h5
           rw [if_neg (by omega)] at hv
           split
           · rename_i h6
             rw [if_pos h6] at hv
             split at hv
             · omega
             · exact tick_hp hp (by omega)
           · rename_i h6
             rw [if_neg h6] at hv
             unfold vPick at hv
             split at hv
             · omega
             · split at hv
               · omega
               · rename_i g1 g2
                 exact pick_hp hp r2.1 (by omega) g2
theorem do_hp {h : House} {q : Req} (hp : HRep h) : HRep (doM h q) := by
 unfold doM
 split
 · rename_i h0; exact done_hp (verdict_ok h0)
 · exact hp
theorem accM_no {h : House} {p : Party} {id : Int} {c : Cabin} (hx : h.cabins[p.cabin.toNat]? = some c) (hf : p.from' < 0) (hid : p.id = id) : acceptM h p = ⟨h.rules, h.now, h.turn, partyCut h.parties id, h.cabins.set p.cabin.toNat ⟨lSell c.seats p.size, c.row, wheelCut c.wheel ⟨p.until', id⟩⟩, h.todo, h.jobs⟩ := by
 subst hid
 unfold acceptM
 rw [if_pos hf]
 unfold goneM soldM
 rw [modC_of _ hx, if_pos hf]; rfl
theorem accM_fr {h : House} {p : Party} {id : Int} {c y : Cabin} (hx : h.cabins[p.cabin.toNat]? = some c) (hf : ¬ p.from' < 0) (hy : (h.cabins.set p.cabin.toNat ⟨lSell c.seats p.size, c.row, wheelCut c.wheel ⟨p.until', id⟩⟩)[p.from'.toNat]? = some y) (hid : p.id = id) : acceptM h p = ⟨h.rules, h.now, h.turn, partyCut h.parties id, (h.cabins.set p.cabin.toNat ⟨lSell c.seats p.size, c.row, wheelCut c.wheel ⟨p.until', id⟩⟩).set p.from'.toNat ⟨lFree (lUntie y.seats p.size) p.size, y.row, y.wheel⟩, todoPut h.todo p.from', h.jobs⟩ := by
 subst hid
 unfold acceptM
 rw [if_neg hf]
 unfold freeM goneM soldM
 dsimp only
 rw [modC_of _ hx, if_neg hf]
 rw [modC_modC]
 show (House.mk _ _ _ _ (modC (h.cabins.set p.cabin.toNat ⟨lSell c.seats p.size, c.row, wheelCut c.wheel ⟨p.until', p.id⟩⟩) p.from' _) _ _) = _
 rw [modC_of _ hy]; rfl
theorem markL_at {α : Type} {m : α → Int → α × Int} : ∀ (xs : List α) (k : Int) (i : Nat) (h : i < xs.length), (markL m xs k).1[i]? = some (m xs[i] (markL m (xs.take i) k).2).1
 | x :: xs, k, 0, _ => by simp [markL]
 | x :: xs, k, i + 1, h => by
   simp only [markL, List.getElem?_cons_succ, List.take_succ_cons, List.getElem_cons_succ]
   exact markL_at xs (m x k).2 i (by simpa using h)
theorem markL_snoc {α : Type} {m : α → Int → α × Int} : ∀ (xs : List α) (k : Int) (i : Nat) (h : i < xs.length), (markL m (xs.take (i + 1)) k).2 = (m xs[i] (markL m (xs.take i) k).2).2
 | x :: xs, k, 0, _ => by simp [markL]
 | x :: xs, k, i + 1, h => by
   simp only [List.take_succ_cons, markL, List.getElem_cons_succ]
   exact markL_snoc xs (m x k).2 i (by simpa using h)
def idleB (h : House) : Bool := h.jobs.all (fun j => decide (j < 0)) && decide (h.todo.length = 0)
noncomputable def drainGo : Nat → Int → House → House
 | 0, _, h => h
 | n + 1, i, h => if idleB h then h else drainGo n (i + 1) (doM h ⟨7, Int.tmod i h.rules.crew, 0, 0, 0, 0⟩)
noncomputable def drained (h : House) : House := if houseOk h then drainGo 60 0 h else h
section rules
variable {X : List Nat} {P : Program} {N : Nat} {W : World} {S0 : List Nat} {Q : Exit → Go.Act → World → Prop} {T : Tm} {L : Bx} {C : List Ass} {ops : Array Oper} {Kn : List (Nat × Nat)} {i : Nat} {bs : List Nat} {L0 : Bx} {Ks : Keys} {T0 : Tm} {f : Nat} {Ls : List Nat} {la : Array Bool}
theorem hSOF {t : TypeId} {x y : Operand} {ty : TypeId} {a : Option Addr} {m n cap sz off j e : Nat} {α : Type} {enc : α → List Value} {hh : ∀ x, (enc x).length = sz ∧ ∀ u ∈ enc x, isCell u = true} {xs : List α} {v : Value} {x1 : α} {R : List Ass}
 (hx : evo T x = some (.e a (m * sz) off) := by conv => lhs; whnf) (hy : evv T y = some v := by conv => lhs; whnf) (hp : pull j C = some (slA e (flat sz enc hh) (.slice a n cap) xs, R) := by exact PU) (el : ElT P e α sz enc hh := by infer_instance) (hj : m < xs.length := by exact LEN) (hv : stE el.dec off (enc xs[m]) v some = some x1 := by conv => lhs; whnf)
 (k : HL X P N W S0 ops Q bs L0 Ks T0 f (i :: Ls) (la.setIfInBounds i true) Kn T L (R ++ [slA e (flat sz enc hh) (.slice a n cap) (xs.set m x1)])) (hR : KP (frz bs L0) Ks (i :: Ls) (la.setIfInBounds i true) R := by exact KP.mk)
 (ho : opAt ops T i = some (.store t x y, none, ty) := by kernel_rfl) (hst : storeOf P t (enc xs[m]) off v = some (enc x1) := by kernel_rfl) :
 HO (.op (.store t x y) none ty) i X P N W S0 ops Q bs L0 Ks T0 f Ls la Kn T L C :=
 STOREF t x y ty ho j R e a n cap m off xs (by simp [pulls, hp]) xs[m] x1 (List.getElem?_eq_getElem hj) v hx hy hst (hKEEP hR.app k)
theorem hSOz {t : TypeId} {x y : Operand} {ty : TypeId} {a : Option Addr} {z : Int} {n cap sz off j e : Nat} {α : Type} {enc : α → List Value} {hh : ∀ x, (enc x).length = sz ∧ ∀ u ∈ enc x, isCell u = true} {xs : List α} {v : Value} {x1 : α} {R : List Ass}
 (hx : evo T x = some (.e a (z.toNat * sz) off) := by conv => lhs; whnf) (hy : evv T y = some v := by conv => lhs; whnf) (hp : pull j C = some (slA e (flat sz enc hh) (.slice a n cap) xs, R) := by exact PU) (el : ElT P e α sz enc hh := by infer_instance) (hj : z.toNat < xs.length := by exact LEN) (hv : stE el.dec off (enc xs[z.toNat]) v some = some x1 := by conv => lhs; whnf)
 (k : HL X P N W S0 ops Q bs L0 Ks T0 f (i :: Ls) (la.setIfInBounds i true) Kn T L (R ++ [slA e (flat sz enc hh) (.slice a n cap) (xs.set z.toNat x1)])) (hR : KP (frz bs L0) Ks (i :: Ls) (la.setIfInBounds i true) R := by exact KP.mk)
 (ho : opAt ops T i = some (.store t x y, none, ty) := by kernel_rfl) (hst : storeOf P t (enc xs[z.toNat]) off v = some (enc x1) := by kernel_rfl) :
 HO (.op (.store t x y) none ty) i X P N W S0 ops Q bs L0 Ks T0 f Ls la Kn T L C :=
 STOREF t x y ty ho j R e a n cap z.toNat off xs (by simp [pulls, hp]) xs[z.toNat] x1 (List.getElem?_eq_getElem hj) v hx hy hst (hKEEP hR.app k)
theorem uRV {op : Op} {d : Nat} {ty : TypeId} {v : Value} (hrun : Runs P W S0 T C op ty v) (k : HL X P N W S0 ops Q bs L0 Ks T0 f (i :: Ls) (la.setIfInBounds i true) Kn ((d, .v v) :: T) L C) (hC : KP (frz bs L0) Ks (i :: Ls) (la.setIfInBounds i true) C := by exact KP.mk)
 (ho : opAt ops T i = some (op, some d, ty) := by kernel_rfl) (hd : d < N := by exact NL rfl) : HO (.op op (some d) ty) i X P N W S0 ops Q bs L0 Ks T0 f Ls la Kn T L C := RUNV op d ty ho hd v hrun (hKEEP hC k)
theorem goZ {b : BinOp} {t z : TypeId} {x y : Operand} {d : Option Nat} {ty : TypeId} (k : HO (.op (.binOp b t x y z) d ty) i X P N W S0 ops Q bs L0 Ks T0 f Ls la Kn T L C) : HO (.op (.binOp b t x y z) d ty) i X P N W S0 ops Q bs L0 Ks T0 f Ls la Kn T L C := k
theorem aCLOz [TB P] {t : TypeId} {x lo : Operand} {d : Nat} {ty : TypeId} {kl : IntKind} {z : Int} {n cap j : Nat} {a : Option Addr} {e : TypeId} {α : Type} {La : Lay α} {xs : List α} {R : List Ass}
 (hl : evv T lo = some (.int kl z) := by conv => lhs; whnf) (hx : evv T x = some (.slice a n cap) := by conv => lhs; whnf) (hp : pull j C = some (slA e La (.slice a n cap) xs, R) := by exact PU) (h0 : 0 ≤ z) (hz : z ≤ n) (hn : n = xs.length := by rfl)
 (k : ∀ a' : Option Addr, OPL X P N W S0 ops Q Kn (i + 1) ((d, .v (.slice a' (xs.drop z.toNat).length (cap - z.toNat))) :: T) L (R ++ [slA e La (.slice a' (xs.drop z.toNat).length (cap - z.toNat)) (xs.drop z.toNat)])) (hi : Nat.blt i ops.size = true := by rfl)
 (ho : opAt ops T i = some (.slice t x (some lo) none none, some d, ty) := by kernel_rfl) (hd : d < N := by exact NL rfl) (hu : P.underlying t = some (.slice e) := by kernel_rfl) (hs : (P.info? e).map (·.size) = some La.sz := by kernel_rfl) :
 AT (.op (.slice t x (some lo) none none) (some d) ty) X P N W S0 ops Q Kn i T L C :=
 opsOne (lt_of_blt hi) (CUTOL t x lo d ty ho hd a n cap kl z hx hl e La xs hu hs h0 hz hn j R (by simp [pulls, hp]) (fun a' => k a'))
theorem aAPO {t : TypeId} {s x : Operand} {d : Nat} {ty : TypeId} {v : Value} {a2 : Option Addr} {n2 c2 e sz : Nat} {α : Type} {enc : α → List Value} {hh : ∀ x, (enc x).length = sz ∧ ∀ u ∈ enc x, isCell u = true} {xs ys : List α} {j1 j2 : Nat} {R : List Ass} [TB P]
 (he : lkn (TB.D P).row t = some (e, sz) := by conv => lhs; whnf) (el : ElT P e α sz enc hh := by infer_instance) (hs : evv T s = some v := by conv => lhs; whnf) (hx : evv T x = some (.slice a2 n2 c2) := by conv => lhs; whnf)
 (hp1 : pull j1 C = some (slA e (flat sz enc hh) v xs, R) := by exact PU) (hr : C[j2]? = some (slA e (flat sz enc hh) (.slice a2 n2 c2) ys) := by exact NT) (hn2 : ys.length = n2 := by rfl) (hlen : xs.length + n2 ≤ 100000000000 := by exact LEN)
 (k : ∀ (a : Option Addr) (c : Nat), NNil a (xs ++ ys).length → OPL X P N W S0 ops Q Kn (i + 1) ((d, .v (.slice a (xs ++ ys).length c)) :: T) L (R ++ [slA e (flat sz enc hh) (.slice a (xs ++ ys).length c) (xs ++ ys)])) (hi : Nat.blt i ops.size = true := by rfl)
 (ho : opAt ops T i = some (.call { callee := .builtin .append, args := #[s, x], argTypes := #[t, t] }, some d, ty) := by kernel_rfl) (hd : d < N := by exact NL rfl) (hu : P.underlying t = some (.slice e) := by kernel_rfl) :
 AT (.op (.call { callee := .builtin .append, args := #[s, x], argTypes := #[t, t] }) (some d) ty) X P N W S0 ops Q Kn i T L C := by
 have hb := el.small
 have hm : (xs.length + n2) * el.bytes ≤ (xs.length + n2) * 1024 := Nat.mul_le_mul_left _ hb
 have hz : el.z.cells.size = sz := by
  have h1 := congrArg List.length el.zc
  rw [(hh el.x0).1] at h1
  simpa using h1
 exact opsOne (lt_of_blt hi) (APPENDR t s x d ty ho hd v a2 n2 c2 hs hx e hu el.z el.bytes el.info hz el.pos j1 xs ys R (by simp [pulls, hp1]) hn2 (fun w hw => hw.rdO j2 hr) (by omega) (by simp only [maxLen]; omega) k)
theorem ST3 {A B : Prop} (k : B) (h : B → A := by
 intro k
 first
 | (refine idHO ?_
    refine goS ?_
    first
    | exact hSOz (k := k)
    | exact hSOF (k := k))
 | (refine idHO ?_
    refine goZ ?_
    exact uRV rREM k)
 | (refine idAT ?_; refine gtP ?_; exact aAPO (k := k))
 | (refine idAT ?_; refine gtC ?_; exact aCLOz (h0 := by omega) (hz := by omega) (k := k))) : A := h k
end rules
structure Kd where
 W : World
 f : List Nat
 v : Value
def Kd.ok (d : Kd) : Prop := ∃ (a : Option Addr) (c : Nat) (xs : List UInt8), d.v = .slice a xs.length c ∧ xs.length ≤ c ∧ SlR byteL d.W a xs d.f
theorem Kd.ok.lt {d : Kd} (h : d.ok) : ∀ b ∈ d.f, b < d.W.heap.size := let ⟨_, _, _, _, _, hs⟩ := h; hs.lt
def keepP (d : Kd) (w : World) : Prop := d.ok ∧ ∀ b ∈ d.f, w.heap[b]? = d.W.heap[b]?
theorem keepP.st {d : Kd} {w w' : World} (h : keepP d w) (hb : ∀ b ∈ d.f, w'.heap[b]? = w.heap[b]?) : keepP d w' := ⟨h.1, fun b hm => (hb b hm).trans (h.2 b hm)⟩
theorem keepP.lt {d : Kd} {w : World} (h : keepP d w) : ∀ b ∈ d.f, b < w.heap.size := by
 intro b hb
 have h1 := h.2 b hb
 rw [Array.getElem?_eq_getElem (h.1.lt b hb)] at h1
 exact (Array.getElem?_eq_some_iff.1 h1).1
theorem keepP.rd {d : Kd} {w : World} (h : keepP d w) {a : Option Addr} {c : Nat} {xs : List UInt8} (hs : SlR byteL d.W a xs d.f) : Rd byteL w a xs := ⟨d.f, hs.st h.2⟩
def keepA (d : Kd) : Ass := ⟨fun w fp => fp = d.f ∧ keepP d w, fun w w' fp h hb => ⟨h.1, h.2.st (by rw [← h.1]; exact hb)⟩, fun w fp h => by rw [h.1]; exact h.2.lt⟩
def curO (d : Kd) (t : TypeId) (p : Value) : Ass :=
 ⟨fun w fp => ∃ b i h, p = .pointer (some ⟨b, 0, none⟩) ∧ 0 ≤ i ∧ fp = b :: d.f ∧ w.heap[b]? = some (.cells #[d.v, vi i, vi h] t (0, 0)) ∧ keepP d w,
   fun w w' fp ⟨b, i, h, h1, h2, h3, h4, h5⟩ hb => ⟨b, i, h, h1, h2, h3, (hb b (by rw [h3]; simp)).trans h4, h5.st (fun x hx => hb x (by rw [h3]; simp [hx]))⟩,
   fun w fp ⟨b, i, h, h1, h2, h3, h4, h5⟩ x hx => by
    rw [h3] at hx
    rcases List.mem_cons.1 hx with rfl | hx
    · exact (Array.getElem?_eq_some_iff.1 h4).1
    · exact h5.lt x hx⟩
def IsCur (p : Value) (d : Kd) : Prop := True
def RWk {α ι : Type} (P : α → Prop) (val : α → ι → Value) (own : α → ι → List Ass) (O : List Ass) : Res := ⟨{x : α // P x} × ι, fun q => val q.1.1 q.2, fun q => own q.1.1 q.2 ++ O⟩
section rules
variable {X : List Nat} {P : Program} {N : Nat} {W : World} {S0 : List Nat} {Q : Exit → Go.Act → World → Prop} {T : Tm} {L : Bx} {C : List Ass} {ops : Array Oper} {Kn : List (Nat × Nat)} {i : Nat} {bs : List Nat} {L0 : Bx} {Ks : Keys} {T0 : Tm} {f : Nat} {Ls : List Nat} {la : Array Bool}
theorem keepA.rd {w : World} {d : Kd} {j : Nat} (hw : At W S0 C w) {a : Option Addr} {xs : List UInt8} (hs : SlR byteL d.W a xs d.f) (hC : C[j]? = some (keepA d) := by exact NT) : Rd byteL w a xs := by
 obtain ⟨fp, h1⟩ := hw.own j hC
 exact ⟨d.f, hs.st h1.2.2⟩
end rules
open Go.ChangeShapes Go.WideShapes Go.ChangeAt
def Opens (P : Program) (t : TypeId) {α : Type} (L : Lay α) (wf : α → Prop) : Prop :=
 ∀ (H : Type) (enc : TypeId × Value → H) (w : World) (base : Nat) (spare : Nat → Bool) (held : Bool) (fuel : Nat) (cs : List Value) (x : DataW H × List MemPlace),
   DataW.trod enc P w base spare held fuel t cs = some x → ∃ y f, L.rep false w cs y f ∧ wf y
abbrev i64R (x : Int) : Prop := -9223372036854775808 ≤ x ∧ x ≤ 9223372036854775807
theorem wf_i64R {x : Int} (h : (Lit.int .i64 x).wf = true) : i64R x := by
 have := bounds_i64 h
 unfold i64R
 omega
theorem open_int' {P : Program} {t : TypeId} (ht : P.underlying t = some (.int .i64)) : Opens P t intL i64R := by
 intro H enc w base spare held fuel cs x h
 obtain ⟨n, rfl, _, hw⟩ := DataW.trod_int ht h
 exact ⟨n, [], ⟨rfl, rfl⟩, wf_i64R hw⟩
theorem cell_spot {w : World} {a : Addr} {v : Value} (h : w.cell? a = some v) : a.spot = none ∧ a.block < w.heap.size := by
 refine ⟨?_, World.block_lt_of_cell? w a h⟩
 unfold World.cell? at h
 split at h
 · split at h
   · cases h
   · rename_i hs; simpa using hs
 · cases h
theorem open_sl {P : Program} {t e : TypeId} {α : Type} {L : Lay α} {wf : α → Prop} (e' : TypeId) (ho : Opens P e L wf) (ht : P.underlying t = some (.slice e)) (hc : P.cellsOf e = L.sz) (hp : 0 < L.sz) :
 Opens P t (sl e' L) (fun xs => ∀ x ∈ xs, wf x) := by
 intro H enc w base spare held fuel cs x h
 rcases DataW.trod_slice ht h with ⟨rfl, _⟩ | ⟨a, len, cap, elems, rest, n, _, rfl, _, hb, hl, hm, hlen, hel, _, _⟩
 · exact ⟨[], [], ⟨none, 0, rfl, by simp, by simp [maxLen], .inl ⟨rfl, rfl⟩⟩, by simp⟩
 · rw [hc] at hel
   have key : ∀ k, k ≤ len → ∃ (ys : List α) (cells : List Value) (g : List Nat), ys.length = k ∧ cellsRep L false w cells ys g ∧ (∀ j, j < cells.length → w.cell? (a.add (k * L.sz - cells.length + j)) = cells[j]?) ∧ (∀ y ∈ ys, wf y) := by
    intro k
    induction k with
    | zero => intro _; exact ⟨[], [], [], rfl, ⟨rfl, rfl⟩, by simp, by simp⟩
    | succ k ih =>
      intro hk
      obtain ⟨ys, cells, g, h1, h2, h3, h4⟩ := ih (by omega)
      have hk' := hel k (by omega)
      have hs : elems[k]? = some (elems[k]'(by omega)) := List.getElem?_eq_getElem (by omega)
      rw [hs] at hk'
      obtain ⟨cs', hcs, htr⟩ := Option.bind_eq_some_iff.1 hk'
      obtain ⟨_, hcl, hcell⟩ := World.cells?_some hcs
      obtain ⟨y, f, hr, hw⟩ := ho H enc w base spare held n cs' _ htr
      have hlen2 := h2.len
      refine ⟨ys ++ [y], cells ++ cs', g ++ f, by simp [h1], h2.append ⟨cs', [], f, [], by simp, by simp, hr, rfl, rfl⟩, ?_, ?_⟩
      · intro j hj
        have hzero : (k + 1) * L.sz - (cells ++ cs').length = 0 := by rw [List.length_append, hcl, hlen2, h1, Nat.add_mul]; omega
        rw [hzero, Nat.zero_add]
        rw [h1] at hlen2
        by_cases hjc : j < cells.length
        · have := h3 j hjc
          rw [hlen2, Nat.sub_self, Nat.zero_add] at this
          rw [this, List.getElem?_append_left hjc]
        · rw [List.getElem?_append_right (by omega)]
          rw [List.length_append, hcl] at hj
          have := hcell (j - cells.length) (by omega)
          rw [SX.add_add] at this
          rw [← this]
          congr 2
          rw [hlen2]
          rw [hlen2] at hjc
          omega
      · intro z hz
        rcases List.mem_append.1 hz with hz | hz
        · exact h4 z hz
        · simp at hz; subst hz; exact hw
   obtain ⟨ys, cells, g, h1, h2, h3, h4⟩ := key len (Nat.le_refl _)
   subst h1
   have hlen2 := h2.len
   simp only [hlen2, Nat.sub_self, Nat.zero_add] at h3
   cases ys with
   | nil => exact ⟨[], [], ⟨some a, cap, rfl, by simp, by simp [maxLen], .inl ⟨rfl, rfl⟩⟩, by simp⟩
   | cons y ys =>
     have hpos : 0 < cells.length := by rw [hlen2]; simp only [List.length_cons, Nat.add_mul]; omega
     have h0 := h3 0 (by omega)
     rw [List.getElem?_eq_getElem hpos] at h0
     obtain ⟨hs, hlt⟩ := cell_spot h0
     obtain ⟨b, o, sp⟩ := a
     simp [Addr.add] at hs hlt
     subst hs
     refine ⟨y :: ys, b :: g, ⟨some ⟨b, o, none⟩, cap, rfl, ?_⟩, h4⟩
     refine ⟨hl, by omega, .inr ⟨b, o, g, cells, rfl, hlt, rfl, h2, fun j hj => ?_⟩⟩
     rw [← h3 j (by omega), add_lit]
theorem field_at {H : Type} {enc : TypeId × Value → H} {P : Program} {w : World} {base : Nat} {spare : Nat → Bool} {held : Bool} {fuel : Nat} {t : TypeId} {cs : List Value} {x : DataW H × List MemPlace} {fs : Array Field}
 (ht : P.underlying t = some (.struct fs)) (h : DataW.trod enc P w base spare held fuel t cs = some x) (i : Nat) (ft : TypeId) (off n : Nat) (hi : (fs[i]?).map (fun f => (f.type, f.offset)) = some (ft, off)) (hn : P.cellsOf ft = n) :
 ∃ fuel' y, DataW.trod enc P w base spare held fuel' ft ((cs.drop off).take n) = some y := by
 obtain ⟨xs, m, _, _, hl, hlen, hf⟩ := DataW.trod_struct ht h
 obtain ⟨f, hfi, he⟩ := Option.map_eq_some_iff.1 hi
 simp only [Prod.mk.injEq] at he
 obtain ⟨rfl, rfl⟩ := he
 have := hf i f hfi
 have hlt : i < xs.length := by rw [hlen]; exact (Array.getElem?_eq_some_iff.1 hfi).1
 rw [List.getElem?_eq_getElem hlt, hn] at this
 exact ⟨m, _, this⟩
theorem struct_len {H : Type} {enc : TypeId × Value → H} {P : Program} {w : World} {base : Nat} {spare : Nat → Bool} {held : Bool} {fuel : Nat} {t : TypeId} {cs : List Value} {x : DataW H × List MemPlace} {fs : Array Field}
 (ht : P.underlying t = some (.struct fs)) (h : DataW.trod enc P w base spare held fuel t cs = some x) {n : Nat} (hn : P.cellsOf t = n) : cs.length = n := by
 obtain ⟨xs, m, _, _, hl, _⟩ := DataW.trod_struct ht h
 rw [hl, hn]
theorem Spec.law {P : Program} {W : World} {f : FuncId} {vs : Array Value} (h : Spec P W [] f vs (RV (.bool true))) : Calls P f vs W fun e w' => e = .returned (.bool true) ∧ Below W.heap.size W w' := by
 refine (h [] trivial (by simp)).mono ?_
 rintro e w' ⟨x, nps, rfl, _, _, _, hfr⟩
 exact ⟨rfl, hfr.below⟩
end SX
end Go.Proofs.YtejojcoaohlfbaaGreat
