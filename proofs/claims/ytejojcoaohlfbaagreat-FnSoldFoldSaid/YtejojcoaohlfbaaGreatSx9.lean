/- Texts of this claim, put together by program. -/
import Derived.Test.YtejojcoaohlfbaaGreatMdlg
import Derived.Test.YtejojcoaohlfbaaGreatSu5
import Derived.Test.YtejojcoaohlfbaaGreatSuTab
import Derived.Test.YtejojcoaohlfbaaGreatSu1
import Derived.Test.YtejojcoaohlfbaaGreatSxc
import Derived.ProofKit
import Derived.OpenShut
import Derived.Handed
/- Offers that run out, scans and rounds, in plain Lean. It imports no program. -/
namespace Go.Proofs.YtejojcoaohlfbaaGreat
namespace SX
set_option linter.unusedVariables false
set_option linter.unusedSimpArgs false
open Go Go.RowKit
/-! ### Who stays -/
def partyOf (l : List Party) (id : Int) : Party := match l[(atId l id).toNat]? with
  | some p => p
  | none => partyZ
theorem partyOf_of {l : List Party} {id : Int} {p : Party} (h : l[(atId l id).toNat]? = some p) : partyOf l id = p := by simp [partyOf, h]
theorem partyOf_mem {l : List Party} (hd : (l.map (·.id)).Nodup) {p : Party} (hp : p ∈ l) : partyOf l p.id = p := by
  obtain ⟨k, h1, h2⟩ := atId_of hd hp
  exact partyOf_of (by rw [h1]; simpa using h2)
theorem partyOf_in {l : List Party} {id : Int} (h : ¬ atId l id < 0) : partyOf l id ∈ l ∧ (partyOf l id).id = id := by
  obtain ⟨p, h1, h2⟩ := atId_at h
  rw [partyOf_of h1]
  exact ⟨List.mem_of_getElem? h1, h2⟩
theorem HRep.ids {h : House} (hp : HRep h) : (h.parties.map (·.id)).Nodup := hp.good.ids
theorem cut_mem {l : List Party} {p x : Party} (hd : (l.map (·.id)).Nodup) (hp : p ∈ l) (hx : x ∈ l) (hne : x.id ≠ p.id) : x ∈ partyCut l p.id := by
  rcases List.mem_cons.1 ((partyCut_perm hd hp).mem_iff.1 hx) with h | h
  · rw [h] at hne; exact absurd rfl hne
  · exact h
theorem put_mem {l : List Party} {p q x : Party} (hd : (l.map (·.id)).Nodup) (hp : p ∈ l) (he : q.id = p.id) (hx : x ∈ l) (hne : x.id ≠ p.id) : x ∈ partyPut l q :=
  (partyPut_perm hd hp he).mem_iff.2 (List.mem_cons_of_mem _ (cut_mem hd hp hx hne))
theorem fails_parties {h : House} {p : Party} : (failsM h p).parties = if failedB h.rules p h.now then partyPut h.parties (failedP h.rules p h.now) else partyCut h.parties p.id := by
  unfold failsM
  split <;> rfl
theorem fails_mem {h : House} {p x : Party} (hp : HRep h) (hm : p ∈ h.parties) (hx : x ∈ h.parties) (hne : x.id ≠ p.id) : x ∈ (failsM h p).parties := by
  rw [fails_parties]
  split
  · exact put_mem hp.ids hm rfl hx hne
  · exact cut_mem hp.ids hm hx hne
theorem fails_same {h : House} {p : Party} : (failsM h p).rules = h.rules ∧ (failsM h p).now = h.now ∧ (failsM h p).turn = h.turn ∧ (failsM h p).todo = h.todo ∧ (failsM h p).jobs = h.jobs ∧ (failsM h p).cabins.length = h.cabins.length := by
  unfold failsM
  split
  · exact ⟨rfl, rfl, rfl, rfl, rfl, modC_len _ _ _⟩
  · refine ⟨rfl, rfl, rfl, rfl, rfl, ?_⟩
    unfold goneM dropM
    dsimp only
    split <;> simp only [modC_len]
/-! ### Offers that run out -/
noncomputable def dueGo (wh : Wheel) (now : Int) : List Pin := (pinsOf wh).filter fun p => decide (p.at' ≤ now)
def dueL (now : Int) (l : List Pin) : List Pin := l.filter fun p => decide (p.at' ≤ now)
theorem dueL_cons {now : Int} {p : Pin} {l : List Pin} : dueL now (p :: l) = if p.at' ≤ now then p :: dueL now l else dueL now l := by
  unfold dueL
  rw [List.filter_cons]
  by_cases h : p.at' ≤ now <;> simp [h]
theorem pinsOf_le (wh : Wheel) : (pinsOf wh).length ≤ 10 := by
  unfold pinsOf
  split
  · rename_i h
    have hw := wheelP_of h
    rw [pinsSort_foldr, (foldr_perm _).length_eq]; exact hw.2.1
  · simp
theorem dueGo_len (wh : Wheel) (now : Int) : (dueGo wh now).length ≤ 10 := Nat.le_trans (List.length_filter_le _ _) (pinsOf_le wh)
noncomputable def dueIds (h : House) (cabin : Int) : List Int := match h.cabins[cabin.toNat]? with
  | some c => (dueGo c.wheel h.now).map (·.id)
  | none => []
theorem dueIds_of {h : House} {cabin : Int} {c : Cabin} (hc : h.cabins[cabin.toNat]? = some c) : dueIds h cabin = (dueGo c.wheel h.now).map (·.id) := by simp [dueIds, hc]
theorem dueIds_len (h : House) (cabin : Int) : (dueIds h cabin).length ≤ 10 := by
  unfold dueIds
  split
  · rw [List.length_map]; exact dueGo_len _ _
  · simp
noncomputable def expireGo : List Int → House → House
  | [], h => h
  | id :: ids, h => expireGo ids (failsM h (partyOf h.parties id))
noncomputable def expireM (h : House) (cabin : Int) : House := expireGo (dueIds h cabin) h
/-- each number is that of a party with an offer -/
def DueP (l : List Party) (ids : List Int) : Prop := ids.Nodup ∧ ∀ id ∈ ids, ∃ p ∈ l, p.id = id ∧ p.state = 2
theorem due_start {h : House} {cabin : Int} (hp : HRep h) (h0 : 0 ≤ cabin) : DueP h.parties (dueIds h cabin) := by
  unfold dueIds
  split
  · rename_i c hc
    have hr := (hp.cab _ c hc).2.1
    have hw := hr.wh
    unfold dueGo
    rw [pinsOf_of hw, pinsSort_foldr]
    have hper := foldr_perm (lt := pinLess) c.wheel.spoke.flatten
    constructor
    · have h1 := (hper.map (·.id)).nodup_iff.2 hw.2.2.2.1
      exact h1.sublist (List.Sublist.map _ List.filter_sublist)
    · intro id hid
      obtain ⟨x, hx, rfl⟩ := List.mem_map.1 hid
      have h2 := hper.mem_iff.1 (List.mem_filter.1 hx).1
      obtain ⟨q, hq, h3, _, h5⟩ := (hr.pin x).1 h2
      exact ⟨q, hq, by rw [h5], h3⟩
  · exact ⟨List.nodup_nil, fun id h => absurd h List.not_mem_nil⟩
theorem due_step {h : House} {id : Int} {ids : List Int} (hp : HRep h) (hd : DueP h.parties (id :: ids)) :
    partyOf h.parties id ∈ h.parties ∧ (partyOf h.parties id).id = id ∧ (partyOf h.parties id).state = 2 ∧ HRep (failsM h (partyOf h.parties id)) ∧ DueP (failsM h (partyOf h.parties id)).parties ids := by
  obtain ⟨h1, h2⟩ := hd
  obtain ⟨p, hpm, hid, hst⟩ := h2 id (by simp)
  have he : partyOf h.parties id = p := by rw [← hid]; exact partyOf_mem hp.ids hpm
  rw [he]
  refine ⟨hpm, hid, hst, fails_hp hp hpm hst, (List.nodup_cons.1 h1).2, fun x hx => ?_⟩
  obtain ⟨q, hq, hqi, hqs⟩ := h2 x (by simp [hx])
  refine ⟨q, fails_mem hp hpm hq fun he => ?_, hqi, hqs⟩
  rw [hqi, hid] at he
  exact (List.nodup_cons.1 h1).1 (he ▸ hx)
theorem expireGo_hp : ∀ {ids : List Int} {h : House}, HRep h → DueP h.parties ids → HRep (expireGo ids h)
  | [], h, hp, _ => hp
  | id :: ids, h, hp, hd => by
    obtain ⟨_, _, _, h4, h5⟩ := due_step hp hd
    show HRep (expireGo ids (failsM h (partyOf h.parties id)))
    exact expireGo_hp h4 h5
theorem expireGo_same : ∀ (ids : List Int) (h : House), (expireGo ids h).rules = h.rules ∧ (expireGo ids h).now = h.now ∧ (expireGo ids h).turn = h.turn ∧ (expireGo ids h).todo = h.todo ∧ (expireGo ids h).jobs = h.jobs ∧ (expireGo ids h).cabins.length = h.cabins.length
  | [], h => ⟨rfl, rfl, rfl, rfl, rfl, rfl⟩
  | id :: ids, h => by
    have h1 := expireGo_same ids (failsM h (partyOf h.parties id))
    have h2 := fails_same (h := h) (p := partyOf h.parties id)
    unfold expireGo
    obtain ⟨a1, a2, a3, a4, a5, a6⟩ := h1
    obtain ⟨b1, b2, b3, b4, b5, b6⟩ := h2
    exact ⟨a1.trans b1, a2.trans b2, a3.trans b3, a4.trans b4, a5.trans b5, a6.trans b6⟩
theorem hasCab_rep {h : House} {cabin : Int} (hb : hasCab h cabin = true) : HRep h ∧ 0 ≤ cabin ∧ cabin < (h.cabins.length : Int) := by
  refine ⟨houseP_iff.1 (hasCab_P hb), hasCab_in hb⟩
theorem hasCab_mk {h : House} {cabin : Int} (hp : HRep h) (h0 : 0 ≤ cabin) (h1 : cabin < (h.cabins.length : Int)) : hasCab h cabin = true := by
  have h2 := hp.cabs
  have h3 := (rr_of hp.rules).seats
  unfold hasCab
  rw [hp.eq]
  simp only [Bool.true_and, inB, Bool.and_eq_true, decide_eq_true_eq]
  rw [wr_of (by omega) (by omega)]
  omega
theorem expire_hp {h : House} {cabin : Int} (hb : hasCab h cabin = true) : HRep (expireM h cabin) ∧ hasCab (expireM h cabin) cabin = true := by
  obtain ⟨hp, h0, h1⟩ := hasCab_rep hb
  have h2 := expireGo_hp hp (due_start hp h0)
  have h3 := (expireGo_same (dueIds h cabin) h).2.2.2.2.2
  exact ⟨h2, hasCab_mk h2 h0 (by unfold expireM; rw [h3]; exact h1)⟩
/-! ### Offers -/
theorem nextOffer_party {h : House} {cabin : Int} (h0 : nextOffer h cabin ≠ 0) : ∃ p c, p ∈ h.parties ∧ p.id = nextOffer h cabin ∧ p.state = 1 ∧ p.cabin = cabin ∧ h.cabins[cabin.toNat]? = some c ∧ p.size ≤ c.seats.free ∧ hasCab h cabin = true := by
  have hb : hasCab h cabin = true := by
    cases hb : hasCab h cabin with
    | true => rfl
    | false => exact absurd (nextOffer_no hb) h0
  obtain ⟨hp, hc0, hc1⟩ := hasCab_rep hb
  obtain ⟨c, hc⟩ : ∃ c, h.cabins[cabin.toNat]? = some c := ⟨_, List.getElem?_eq_getElem (by omega)⟩
  have hcn : ((cabin.toNat : Nat) : Int) = cabin := by omega
  by_cases hk : firstFit c.row c.seats.free (skipGo h.now h.parties) < 0
  · exact absurd (nextOffer_neg hb hc hk) h0
  · obtain ⟨k, e, hk1, hk2, hk3, _⟩ := idxF_at c.row 0 (by unfold firstFit at hk; exact Int.not_lt.1 hk)
    have hk5 : firstFit c.row c.seats.free (skipGo h.now h.parties) = (k : Int) := by unfold firstFit; rw [hk1]; simp
    have hid : nextOffer h cabin = e.id := nextOffer_at hb hc hk (by rw [hk5]; simpa using hk2)
    have hr := (hp.cab _ c hc).2.1
    obtain ⟨p, hpm, h1, h2, rfl⟩ := (hr.row e).1 (List.mem_of_getElem? hk2)
    rw [hcn] at h2
    have hst := (entryOk_st (hp.good.pok hpm)).1 h1
    rw [entryOf_ok h1] at hid hk3
    simp only [fitE, Bool.and_eq_true, decide_eq_true_eq] at hk3
    exact ⟨p, c, hpm, hid.symm, hst, h2, hc, hk3.1, hb⟩
noncomputable def nextM (h : House) (cabin : Int) : Int := match h.cabins[cabin.toNat]? with
  | some c => if firstFit c.row c.seats.free (skipGo h.now h.parties) < 0 then 0 else match c.row[(firstFit c.row c.seats.free (skipGo h.now h.parties)).toNat]? with
    | some e => e.id
    | none => 0
  | none => 0
theorem nextM_eq {h : House} {cabin : Int} (hb : hasCab h cabin = true) : nextOffer h cabin = nextM h cabin := by
  unfold nextOffer nextM
  rw [if_pos hb]
  rfl
noncomputable def offeredM (h : House) (cabin : Int) : House := offerM h (partyOf h.parties (nextOffer h cabin))
noncomputable def offer (h : House) (cabin : Int) : House := if nextOffer h cabin = 0 then h else offeredM h cabin
theorem offerM_same {h : House} {p : Party} : (offerM h p).rules = h.rules ∧ (offerM h p).now = h.now ∧ (offerM h p).turn = h.turn ∧ (offerM h p).todo = h.todo ∧ (offerM h p).jobs = h.jobs ∧ (offerM h p).cabins.length = h.cabins.length :=
  ⟨rfl, rfl, rfl, rfl, rfl, modC_len _ _ _⟩
theorem next_party {h : House} {cabin : Int} (h0 : nextOffer h cabin ≠ 0) : partyOf h.parties (nextOffer h cabin) ∈ h.parties ∧ (partyOf h.parties (nextOffer h cabin)).id = nextOffer h cabin ∧ (partyOf h.parties (nextOffer h cabin)).state = 1 ∧ (partyOf h.parties (nextOffer h cabin)).cabin = cabin ∧ hasCab h cabin = true := by
  obtain ⟨p, c, hm, hid, hst, hcab, hc, hfit, hb⟩ := nextOffer_party h0
  have hp := (hasCab_rep hb).1
  have he : partyOf h.parties (nextOffer h cabin) = p := by rw [← hid]; exact partyOf_mem hp.ids hm
  rw [he]
  exact ⟨hm, hid, hst, hcab, hb⟩
theorem offered_hp {h : House} {cabin : Int} (h0 : nextOffer h cabin ≠ 0) : HRep (offeredM h cabin) ∧ hasCab (offeredM h cabin) cabin = true := by
  obtain ⟨p, c, hm, hid, hst, hcab, hc, hfit, hb⟩ := nextOffer_party h0
  obtain ⟨hp, hc0, hc1⟩ := hasCab_rep hb
  have he : partyOf h.parties (nextOffer h cabin) = p := by rw [← hid]; exact partyOf_mem hp.ids hm
  unfold offeredM
  rw [he]
  have h2 := offer_hp hp hm hst (by rw [hcab]; exact hc) hfit
  exact ⟨h2, hasCab_mk h2 hc0 (by rw [offerM_same.2.2.2.2.2]; exact hc1)⟩
/-- how many wait -/
def waits (l : List Party) : Nat := (l.filter fun p => p.state == 1).length
theorem waits_perm {a b : List Party} (h : a.Perm b) : waits a = waits b := (h.filter _).length_eq
theorem waits_cons (p : Party) (l : List Party) : waits (p :: l) = (if p.state = 1 then 1 else 0) + waits l := by
  unfold waits
  rw [List.filter_cons]
  by_cases h : p.state = 1
  · rw [if_pos (by simpa using h), if_pos h, List.length_cons]; omega
  · rw [if_neg (by simpa using h), if_neg h]; omega
theorem waits_le (l : List Party) : waits l ≤ l.length := List.length_filter_le _ _
theorem offered_waits {h : House} {cabin : Int} (h0 : nextOffer h cabin ≠ 0) : waits (offeredM h cabin).parties + 1 = waits h.parties := by
  obtain ⟨p, c, hm, hid, hst, hcab, hc, hfit, hb⟩ := nextOffer_party h0
  have hp := (hasCab_rep hb).1
  have he : partyOf h.parties (nextOffer h cabin) = p := by rw [← hid]; exact partyOf_mem hp.ids hm
  unfold offeredM
  rw [he]
  have h1 : (offerM h p).parties = partyPut h.parties (offeredP h.rules p h.now) := rfl
  have hq : (offeredP h.rules p h.now).state = 2 := rfl
  rw [h1, waits_perm (partyPut_perm (q := offeredP h.rules p h.now) hp.ids hm rfl), waits_perm (partyCut_perm hp.ids hm), waits_cons, waits_cons, hst, hq]
  simp; omega
/-! ### Scans -/
noncomputable def scanGo : Nat → House → Int → House × List Int
  | 0, h, _ => (h, [])
  | n + 1, h, cabin => if nextOffer h cabin = 0 then (h, []) else ((scanGo n (offeredM h cabin) cabin).1, nextOffer h cabin :: (scanGo n (offeredM h cabin) cabin).2)
noncomputable def scanM (h : House) (cabin : Int) : House × List Int := scanGo (waits h.parties) h cabin
theorem scanM_end {h : House} {cabin : Int} (h0 : nextOffer h cabin = 0) : scanM h cabin = (h, []) := by
  unfold scanM
  cases waits h.parties with
  | zero => rfl
  | succ n => unfold scanGo; rw [if_pos h0]
theorem scanM_step {h : House} {cabin : Int} (h0 : nextOffer h cabin ≠ 0) : scanM h cabin = ((scanM (offeredM h cabin) cabin).1, nextOffer h cabin :: (scanM (offeredM h cabin) cabin).2) := by
  have := offered_waits h0
  unfold scanM
  rw [← this]
  show scanGo (_ + 1) h cabin = _
  rw [scanGo, if_neg h0]
noncomputable def scan (h : House) (cabin : Int) : House × List Int := if hasCab h cabin then scanM (expireM h cabin) cabin else (h, [])
theorem scanGo_hp : ∀ (n : Nat) (h : House) (cabin : Int), HRep h → HRep (scanGo n h cabin).1 ∧ (scanGo n h cabin).1.cabins.length = h.cabins.length ∧ (scanGo n h cabin).1.rules = h.rules ∧ (scanGo n h cabin).1.now = h.now ∧ (scanGo n h cabin).1.todo = h.todo ∧ (scanGo n h cabin).1.jobs = h.jobs
  | 0, h, cabin, hp => ⟨hp, rfl, rfl, rfl, rfl, rfl⟩
  | n + 1, h, cabin, hp => by
    unfold scanGo
    split
    · exact ⟨hp, rfl, rfl, rfl, rfl, rfl⟩
    · rename_i h0
      obtain ⟨a1, a2, a3, a4, a5, a6⟩ := scanGo_hp n (offeredM h cabin) cabin (offered_hp h0).1
      obtain ⟨b1, b2, b3, b4, b5, b6⟩ := offerM_same (h := h) (p := partyOf h.parties (nextOffer h cabin))
      exact ⟨a1, a2.trans b6, a3.trans b1, a4.trans b2, a5.trans b4, a6.trans b5⟩
/-! ### The work list -/
theorem HRep.todo {h : House} (hp : HRep h) {k : Int} (h0 : 0 ≤ k) (h1 : k < (h.cabins.length : Int)) : HRep (withTodo h (todoPut h.todo k)) := by
  refine hp.jobs' rfl rfl rfl rfl rfl ?_
  have hj := JobsP.iff.1 hp.jobs
  have h2 := hp.cabs
  have h3 := (rr_of hp.rules).seats
  have hin : inB k 0 (wr ((h.cabins.length : Int) - 1)) = true := by
    rw [wr_of (by omega) (by omega)]
    simp only [inB, Bool.and_eq_true, decide_eq_true_eq]; omega
  refine JobsP.iff.2 ⟨fun x hx => ?_, ?_, hj.2.2.1, hj.2.2.2⟩
  · unfold withTodo todoPut at hx
    dsimp only at hx
    split at hx
    · exact hj.1 x hx
    · rcases List.mem_append.1 hx with hx | hx
      · exact hj.1 x hx
      · rw [List.mem_singleton.1 hx]; exact hin
  · unfold withTodo todoPut
    dsimp only
    split
    · exact hj.2.1
    · rename_i hn
      refine List.nodup_append.2 ⟨hj.2.1, by simp, fun a ha b hb he => hn ?_⟩
      rw [List.mem_singleton.1 hb] at he
      exact List.any_eq_true.2 ⟨a, ha, by simpa using he⟩
theorem free_hp {h : House} {cabin n : Int} {c : Cabin} (hp : HRep h) (h0 : 0 ≤ cabin) (hc : h.cabins[cabin.toNat]? = some c) (hn : 0 ≤ n ∧ n ≤ 60) (hl : n ≤ c.seats.sold - c.seats.tied) : HRep (freeM h cabin n) := by
  have hlt := (List.getElem?_eq_some_iff.1 hc).1
  have h1 : HRep ⟨h.rules, h.now, h.turn, h.parties, modC h.cabins cabin (seatsC (lFree · n)), h.todo, h.jobs⟩ := by
    refine hp.ledger rfl rfl rfl rfl (modC_len _ _ _) rfl rfl fun k d d' hd hd' hl' => ?_
    dsimp only at hd'
    rw [modC_at h0 hd] at hd'
    injection hd' with hd'
    subst hd'
    split
    · rename_i hk
      have hkn : cabin.toNat = k := by omega
      rw [hkn, hd] at hc
      injection hc with hc
      subst hc
      obtain ⟨e1, e2⟩ := hl'.free' hn hl
      unfold seatsC
      dsimp only
      rw [e1]
      exact ⟨rfl, rfl, e2, rfl, rfl, rfl⟩
    · exact ⟨rfl, rfl, hl', rfl, rfl, rfl⟩
  exact h1.todo h0 (by dsimp only; rw [modC_len]; omega)
/-! ### For the walks -/
theorem failed_cab {r : Rules} {p : Party} {now : Int} {m : Party × Bool} (h : m.1 = failedX r p now ∧ m.2 = failedB r p now) (hb : m.2 = true) : m.1.cabin = p.cabin := by
  rw [h.1, failedX, if_pos (h.2.symm.trans hb)]; rfl
theorem fails_no {h m x : House} {p : Party} {q : Party × Bool} (hm : m = dropM h p) (hq : q.1 = failedX m.rules p m.now ∧ q.2 = failedB m.rules p m.now) (hb : q.2 = false) (hx : x = goneM m p) : x = failsM h p := by
  subst hm
  have h1 : failedB h.rules p h.now = false := hq.2.symm.trans hb
  rw [hx, failsM, if_neg (by simp [h1])]
theorem fails_yes {h m x : House} {p : Party} {q : Party × Bool} (hm : m = dropM h p) (hq : q.1 = failedX m.rules p m.now ∧ q.2 = failedB m.rules p m.now) (hb : q.2 = true) (hx : x = rowM' ⟨m.rules, m.now, m.turn, partyPut m.parties q.1, m.cabins, m.todo, m.jobs⟩ q.1) : x = failsM h p := by
  subst hm
  have h1 : failedB h.rules p h.now = true := hq.2.symm.trans hb
  have h2 : q.1 = failedP h.rules p h.now := by rw [hq.1, failedX, if_pos (hq.2.symm.trans hb)]; rfl
  rw [hx, h2, failsM, if_pos h1, rowM']
  unfold dropM
  dsimp only
  have h3 : (failedP h.rules p h.now).cabin = p.cabin := rfl
  rw [h3, modC_modC]
theorem due_at {h : House} {id : Int} {ids : List Int} (hp : HRep h) (hd : DueP h.parties (id :: ids)) : ¬ atId h.parties id < 0 := by
  obtain ⟨p, hpm, hid, hst⟩ := hd.2 id (by simp)
  obtain ⟨k, h1, _⟩ := atId_of hp.ids hpm
  rw [← hid]; omega
theorem due_next {h m : House} {id : Int} {ids : List Int} {x : Party} (hp : HRep h) (hd : DueP h.parties (id :: ids)) (hx : h.parties[(atId h.parties id).toNat]? = some x) (hm : m = failsM h x) : HRep m ∧ DueP m.parties ids ∧ expireGo ids m = expireGo (id :: ids) h := by
  obtain ⟨h1, h2, h3, h4, h5⟩ := due_step hp hd
  have he : partyOf h.parties id = x := partyOf_of hx
  subst hm
  rw [← he]
  exact ⟨h4, h5, rfl⟩
theorem due_state {h : House} {id : Int} {ids : List Int} {x : Party} (hp : HRep h) (hd : DueP h.parties (id :: ids)) (hx : h.parties[(atId h.parties id).toNat]? = some x) : x.state = 2 := by
  have := (due_step hp hd).2.2.1
  rw [partyOf_of hx] at this; exact this
/-! ### Sizes -/
theorem modC_sz {cs : List Cabin} {k : Int} {f : Cabin → Cabin} (h : ∀ c ∈ cs, CabinSz c) (hf : ∀ c, CabinSz c → CabinSz (f c)) : ∀ c ∈ modC cs k f, CabinSz c := by
  unfold modC
  split
  · rename_i c hc
    exact mem_set_of h (hf c (h c (List.mem_of_getElem? hc)))
  · exact h
theorem drop_keep {h m : House} {p : Party} (hm : m = dropM h p) (hs : HouseSz h) : HouseSz m ∧ m.cabins.length = h.cabins.length ∧ m.rules = h.rules ∧ m.now = h.now ∧ m.parties.length = h.parties.length ∧ m.todo = h.todo ∧ m.jobs = h.jobs := by
  subst hm
  obtain ⟨s1, s2, s3, s4, s5, s6⟩ := hs
  refine ⟨⟨s1, s2, by unfold dropM; dsimp only; rw [modC_len]; exact s3, s4, s5, ?_⟩, modC_len _ _ _, rfl, rfl, rfl, rfl, rfl⟩
  refine modC_sz s6 fun c hc => ?_
  have := wheelCut_len c.wheel ⟨p.until', p.id⟩
  exact ⟨hc.1, by show (wheelCut _ _).spoke.length ≤ _; rw [this.1]; exact hc.2.1, by show (wheelCut _ _).spoke.flatten.length ≤ _; exact Nat.le_trans this.2 hc.2.2⟩
theorem put_sz {h : House} {l : List Party} (hs : HouseSz h) (hl : l.length ≤ 1048576) : HouseSz ⟨h.rules, h.now, h.turn, l, h.cabins, h.todo, h.jobs⟩ := ⟨hs.1, hl, hs.2.2⟩
theorem HRep.sz {h : House} (hp : HRep h) : HouseSz h := by
  have h1 := (rr_of hp.rules).seats; have h2 := hp.cabs; have h3 := hp.len
  have hc := rulesOk_len hp.rules
  have h4 := hp.jobs.2.2
  have h5 := todo_le (houseP_iff.2 hp)
  refine ⟨by omega, by omega, by omega, by omega, by omega, fun c hcm => ?_⟩
  obtain ⟨k, hk⟩ := List.mem_iff_getElem?.1 hcm
  have hr := (hp.cab k c hk).2.1
  have hq := (agrees_row (houseP_iff.2 hp) hk).1
  have hw := hr.wh
  exact ⟨by have := hq.1; omega, by have := hw.1; omega, by have := hw.2.1; omega⟩
end SX
end Go.Proofs.YtejojcoaohlfbaaGreat
/- The cells of a house, by a name. It imports no program. -/
namespace Go.Proofs.YtejojcoaohlfbaaGreat
namespace SX
open Go Go.RowKit
@[reducible] def hC (x : House) (a1 : Option Addr) (c1 : Nat) (a2 : Option Addr) (c2 : Nat) (a3 : Option Addr) (c3 : Nat) (a4 : Option Addr) (c4 : Nat) (a5 : Option Addr) (c5 : Nat) : List Value :=
  [.slice a1 x.rules.seats.length c1, vi x.rules.tiers, vi x.rules.room, vi x.rules.size, vi x.rules.period, vi x.rules.window, vi x.rules.rest, vi x.rules.tries, vi x.rules.crew, vi x.now, vi x.turn, .slice a2 x.parties.length c2, .slice a3 x.cabins.length c3, .slice a4 x.todo.length c4, .slice a5 x.jobs.length c5]
@[reducible] def hZ : List Value :=
  [.slice none 0 0, vi 0, vi 0, vi 0, vi 0, vi 0, vi 0, vi 0, vi 0, vi 0, vi 0, .slice none 0 0, .slice none 0 0, .slice none 0 0, .slice none 0 0]
@[reducible] def hD (x : House) (a1 : Option Addr) (n1 c1 : Nat) (a2 : Option Addr) (n2 c2 : Nat) (a3 : Option Addr) (n3 c3 : Nat) (a4 : Option Addr) (n4 c4 : Nat) (a5 : Option Addr) (n5 c5 : Nat) : List Value :=
  [.slice a1 n1 c1, vi x.rules.tiers, vi x.rules.room, vi x.rules.size, vi x.rules.period, vi x.rules.window, vi x.rules.rest, vi x.rules.tries, vi x.rules.crew, vi x.now, vi x.turn, .slice a2 n2 c2, .slice a3 n3 c3, .slice a4 n4 c4, .slice a5 n5 c5]
/-- the rows that a house owns; the result that is a house -/
@[reducible] def hO (e1 e2 e3 e4 e5 e6 : TypeId) (x : House) (a1 : Option Addr) (n1 c1 : Nat) (a2 : Option Addr) (n2 c2 : Nat) (a3 : Option Addr) (n3 c3 : Nat) (a4 : Option Addr) (n4 c4 : Nat) (a5 : Option Addr) (n5 c5 : Nat) : List Ass :=
  [slA e1 intL (.slice a1 n1 c1) x.rules.seats, slA e2 partyL (.slice a2 n2 c2) x.parties, slA e3 (cabinLx e4 e5 e6) (.slice a3 n3 c3) x.cabins, slA e1 intL (.slice a4 n4 c4) x.todo, slA e1 intL (.slice a5 n5 c5) x.jobs]
@[reducible] def hR (e1 e2 e3 e4 e5 e6 : TypeId) (p : House → Prop) : Res :=
  ⟨{q : (HH × HH × HH × HH × HH) × House // p q.2}, fun q => .agg (hC q.1.2 q.1.1.1.1 q.1.1.1.2 q.1.1.2.1.1 q.1.1.2.1.2 q.1.1.2.2.1.1 q.1.1.2.2.1.2 q.1.1.2.2.2.1.1 q.1.1.2.2.2.1.2 q.1.1.2.2.2.2.1 q.1.1.2.2.2.2.2).toArray,
    fun q => hO e1 e2 e3 e4 e5 e6 q.1.2 q.1.1.1.1 q.1.2.rules.seats.length q.1.1.1.2 q.1.1.2.1.1 q.1.2.parties.length q.1.1.2.1.2 q.1.1.2.2.1.1 q.1.2.cabins.length q.1.1.2.2.1.2 q.1.1.2.2.2.1.1 q.1.2.todo.length q.1.1.2.2.2.1.2 q.1.1.2.2.2.2.1 q.1.2.jobs.length q.1.1.2.2.2.2.2⟩
end SX
end Go.Proofs.YtejojcoaohlfbaaGreat
/- What requests do to a house, in plain Lean: they keep it right. It imports no program. -/
namespace Go.Proofs.YtejojcoaohlfbaaGreat
namespace SX
set_option linter.unusedVariables false
set_option linter.unusedSimpArgs false
open Go Go.RowKit
/-! ### Verdicts -/
def looseAt (h : House) (k : Int) : Int := match h.cabins[k.toNat]? with
  | some c => wr (c.seats.sold - c.seats.tied)
  | none => 0
def jobAt (h : House) (k : Int) : Int := match h.jobs[k.toNat]? with
  | some j => j
  | none => 0
def dueB (p : Party) (now : Int) : Bool := p.state == 2 && decide (p.until' ≤ now)
def vJoin (h : House) (q : Req) : Int :=
  if q.cabin ≥ (h.cabins.length : Int) ∨ q.from' ≥ (h.cabins.length : Int) ∨ q.from' = q.cabin then 4
  else if inB q.size 1 h.rules.size = false then 5
  else if q.tier ≥ h.rules.tiers then 6
  else if inB q.id 1 999 = false then 7
  else if atId h.parties q.id ≥ 0 then 8
  else if countGo h.parties q.cabin 0 ≥ h.rules.room then 9
  else if q.from' ≥ 0 ∧ looseAt h q.from' < q.size then 10
  else if h.turn > 1000000 then 11 else 0
def vAns (h : House) (id : Int) : Int :=
  if atId h.parties id < 0 then 7 else if (partyOf h.parties id).state ≠ 2 then 13 else if dueB (partyOf h.parties id) h.now = true then 14 else 0
def vFree (h : House) (q : Req) : Int :=
  if q.cabin ≥ (h.cabins.length : Int) then 4 else if inB q.size 1 60 = false then 5 else if looseAt h q.cabin < q.size then 12 else 0
def vPick (h : House) (q : Req) : Int :=
  if q.id ≥ h.rules.crew then 16 else if jobAt h q.id < 0 ∧ h.todo.length = 0 then 17 else 0
def vKind (h : House) (q : Req) : Int :=
  if q.kind = 1 then vJoin h q
  else if q.kind = 2 then (if atId h.parties q.id < 0 then 7 else 0)
  else if q.kind = 3 then vFree h q
  else if q.kind = 4 ∨ q.kind = 5 then vAns h q.id
  else if q.kind = 6 then (if h.now ≥ 1000000 then 15 else 0)
  else vPick h q
noncomputable def verdict (h : House) (q : Req) : Int :=
  if houseOk h = false then 1 else if inB q.kind 1 7 = false then 2 else if reqOk q = false then 3 else vKind h q
/-! ### Requests -/
def joinP (h : House) (q : Req) : Party := ⟨q.id, q.cabin, q.from', q.size, q.tier, h.now, h.turn, 1, 0, 0⟩
def joinM (h : House) (q : Req) : House :=
  ⟨h.rules, h.now, wr (h.turn + 1), partyPut h.parties (joinP h q),
    if q.from' < 0 then modC h.cabins q.cabin (rowPut (entryOf h.rules (joinP h q) h.now)) else modC (modC h.cabins q.cabin (rowPut (entryOf h.rules (joinP h q) h.now))) q.from' (seatsC (lTie · q.size)),
    todoPut h.todo q.cabin, h.jobs⟩
noncomputable def declineM (h : House) (p : Party) : House := withTodo (failsM h p) (todoPut (failsM h p).todo p.cabin)
def tickC (h : House) (k : Nat) : Nat → List Cabin → List Cabin
  | _, [] => []
  | i, c :: cs => (if i < k then ⟨c.seats, queueOf h.rules h.parties i (wr (h.now + 1)), c.wheel⟩ else c) :: tickC h k (i + 1) cs
def tickT (ps : List Party) : Nat → List Int → List Int
  | 0, l => l
  | k + 1, l => if countGo ps k 0 > 0 then todoPut (tickT ps k l) k else tickT ps k l
def tickK (h : House) (k : Nat) : House := ⟨h.rules, wr (h.now + 1), h.turn, h.parties, tickC h k 0 h.cabins, tickT h.parties k h.todo, h.jobs⟩
def tickM (h : House) : House := tickK h h.cabins.length
def withJobs (h : House) (l m : List Int) : House := ⟨h.rules, h.now, h.turn, h.parties, h.cabins, l, m⟩
noncomputable def pickM (h : House) (who : Int) : House × List Int :=
  if jobAt h who < 0 then (withJobs h h.todo.tail (h.jobs.set who.toNat (h.todo.headD 0)), [])
  else (withJobs (scan h (jobAt h who)).1 (scan h (jobAt h who)).1.todo ((scan h (jobAt h who)).1.jobs.set who.toNat (-1)), (scan h (jobAt h who)).2)
/-- a request that is done -/
noncomputable def doneM (h : House) (q : Req) : House :=
  if q.kind = 1 then joinM h q
  else if q.kind = 2 then cancelM h (partyOf h.parties q.id)
  else if q.kind = 3 then freeM h q.cabin q.size
  else if q.kind = 4 then acceptM h (partyOf h.parties q.id)
  else if q.kind = 5 then declineM h (partyOf h.parties q.id)
  else if q.kind = 6 then tickM h
  else (pickM h q.id).1
noncomputable def doM (h : House) (q : Req) : House := if verdict h q = 0 then doneM h q else h
noncomputable def idsM (h : House) (q : Req) : List Int := if verdict h q = 0 ∧ q.kind = 7 then (pickM h q.id).2 else []
/-! ### What a verdict says -/
theorem reqOk_form {q : Req} (h : reqOk q = true) : (1 ≤ q.kind ∧ q.kind ≤ 7) ∧ (0 ≤ q.id ∧ q.id ≤ 9999) ∧ (0 ≤ q.cabin ∧ q.cabin ≤ 9999) ∧ (-1 ≤ q.from' ∧ q.from' ≤ 9999) ∧ (0 ≤ q.size ∧ q.size ≤ 9999) ∧ (0 ≤ q.tier ∧ q.tier ≤ 9999) := by
  unfold reqOk at h
  split at h
  · rename_i hk; simp [usedB, inB] at h hk; omega
  · split at h
    · rename_i hk; simp [usedB, inB, reqEq] at h hk; omega
    · split at h
      · rename_i hk; simp [usedB, inB, reqEq] at h hk; omega
      · split at h
        · rename_i hk; simp [usedB, inB, reqEq] at h hk; omega
        · cases h
structure VOk (h : House) (q : Req) : Prop where
  hp : HRep h
  ok : reqOk q = true
  kind : 1 ≤ q.kind ∧ q.kind ≤ 7
  v : vKind h q = 0
theorem verdict_ok {h : House} {q : Req} (h0 : verdict h q = 0) : VOk h q := by
  unfold verdict at h0
  split at h0
  · omega
  · rename_i h1
    split at h0
    · omega
    · rename_i h2
      split at h0
      · omega
      · rename_i h3
        simp only [Bool.not_eq_false, inB, Bool.and_eq_true, decide_eq_true_eq] at h1 h2 h3
        exact ⟨hp_of h1, h3, h2, h0⟩
theorem VOk.eq {h : House} {q : Req} (v : VOk h q) : verdict h q = 0 := by
  have h2 : inB q.kind 1 7 = true := by simp only [inB, Bool.and_eq_true, decide_eq_true_eq]; exact v.kind
  simp [verdict, v.hp.eq, h2, v.ok, v.v]
/-! ### They keep a house right -/
theorem goneSold_hp {h : House} {p : Party} (hp : HRep h) (hm : p ∈ h.parties) (hs : p.state = 2) : HRep (goneM (soldM h p) p) := by
  have g := hp.pr hm
  have gs := g.size; have gc := g.cab; have gf := g.frm; have gn := g.ne
  refine hp.gone hm rfl rfl rfl rfl ?_ rfl rfl fun k c c' hc hc' hl hh ht => ?_
  · unfold goneM soldM
    dsimp only
    split <;> simp only [modC_len]
  · have h1 : (modC h.cabins p.cabin (sellC p))[k]? = some (if p.cabin = (k : Int) then sellC p c else c) := modC_at gc.1 hc
    have h2 : c' = if p.from' = (k : Int) then seatsC (lUntie · p.size) (if p.cabin = (k : Int) then sellC p c else c) else (if p.cabin = (k : Int) then sellC p c else c) := by
      unfold goneM soldM at hc'
      dsimp only at hc'
      split at hc'
      · rename_i hneg
        rw [if_neg (by omega)]
        rw [h1] at hc'; injection hc' with hc'; exact hc'.symm
      · rw [modC_at (by omega) h1] at hc'; injection hc' with hc'; exact hc'.symm
    rw [h2]
    by_cases hk : p.cabin = (k : Int)
    · have hf : ¬ p.from' = (k : Int) := by omega
      rw [if_pos hk, if_neg hf, if_neg (by omega), if_pos ⟨hs, hk⟩, heldW_yes ⟨hs, hk⟩, tiedW_no hf]
      rw [heldW_yes ⟨hs, hk⟩] at hh
      obtain ⟨e1, e2⟩ := hl.sell (n := p.size) (by omega) hh
      unfold sellC
      dsimp only
      rw [e1]
      exact ⟨rfl, rfl, e2, rfl, rfl, by dsimp only; omega⟩
    · rw [if_neg hk, if_neg (c := p.state = 1 ∧ p.cabin = (k : Int)) (fun w => hk w.2), if_neg (c := p.state = 2 ∧ p.cabin = (k : Int)) (fun w => hk w.2), heldW_no fun w => hk w.2]
      by_cases hf : p.from' = (k : Int)
      · rw [if_pos hf, tiedW_yes hf]
        rw [tiedW_yes hf] at ht
        obtain ⟨e1, e2⟩ := hl.untie (n := p.size) (by omega) ht
        unfold seatsC
        dsimp only
        rw [e1]
        exact ⟨rfl, rfl, e2, rfl, by dsimp only; omega, rfl⟩
      · rw [if_neg hf, tiedW_no hf]
        exact ⟨rfl, rfl, hl, rfl, by omega, by omega⟩
/-- the cabin from which a party comes, when it has gone: there is room to free its seats -/
theorem gone_from {h : House} {p : Party} (hp : HRep h) (hm : p ∈ h.parties) (hf : ¬ p.from' < 0) : ∃ c, (goneM (soldM h p) p).cabins[p.from'.toNat]? = some c ∧ p.size ≤ c.seats.sold - c.seats.tied := by
  have g := hp.pr hm
  have gs := g.size; have gc := g.cab; have gf := g.frm; have gn := g.ne; have hl := hp.cabs
  obtain ⟨c, hc⟩ : ∃ c, h.cabins[p.from'.toNat]? = some c := ⟨_, List.getElem?_eq_getElem (by omega)⟩
  have hr := (hp.cab _ c hc).2.1
  have hlp := ledgerOk_iff.1 hr.led
  have hge := held_ge (k := ((p.from'.toNat : Nat) : Int)) hp.good (partyCut_perm hp.good.ids hm)
  rw [← hr.held, ← hr.tied, tiedW_yes (by omega)] at hge
  have h1 : (modC h.cabins p.cabin (sellC p))[p.from'.toNat]? = some c := by
    rw [modC_at gc.1 hc, if_neg (by omega)]
  refine ⟨seatsC (lUntie · p.size) c, ?_, ?_⟩
  · unfold goneM soldM
    dsimp only
    rw [if_neg hf, modC_at (by omega) h1, if_pos (by omega)]
  · obtain ⟨e1, e2⟩ := hlp.untie (n := p.size) (by omega) hge.2
    unfold seatsC
    dsimp only
    rw [e1]
    have := hlp.tied
    dsimp only; omega
theorem accept_hp {h : House} {p : Party} (hp : HRep h) (hm : p ∈ h.parties) (hs : p.state = 2) : HRep (acceptM h p) := by
  unfold acceptM
  split
  · exact goneSold_hp hp hm hs
  · rename_i hf
    have g := hp.pr hm
    have gs := g.size
    obtain ⟨c, h1, h2⟩ := gone_from hp hm hf
    exact free_hp (goneSold_hp hp hm hs) (by omega) h1 (by omega) h2
theorem goneCut_hp {h : House} {p : Party} (hp : HRep h) (hm : p ∈ h.parties) (hs : p.state = 1) : HRep (goneM ⟨h.rules, h.now, h.turn, h.parties, modC h.cabins p.cabin (rowCut p.id), h.todo, h.jobs⟩ p) := by
  have g := hp.pr hm
  have gs := g.size; have gc := g.cab; have gf := g.frm; have gn := g.ne
  refine hp.gone hm rfl rfl rfl rfl ?_ rfl rfl fun k c c' hc hc' hl hh ht => ?_
  · unfold goneM
    dsimp only
    split <;> simp only [modC_len]
  · have h1 : (modC h.cabins p.cabin (rowCut p.id))[k]? = some (if p.cabin = (k : Int) then rowCut p.id c else c) := modC_at gc.1 hc
    have h2 : c' = if p.from' = (k : Int) then seatsC (lUntie · p.size) (if p.cabin = (k : Int) then rowCut p.id c else c) else (if p.cabin = (k : Int) then rowCut p.id c else c) := by
      unfold goneM at hc'
      dsimp only at hc'
      split at hc'
      · rename_i hneg
        rw [if_neg (by omega)]
        rw [h1] at hc'; injection hc' with hc'; exact hc'.symm
      · rw [modC_at (by omega) h1] at hc'; injection hc' with hc'; exact hc'.symm
    rw [h2, heldW_no (fun w => by omega), if_neg (c := p.state = 2 ∧ p.cabin = (k : Int)) (fun w => by omega)]
    by_cases hk : p.cabin = (k : Int)
    · have hf : ¬ p.from' = (k : Int) := by omega
      rw [if_pos hk, if_neg hf, if_pos ⟨hs, hk⟩, tiedW_no hf]
      exact ⟨rfl, rfl, hl, rfl, by simp [rowCut], by simp [rowCut]⟩
    · rw [if_neg hk, if_neg (c := p.state = 1 ∧ p.cabin = (k : Int)) (fun w => hk w.2)]
      by_cases hf : p.from' = (k : Int)
      · rw [if_pos hf, tiedW_yes hf]
        rw [tiedW_yes hf] at ht
        obtain ⟨e1, e2⟩ := hl.untie (n := p.size) (by omega) ht
        unfold seatsC
        dsimp only
        rw [e1]
        exact ⟨rfl, rfl, e2, rfl, by dsimp only; omega, rfl⟩
      · rw [if_neg hf, tiedW_no hf]
        exact ⟨rfl, rfl, hl, rfl, by omega, by omega⟩
theorem cancel_hp {h : House} {p : Party} (hp : HRep h) (hm : p ∈ h.parties) : HRep (cancelM h p) := by
  have g := hp.pr hm
  have gc := g.cab; have hl := hp.cabs; have gst := g.st
  unfold cancelM
  split
  · rename_i hs
    have h1 := goneDrop_hp hp hm hs
    have h2 : goneM (withTodo (dropM h p) (todoPut h.todo p.cabin)) p = withTodo (goneM (dropM h p) p) (todoPut (goneM (dropM h p) p).todo p.cabin) := rfl
    rw [h2]
    refine h1.todo gc.1 ?_
    have : (goneM (dropM h p) p).cabins.length = h.cabins.length := by
      unfold goneM dropM
      dsimp only
      split <;> simp only [modC_len]
    omega
  · exact goneCut_hp hp hm (by omega)
theorem decline_hp {h : House} {p : Party} (hp : HRep h) (hm : p ∈ h.parties) (hs : p.state = 2) : HRep (declineM h p) := by
  have g := hp.pr hm
  have gc := g.cab; have hl := hp.cabs
  obtain ⟨_, _, _, _, _, h6⟩ := fails_same (h := h) (p := p)
  exact (fails_hp hp hm hs).todo gc.1 (by omega)
theorem looseAt_of {h : House} {k : Int} {c : Cabin} (hp : HRep h) (hc : h.cabins[k.toNat]? = some c) : looseAt h k = c.seats.sold - c.seats.tied := by
  have hlp := ledgerOk_iff.1 (hp.cab _ c hc).2.1.led
  have a1 := hlp.total; have a2 := hlp.free; have a3 := hlp.held; have a4 := hlp.sold; have a5 := hlp.sum; have a6 := hlp.tied
  simp only [looseAt, hc]
  exact wr_of (by omega) (by omega)
theorem count_cnt {h : House} (hp : HRep h) (k : Int) : countGo h.parties k 0 = (cnt h.parties k : Nat) := by
  have := hp.len
  rw [countGo_cnt k h.parties 0 (by omega) (by omega)]; omega
structure JoinV (h : House) (q : Req) : Prop where
  cab : 0 ≤ q.cabin ∧ q.cabin < (h.cabins.length : Int)
  frm : -1 ≤ q.from' ∧ q.from' < (h.cabins.length : Int)
  ne : q.from' ≠ q.cabin
  size : 1 ≤ q.size ∧ q.size ≤ h.rules.size
  tier : 0 ≤ q.tier ∧ q.tier < h.rules.tiers
  id : 1 ≤ q.id ∧ q.id ≤ 999
  no : atId h.parties q.id < 0
  full : (cnt h.parties q.cabin : Int) < h.rules.room
  tied : ∀ c, 0 ≤ q.from' → h.cabins[q.from'.toNat]? = some c → q.size ≤ c.seats.sold - c.seats.tied
  turn : h.turn ≤ 1000000
theorem joinV {h : House} {q : Req} (v : VOk h q) (hk : q.kind = 1) : JoinV h q := by
  have hv := v.v
  obtain ⟨_, r2, r3, r4, r5, r6⟩ := reqOk_form v.ok
  unfold vKind at hv
  rw [if_pos hk] at hv
  unfold vJoin at hv
  rw [count_cnt v.hp] at hv
  have hrr := rr_of v.hp.rules
  simp only [inB, Bool.and_eq_false_iff, decide_eq_false_iff_not] at hv
  repeat' (split at hv; omega)
  rename_i h1 h2 h3 h4 h5 h6 h7 h8
  refine ⟨by omega, by omega, by omega, by omega, by omega, by omega, by omega, by omega, fun c h0 hc => ?_, by omega⟩
  rw [← looseAt_of v.hp hc]
  omega
theorem join_hp {h : House} {q : Req} (hp : HRep h) (v : JoinV h q) : HRep (joinM h q) := by
  have hrr := rr_of hp.rules
  have hcb := hp.cabs; have hn := hp.now; have ht := hp.turn
  have v1 := v.cab; have v2 := v.frm; have v3 := v.ne; have v4 := v.size; have v5 := v.tier; have v6 := v.id; have v7 := v.full; have v8 := v.turn
  have r1 := hrr.size; have r2 := hrr.tries; have r3 := hrr.rest
  have e0 : wr (h.turn + 1) = h.turn + 1 := wr_of (by omega) (by omega)
  have hq : PR h.rules h.now (joinP h q) := ⟨by dsimp only [joinP]; omega, by dsimp only [joinP]; omega, by dsimp only [joinP]; omega, by dsimp only [joinP]; omega, by dsimp only [joinP]; omega, by dsimp only [joinP]; omega, by dsimp only [joinP]; omega, by dsimp only [joinP]; omega, by dsimp only [joinP]; omega, by dsimp only [joinP]; omega, .inl (by dsimp only [joinP]; omega)⟩
  have hlen : (partyPut h.parties (joinP h q)).length ≤ 40 := by
    have h1 := cnt_all h.rules.room.toNat h.rules.seats.length (partyPut h.parties (joinP h q)) (fun p hpm => by
      rw [partyPut_new v.no, insL_iff] at hpm
      rcases hpm with rfl | hpm
      · exact ⟨v1.1, by dsimp only [joinP]; omega⟩
      · exact (hp.pr hpm).cab) (fun k hk => by
      obtain ⟨c, hck⟩ : ∃ c, h.cabins[k]? = some c := ⟨_, List.getElem?_eq_getElem (by omega)⟩
      have h9 := (hp.cab k c hck).2.2
      rw [partyPut_new v.no, cnt_perm (insL_perm _ _), cnt_cons]
      split
      · rename_i he
        have : (joinP h q).cabin = q.cabin := rfl
        rw [← he, this] at h9 ⊢
        omega
      · omega)
    have r4 := hrr.room; have r5 := hrr.seats
    have : h.rules.room.toNat * h.rules.seats.length ≤ 10 * 4 := Nat.mul_le_mul (by omega) (by omega)
    omega
  have h1 : HRep ⟨h.rules, h.now, wr (h.turn + 1), partyPut h.parties (joinP h q),
      if q.from' < 0 then modC h.cabins q.cabin (rowPut (entryOf h.rules (joinP h q) h.now)) else modC (modC h.cabins q.cabin (rowPut (entryOf h.rules (joinP h q) h.now))) q.from' (seatsC (lTie · q.size)), h.todo, h.jobs⟩ := by
    refine hp.join (q := joinP h q) hq v.no rfl rfl rfl v.full rfl rfl e0 rfl (by dsimp only; split <;> simp only [modC_len]) rfl rfl hlen fun k c c' hc hc' hl => ?_
    dsimp only at hc'
    have g1 : (modC h.cabins q.cabin (rowPut (entryOf h.rules (joinP h q) h.now)))[k]? = some (if q.cabin = (k : Int) then rowPut (entryOf h.rules (joinP h q) h.now) c else c) := modC_at v1.1 hc
    have g2 : c' = if q.from' = (k : Int) then seatsC (lTie · q.size) (if q.cabin = (k : Int) then rowPut (entryOf h.rules (joinP h q) h.now) c else c) else (if q.cabin = (k : Int) then rowPut (entryOf h.rules (joinP h q) h.now) c else c) := by
      split at hc'
      · rename_i hneg
        rw [if_neg (by omega)]
        rw [g1] at hc'; injection hc' with hc'; exact hc'.symm
      · rw [modC_at (by omega) g1] at hc'; injection hc' with hc'; exact hc'.symm
    have k1 : (joinP h q).cabin = q.cabin := rfl
    have k2 : (joinP h q).from' = q.from' := rfl
    have k3 : (joinP h q).size = q.size := rfl
    rw [g2, k1]
    by_cases hk : q.cabin = (k : Int)
    · rw [if_pos hk, if_neg (by omega), if_pos hk, tiedW_no (by rw [k2]; omega)]
      exact ⟨rfl, rfl, hl, rfl, rfl, by simp [rowPut]⟩
    · rw [if_neg hk, if_neg hk]
      by_cases hf : q.from' = (k : Int)
      · rw [if_pos hf, tiedW_yes (by rw [k2]; exact hf), k3]
        have ht := v.tied c (by omega) (by rw [hf]; simpa using hc)
        obtain ⟨e1, e2⟩ := hl.tie (n := q.size) (by omega) ht
        unfold seatsC
        dsimp only
        rw [e1]
        exact ⟨rfl, rfl, e2, rfl, rfl, rfl⟩
      · rw [if_neg hf, tiedW_no (by rw [k2]; exact hf)]
        exact ⟨rfl, rfl, hl, rfl, rfl, by omega⟩
  refine h1.todo v1.1 ?_
  dsimp only
  split <;> simp only [modC_len] <;> omega
/-! ### Ticks -/
theorem tickC_len (h : House) (k : Nat) : ∀ (l : List Cabin) (i : Nat), (tickC h k i l).length = l.length
  | [], _ => rfl
  | c :: cs, i => by simp [tickC, tickC_len h k cs]
theorem tickC_at (h : House) (k : Nat) : ∀ (l : List Cabin) (i j : Nat) (c : Cabin), l[j]? = some c → (tickC h k i l)[j]? = some (if i + j < k then ⟨c.seats, queueOf h.rules h.parties ((i + j : Nat) : Int) (wr (h.now + 1)), c.wheel⟩ else c)
  | [], _, j, c, hc => by simp at hc
  | d :: cs, i, 0, c, hc => by
    simp at hc; subst hc
    simp [tickC]
  | d :: cs, i, j + 1, c, hc => by
    have := tickC_at h k cs (i + 1) j c (by simpa using hc)
    rw [show i + 1 + j = i + (j + 1) by omega] at this
    simpa [tickC] using this
theorem tickC_step (h : House) (k : Nat) : ∀ (l : List Cabin) (i : Nat), tickC h (i + k + 1) i l = modC (tickC h (i + k) i l) k (fun c => ⟨c.seats, queueOf h.rules h.parties ((i + k : Nat) : Int) (wr (h.now + 1)), c.wheel⟩) := by
  intro l i
  refine List.ext_getElem? fun j => ?_
  cases hj : l[j]? with
  | none =>
    have hle := List.getElem?_eq_none_iff.1 hj
    rw [List.getElem?_eq_none (by rw [tickC_len]; exact hle), List.getElem?_eq_none (by rw [modC_len, tickC_len]; exact hle)]
  | some c =>
    rw [tickC_at h _ l i j c hj, modC_at (by omega) (tickC_at h _ l i j c hj)]
    by_cases hjk : (k : Int) = (j : Int)
    · have : k = j := by omega
      subst this
      rw [if_pos (by omega), if_pos rfl, if_neg (by omega)]
    · rw [if_neg hjk]
      by_cases h1 : i + j < i + k
      · rw [if_pos (by omega), if_pos h1]
      · rw [if_neg (by omega), if_neg h1]
theorem tickT_ok {ps : List Party} {n : Int} : ∀ (k : Nat) {l : List Int}, (k : Int) ≤ n → (∀ x ∈ l, 0 ≤ x ∧ x < n) → l.Nodup → (∀ x ∈ tickT ps k l, 0 ≤ x ∧ x < n) ∧ (tickT ps k l).Nodup
  | 0, l, _, h1, h2 => ⟨h1, h2⟩
  | k + 1, l, hk, h1, h2 => by
    have ih := tickT_ok (ps := ps) k (l := l) (by omega) h1 h2
    unfold tickT
    split
    · unfold todoPut
      split
      · exact ih
      · rename_i hn
        refine ⟨fun x hx => ?_, List.nodup_append.2 ⟨ih.2, by simp, fun a ha b hb he => hn ?_⟩⟩
        · rcases List.mem_append.1 hx with hx | hx
          · exact ih.1 x hx
          · rw [List.mem_singleton.1 hx]; omega
        · rw [List.mem_singleton.1 hb] at he
          exact List.any_eq_true.2 ⟨a, ha, by simpa using he⟩
    · exact ih
theorem tick_hp {h : House} (hp : HRep h) (hn : h.now < 1000000) : HRep (tickM h) := by
  have hw := hp.now
  have hrr := rr_of hp.rules
  have e1 : wr (h.now + 1) = h.now + 1 := wr_of (by omega) (by omega)
  have hseat := hrr.seats; have hcb := hp.cabs
  have hpok : ∀ p ∈ h.parties, PR h.rules (h.now + 1) p := fun p hm => by
    have g := hp.pr hm
    have g1 := g.since; have g2 := g.st
    exact ⟨g.id0, g.id1, g.cab, g.frm, g.ne, g.size, g.tier, by omega, g.turn, g.asked, by omega⟩
  have hpps : PPs (tickM h) := ⟨fun p hm => ⟨partyOk_iff.2 ⟨hp.rules, by show 0 ≤ wr (h.now + 1) ∧ wr (h.now + 1) ≤ 1000000; omega, by show PR h.rules (wr (h.now + 1)) p; rw [e1]; exact hpok p hm⟩, (hp.pps.ok p hm).2⟩, hp.pps.ids, hp.pps.kk⟩
  have hj := JobsP.iff.1 hp.jobs
  have hwl : wr ((h.cabins.length : Int) - 1) = (h.cabins.length : Int) - 1 := wr_of (by omega) (by omega)
  have hlen : (tickM h).cabins.length = h.cabins.length := tickC_len _ _ _ _
  refine ⟨hp.rules, by show 0 ≤ wr (h.now + 1) ∧ wr (h.now + 1) ≤ 1000000; omega, hp.turn, hp.len, hlen.trans hp.cabs, hpps, ?_, fun k c' hc' => ?_⟩
  · have h2 := tickT_ok (ps := h.parties) (n := (h.cabins.length : Int)) h.cabins.length (l := h.todo) (by omega) (fun x hx => by
      have := hj.1 x hx
      rw [hwl] at this
      simp only [inB, Bool.and_eq_true, decide_eq_true_eq] at this; omega) hj.2.1
    refine JobsP.iff.2 ⟨fun x hx => ?_, h2.2, fun x hx => ?_, hj.2.2.2⟩
    · rw [hlen, hwl]
      have := h2.1 x hx
      simp only [inB, Bool.and_eq_true, decide_eq_true_eq]; omega
    · rw [hlen]; exact hj.2.2.1 x hx
  · have hlt : k < h.cabins.length := by have := (List.getElem?_eq_some_iff.1 hc').1; omega
    have hc := List.getElem?_eq_getElem hlt
    have h3 := tickC_at h h.cabins.length h.cabins 0 k _ hc
    rw [Nat.zero_add, if_pos hlt] at h3
    have h4 : (tickM h).cabins[k]? = some _ := h3
    rw [h4] at hc'
    injection hc' with hc'
    subst hc'
    obtain ⟨g1, g2, g3⟩ := hp.cab k _ hc
    refine ⟨g1, rep_of g2.led ?_ g2.whR g2.held g2.tied, g3⟩
    exact ⟨queueOf_ss hp.good.turns, fun e => queueOf_iff⟩
/-! ### Picks -/
theorem job_rng {h : House} (hp : HRep h) {k : Int} (h0 : 0 ≤ k) (h1 : k < h.rules.crew) : h.jobs[k.toNat]? = some (jobAt h k) ∧ -1 ≤ jobAt h k ∧ jobAt h k < (h.cabins.length : Int) := by
  have hj := JobsP.iff.1 hp.jobs
  have hs := (rr_of hp.rules).seats; have hcb := hp.cabs
  have hl := hj.2.2.2
  obtain ⟨j, hjk⟩ : ∃ j, h.jobs[k.toNat]? = some j := ⟨_, List.getElem?_eq_getElem (by omega)⟩
  have h2 := hj.2.2.1 j (List.mem_of_getElem? hjk)
  rw [wr_of (by omega) (by omega)] at h2
  simp only [inB, Bool.and_eq_true, decide_eq_true_eq] at h2
  simp only [jobAt, hjk]
  exact ⟨trivial, by omega, by omega⟩
theorem HRep.setJobs {h : House} (hp : HRep h) {l m : List Int} (hl : ∀ x ∈ l, x ∈ h.todo) (hd : l.Nodup) (hm : ∀ x ∈ m, -1 ≤ x ∧ x < (h.cabins.length : Int)) (hlen : m.length = h.jobs.length) : HRep (withJobs h l m) := by
  refine hp.jobs' rfl rfl rfl rfl rfl ?_
  have hj := JobsP.iff.1 hp.jobs
  have hs := (rr_of hp.rules).seats; have hcb := hp.cabs
  refine JobsP.iff.2 ⟨fun x hx => hj.1 x (hl x hx), hd, fun x hx => ?_, by show (m.length : Int) = _; rw [hlen]; exact hj.2.2.2⟩
  have := hm x hx
  show inB x (-1) (wr ((h.cabins.length : Int) - 1)) = true
  rw [wr_of (by omega) (by omega)]
  simp only [inB, Bool.and_eq_true, decide_eq_true_eq]; omega
theorem HRep.jobRng {h : House} (hp : HRep h) {x : Int} (hx : x ∈ h.jobs) : -1 ≤ x ∧ x < (h.cabins.length : Int) := by
  have hs := (rr_of hp.rules).seats; have hcb := hp.cabs
  have h2 := (JobsP.iff.1 hp.jobs).2.2.1 x hx
  rw [wr_of (by omega) (by omega)] at h2
  simp only [inB, Bool.and_eq_true, decide_eq_true_eq] at h2
  omega
theorem HRep.todoRng {h : House} (hp : HRep h) {x : Int} (hx : x ∈ h.todo) : 0 ≤ x ∧ x < (h.cabins.length : Int) := by
  have hs := (rr_of hp.rules).seats; have hcb := hp.cabs
  have h2 := (JobsP.iff.1 hp.jobs).1 x hx
  rw [wr_of (by omega) (by omega)] at h2
  simp only [inB, Bool.and_eq_true, decide_eq_true_eq] at h2
  omega
theorem set_mem' {l : List Int} {k : Nat} {y x : Int} (h : x ∈ l.set k y) : x = y ∨ x ∈ l := by
  rcases List.mem_or_eq_of_mem_set h with h | h
  · exact .inr h
  · exact .inl h
theorem scan_hp {h : House} {cabin : Int} (hp : HRep h) (h0 : 0 ≤ cabin) (h1 : cabin < (h.cabins.length : Int)) : HRep (scan h cabin).1 ∧ (scan h cabin).1.cabins.length = h.cabins.length ∧ (scan h cabin).1.rules = h.rules ∧ (scan h cabin).1.now = h.now ∧ (scan h cabin).1.todo = h.todo ∧ (scan h cabin).1.jobs = h.jobs := by
  have hb := hasCab_mk hp h0 h1
  obtain ⟨e1, e2⟩ := expire_hp hb
  obtain ⟨b1, b2, b3, b4, b5, b6⟩ := expireGo_same (dueIds h cabin) h
  unfold scan
  rw [if_pos hb]
  obtain ⟨a1, a2, a3, a4, a5, a6⟩ := scanGo_hp (waits (expireM h cabin).parties) (expireM h cabin) cabin e1
  exact ⟨a1, a2.trans b6, a3.trans b1, a4.trans b2, a5.trans b4, a6.trans b5⟩
theorem pick_hp {h : House} {who : Int} (hp : HRep h) (h0 : 0 ≤ who) (h1 : who < h.rules.crew) (h2 : ¬ (jobAt h who < 0 ∧ h.todo.length = 0)) : HRep (pickM h who).1 := by
  obtain ⟨j1, j2, j3⟩ := job_rng hp h0 h1
  have hj := JobsP.iff.1 hp.jobs
  unfold pickM
  split
  · rename_i hneg
    cases ht : h.todo with
    | nil => exact absurd ⟨hneg, by rw [ht]; rfl⟩ h2
    | cons t ts =>
      dsimp only
      refine hp.setJobs (fun x hx => by rw [ht]; exact List.mem_cons_of_mem _ hx) (by rw [ht] at hj; exact (List.nodup_cons.1 hj.2.1).2) (fun x hx => ?_) (by simp)
      rcases set_mem' hx with hx | hx
      · have := hp.todoRng (x := t) (by rw [ht]; simp)
        have e : x = t := hx
        rw [e]; omega
      · exact hp.jobRng hx
  · obtain ⟨a1, a2, a3, a4, a5, a6⟩ := scan_hp hp (show 0 ≤ jobAt h who by omega) j3
    have hs := (rr_of hp.rules).seats; have hcb := hp.cabs
    refine a1.setJobs (fun x hx => hx) (JobsP.iff.1 a1.jobs).2.1 (fun x hx => ?_) (by simp)
    rcases set_mem' hx with rfl | hx
    · omega
    · exact a1.jobRng hx
/-! ### All requests -/
theorem vAns_ok {h : House} {id : Int} (hp : HRep h) (hv : vAns h id = 0) : partyOf h.parties id ∈ h.parties ∧ (partyOf h.parties id).id = id ∧ (partyOf h.parties id).state = 2 ∧ h.now < (partyOf h.parties id).until' := by
  unfold vAns at hv
  split at hv
  · omega
  · rename_i h1
    split at hv
    · omega
    · rename_i h2
      split at hv
      · omega
      · rename_i h3
        obtain ⟨a, b⟩ := partyOf_in h1
        have h4 : (partyOf h.parties id).state = 2 := by omega
        refine ⟨a, b, h4, ?_⟩
        simp [dueB, h4] at h3
        omega
theorem done_hp {h : House} {q : Req} (v : VOk h q) : HRep (doneM h q) := by
  have hp := v.hp
  have hv := v.v
  have hk := v.kind
  obtain ⟨r1, r2, r3, r4, r5, r6⟩ := reqOk_form v.ok
  unfold doneM
  split
  · rename_i h1; exact join_hp hp (joinV v h1)
  · rename_i h1
    unfold vKind at hv
    rw [if_neg h1] at hv
    split
    · rename_i h2
      rw [if_pos h2] at hv
      split at hv
      · omega
      · rename_i h3; exact cancel_hp hp (partyOf_in h3).1
    · rename_i h2
      rw [if_neg h2] at hv
      split
      · rename_i h3
        rw [if_pos h3] at hv
        unfold vFree at hv
        split at hv
        · omega
        · rename_i g1
          split at hv
          · omega
          · rename_i g2
            split at hv
            · omega
            · rename_i g3
              obtain ⟨c, hc⟩ : ∃ c, h.cabins[q.cabin.toNat]? = some c := ⟨_, List.getElem?_eq_getElem (by omega)⟩
              rw [looseAt_of hp hc] at g3
              simp only [Bool.not_eq_false, inB, Bool.and_eq_true, decide_eq_true_eq] at g2
              exact free_hp hp r3.1 hc (by omega) (by omega)
      · rename_i h3
        rw [if_neg h3] at hv
        split
        · rename_i h4
          rw [if_pos (.inl h4)] at hv
          obtain ⟨a, b, c, d⟩ := vAns_ok hp hv
          exact accept_hp hp a c
        · rename_i h4
          split
          · rename_i h5
            rw [if_pos (.inr h5)] at hv
            obtain ⟨a, b, c, d⟩ := vAns_ok hp hv
            exact decline_hp hp a c
          · rename_i h5
            rw [if_neg (by omega)] at hv
            split
            · rename_i h6
              rw [if_pos h6] at hv
              split at hv
              · omega
              · exact tick_hp hp (by omega)
            · rename_i h6
              rw [if_neg h6] at hv
              unfold vPick at hv
              split at hv
              · omega
              · split at hv
                · omega
                · rename_i g1 g2
                  exact pick_hp hp r2.1 (by omega) g2
theorem do_hp {h : House} {q : Req} (hp : HRep h) : HRep (doM h q) := by
  unfold doM
  split
  · rename_i h0; exact done_hp (verdict_ok h0)
  · exact hp
end SX
end Go.Proofs.YtejojcoaohlfbaaGreat
/- Draws in the engine: the bytes behind the first one; a result of three parts. It imports no program. -/
namespace Go.Proofs.YtejojcoaohlfbaaGreat
namespace SX
set_option linter.unusedVariables false
set_option linter.unusedSimpArgs false
open Go Go.RowKit
section rules
variable {X : List Nat} {P : Program} {N : Nat} {W : World} {S0 : List Nat} {Q : Exit → Go.Act → World → Prop} {T : Tm} {L : Bx} {C : List Ass} {ops : Array Oper} {Kn : List (Nat × Nat)} {i : Nat}
end rules
end SX
end Go.Proofs.YtejojcoaohlfbaaGreat
/- Ways of a test that meet behind it. It imports no program. -/
namespace Go.Proofs.YtejojcoaohlfbaaGreat
namespace SX
set_option linter.unusedVariables false
set_option linter.unusedSimpArgs false
open Go Go.RowKit
section rules
variable {X : List Nat} {P : Program} {N : Nat} {W : World} {S0 : List Nat} {Q : Exit → Go.Act → World → Prop} {T T1 : Tm} {L L1 : Bx} {C C1 : List Ass}
def JN9 (N : Nat) (W : World) (S0 : List Nat) {α : Type} (Tf : α → Tm) (L : Bx) (C : List Ass) (Inv : α → Prop) : Go.Act → World → Prop := fun a w => ∃ x, Inv x ∧ Sat N W S0 (Tf x) L C a w
def JT9 {α : Type} (U : α → Tm) (T : Tm) (x : α) : Tm := U x ++ T
/-- r: the region ahead of the test; U: the slots that the ways change; O: what the ways move about -/
theorem gJN {ops : Array Oper} {q : Bool} {x : Operand} {a b y : Code} {α : Type} (r : Nat) (U : α → Tm) (O : List Ass) (Inv : α → Prop) {js : List Nat} {C0 : List Ass} (hp : pulls js C = some (O, C0))
    (k1 : CD X P N W S0 ((Code.region r ops q).seq (.cond x a b)) (Exit.then (JN9 N W S0 (JT9 U T) L (C0 ++ O) Inv) Q) T L C) (k2 : ∀ z, Inv z → CD X P N W S0 y Q (U z ++ T) L (C0 ++ O)) : CD X P N W S0 (.seq (.seq (.region r ops q) (.cond x a b)) y) Q T L C := by
  unfold CD at *
  exact SEQJ (JT9 U T) (fun _ => L) (fun _ => C0 ++ O) Inv k1 k2
theorem gJB {α : Type} {U : α → Tm} {Inv : α → Prop} {O C0 R R2 : List Ass} {js : List Nat} (ks : List Nat) {x' : α} (hU : keep T1 ks = some (U x') := by conv => lhs; whnf) (hp : pulls js C1 = some (O, R)) (h : Inv x') (hR : R = C0 ++ R2 := by rfl)
    (hT : keep T1 ((JT9 U T x').map (·.1)) = keep (JT9 U T x') ((JT9 U T x').map (·.1)) := by kernel_rfl) (hn : boundedB L.length (JT9 U T x') = true := by kernel_rfl) (hL : L1.take L.length = L := by kernel_rfl) : DN X N W S0 (Exit.then (JN9 N W S0 (JT9 U T) L (C0 ++ O) Inv) Q) .normal T1 L1 C1 := by
  subst hR
  unfold DN
  intro aa w hs
  have hperm : C1.Perm ((C0 ++ O) ++ R2) := by
    refine (pulls_perm hp).trans ?_
    rw [← List.append_assoc]
    exact List.perm_append_comm.append_right R2
  have h1 := hs.turn (T1 := T1) (fun _ => rfl) id rfl hperm
  exact ⟨x', h, h1.into (js := zeros (C0 ++ O)) (R := R2) hT hn hL (pulls_zeros _ _)⟩
theorem idJN {ops : Array Oper} {q : Bool} {x : Operand} {a b y : Code} (r : Nat) (k : CD X P N W S0 (.seq (.seq (.region r ops q) (.cond x a b)) y) Q T L C) : CD X P N W S0 (.seq (.seq (.region r ops q) (.cond x a b)) y) Q T L C := k
theorem idJB {α : Type} {Tf : α → Tm} {L9 : Bx} {C9 : List Ass} {Inv : α → Prop} (k : DN X N W S0 (Exit.then (JN9 N W S0 Tf L9 C9 Inv) Q) .normal T L C) : DN X N W S0 (Exit.then (JN9 N W S0 Tf L9 C9 Inv) Q) .normal T L C := k
end rules
end SX
end Go.Proofs.YtejojcoaohlfbaaGreat
/- All offers that are accepted, in plain Lean. It imports no program. -/
namespace Go.Proofs.YtejojcoaohlfbaaGreat
namespace SX
set_option linter.unusedVariables false
set_option linter.unusedSimpArgs false
open Go Go.RowKit
theorem accM_no {h : House} {p : Party} {id : Int} {c : Cabin} (hx : h.cabins[p.cabin.toNat]? = some c) (hf : p.from' < 0) (hid : p.id = id) : acceptM h p = ⟨h.rules, h.now, h.turn, partyCut h.parties id, h.cabins.set p.cabin.toNat ⟨lSell c.seats p.size, c.row, wheelCut c.wheel ⟨p.until', id⟩⟩, h.todo, h.jobs⟩ := by
  subst hid
  unfold acceptM
  rw [if_pos hf]
  unfold goneM soldM
  rw [modC_of _ hx, if_pos hf]; rfl
theorem accM_fr {h : House} {p : Party} {id : Int} {c y : Cabin} (hx : h.cabins[p.cabin.toNat]? = some c) (hf : ¬ p.from' < 0) (hy : (h.cabins.set p.cabin.toNat ⟨lSell c.seats p.size, c.row, wheelCut c.wheel ⟨p.until', id⟩⟩)[p.from'.toNat]? = some y) (hid : p.id = id) : acceptM h p = ⟨h.rules, h.now, h.turn, partyCut h.parties id, (h.cabins.set p.cabin.toNat ⟨lSell c.seats p.size, c.row, wheelCut c.wheel ⟨p.until', id⟩⟩).set p.from'.toNat ⟨lFree (lUntie y.seats p.size) p.size, y.row, y.wheel⟩, todoPut h.todo p.from', h.jobs⟩ := by
  subst hid
  unfold acceptM
  rw [if_neg hf]
  unfold freeM goneM soldM
  dsimp only
  rw [modC_of _ hx, if_neg hf]
  rw [modC_modC]
  show (House.mk _ _ _ _ (modC (h.cabins.set p.cabin.toNat ⟨lSell c.seats p.size, c.row, wheelCut c.wheel ⟨p.until', p.id⟩⟩) p.from' _) _ _) = _
  rw [modC_of _ hy]; rfl
/-! ### A scan that is judged -/
/-! ### Rows that are marked -/
/-! ### All offers, all jobs, rounds -/
def idleB (h : House) : Bool := h.jobs.all (fun j => decide (j < 0)) && decide (h.todo.length = 0)
/-- n turns, the first of them the i-th -/
noncomputable def drainGo : Nat → Int → House → House
  | 0, _, h => h
  | n + 1, i, h => if idleB h then h else drainGo n (i + 1) (doM h ⟨7, Int.tmod i h.rules.crew, 0, 0, 0, 0⟩)
noncomputable def drained (h : House) : House := if houseOk h then drainGo 60 0 h else h
end SX
end Go.Proofs.YtejojcoaohlfbaaGreat
/- Rows of replies in the engine. It imports no program. -/
namespace Go.Proofs.YtejojcoaohlfbaaGreat
namespace SX
set_option linter.unusedVariables false
set_option linter.unusedSimpArgs false
open Go Go.RowKit
theorem replyRepN {e : TypeId} {a : Option Addr} {n c : Nat} {z : Int} {x : List Int} : ∀ w fps, holds w [slA e intL (.slice a n c) x] fps → (replyL e).rep true w [vi z, .slice a n c] (z, x) fps.flatten := by
  intro w fps h
  match fps, h with
  | [f1], ⟨h1, _⟩ =>
    refine ⟨[vi z], [.slice a n c], [], f1, rfl, by simp, ⟨rfl, rfl⟩, ?_⟩
    have := nestRepN (e' := 0) w [f1] (show holds w [slA e intL (.slice a n c) x] [f1] from ⟨h1, trivial⟩)
    simpa using this
def W2v {α β ι κ : Type} (vA : α → ι → Value) (vB : β → κ → Value) : α × β → ι × κ → Value := fun z q => .tuple #[vA z.1 q.1, vB z.2 q.2]
def W2w {α β ι κ : Type} (oA : α → ι → List Ass) (oB : β → κ → List Ass) : α × β → ι × κ → List Ass := fun z q => oA z.1 q.1 ++ oB z.2 q.2
section rules
variable {X : List Nat} {P : Program} {N : Nat} {W : World} {S0 : List Nat} {Q : Exit → Go.Act → World → Prop} {T : Tm} {L : Bx} {C : List Ass} {ops : Array Oper} {Kn : List (Nat × Nat)} {i : Nat}
theorem oBUR {K : Go.Act → World → Prop} {t : TypeId} {x : Operand} {d : Nat} {ty : TypeId} {a1 : Option Addr} {n1 c1 j1 e e4 : Nat} {row : List Int} {z : Int} {R : List Ass}
    (hx : evv T x = some (.agg ⟨[vi z, .slice a1 n1 c1]⟩) := by rfl) (hp1 : pull j1 C = some (slA e4 intL (.slice a1 n1 c1) row, R) := by exact PU)
    (k : ∀ a9 : Option Addr, a9.isSome = true → G N W S0 K ((d, .v (.slice a9 1 1)) :: T) L (R ++ [slA e (replyL e4) (.slice a9 1 1) [(z, row)]]))
    (ho : opAt ops T i = some (.buildSlice t 1 #[(0, x)], some d, ty) := by kernel_rfl) (hd : d < N := by exact NL rfl) (hb : (partsOf T [(0, x)]).bind (bsOf P t 1) = some (e, [vi z, .slice a1 n1 c1]) := by kernel_rfl) : OP P N W S0 ops Q i K T L C :=
  BUILDS t 1 #[(0, x)] d ty ho hd e _ hb (replyL e4) [(z, row)] rfl (by decide) [j1] _ R (by simp [pulls, hp1]) (oneRep replyRepN) k
theorem aBUR {t : TypeId} {x : Operand} {d : Nat} {ty : TypeId} {a1 : Option Addr} {n1 c1 j1 e e4 : Nat} {row : List Int} {z : Int} {R : List Ass} {sz : Nat} [TB P]
    (hx : evv T x = some (.agg ⟨[vi z, .slice a1 n1 c1]⟩) := by rfl) (hp1 : pull j1 C = some (slA e4 intL (.slice a1 n1 c1) row, R) := by exact PU) (hr : lkn (TB.D P).row t = some (e, sz) := by conv => lhs; whnf)
    (k : ∀ a9 : Option Addr, a9.isSome = true → OPL X P N W S0 ops Q Kn (i + 1) ((d, .v (.slice a9 1 1)) :: T) L (R ++ [slA e (replyL e4) (.slice a9 1 1) [(z, row)]])) (hi : Nat.blt i ops.size = true := by rfl)
    (ho : opAt ops T i = some (.buildSlice t 1 #[(0, x)], some d, ty) := by kernel_rfl) (hd : d < N := by exact NL rfl) (hb : (partsOf T [(0, x)]).bind (bsOf P t 1) = some (e, [vi z, .slice a1 n1 c1]) := by kernel_rfl) : AT (.op (.buildSlice t 1 #[(0, x)]) (some d) ty) X P N W S0 ops Q Kn i T L C := opsOne (lt_of_blt hi) (oBUR hx hp1 k ho hd hb)
theorem rW2v {v1 v2 : Value} {α β ι κ : Type} {Pp : α × β → Prop} {vA : α → ι → Value} {oA : α → ι → List Ass} {vB : β → κ → Value} {oB : β → κ → List Ass} {O R R2 R3 : List Ass} {js : List Nat} {x : α} {y : β}
    (h1 : RP v1 ⟨ι, vA x, oA x⟩ C R) (h2 : RP v2 ⟨κ, vB y, oB y⟩ R R2) (hO : pulls js R2 = some (O, R3)) (hP : Pp (x, y)) : RETG (.tuple ⟨[v1, v2]⟩) (RWk Pp (W2v vA vB) (W2w oA oB) O) C := by
  obtain ⟨q, ks, e1, e2⟩ := h1
  obtain ⟨q3, ls, e3, e4⟩ := h2
  exact ⟨(⟨(x, y), hP⟩, (q, q3)), (ks ++ ls) ++ js, by rw [show v1 = vA x q from e1, show v2 = vB y q3 from e3]; rfl, by rw [pulls_app (pulls_app e2 e4) hO]; rfl⟩
end rules
end SX
end Go.Proofs.YtejojcoaohlfbaaGreat
/- Ways of a test that meet behind it, with boxes that the ways change. It imports no program. -/
namespace Go.Proofs.YtejojcoaohlfbaaGreat
namespace SX
set_option linter.unusedVariables false
set_option linter.unusedSimpArgs false
open Go Go.RowKit
section rules
variable {X : List Nat} {P : Program} {N : Nat} {W : World} {S0 : List Nat} {Q : Exit → Go.Act → World → Prop} {T T1 : Tm} {L L1 : Bx} {C C1 : List Ass}
def JM9 (N : Nat) (W : World) (S0 : List Nat) {α : Type} (Tf : α → Tm) (Lf : α → Bx) (C : List Ass) (Inv : α → Prop) : Go.Act → World → Prop := fun a w => ∃ x, Inv x ∧ Sat N W S0 (Tf x) (Lf x) C a w
/-- r: the region ahead of the test; U: slots, bs: boxes that the ways change; O: what the ways move about -/
theorem gJM {ops : Array Oper} {q : Bool} {x : Operand} {a b y : Code} {α : Type} (r : Nat) (U : α → Tm) (bs : List (Nat × (α → List Value))) (O : List Ass) (Inv : α → Prop) {Lf : α → Bx} {js : List Nat} {C0 : List Ass} (hp : pulls js C = some (O, C0))
    (k1 : CD X P N W S0 ((Code.region r ops q).seq (.cond x a b)) (Exit.then (JM9 N W S0 (JT9 U T) Lf (C0 ++ O) Inv) Q) T L C) (k2 : ∀ z, Inv z → CD X P N W S0 y Q (U z ++ T) (Lf z) (C0 ++ O)) (hLf : ∀ x, setBs x bs L some = some (Lf x) := by intro x; conv => lhs; whnf) : CD X P N W S0 (.seq (.seq (.region r ops q) (.cond x a b)) y) Q T L C := by
  unfold CD at *
  exact SEQJ (JT9 U T) Lf (fun _ => C0 ++ O) Inv k1 k2
theorem gJW {α : Type} {U : α → Tm} {Lf : α → Bx} {Inv : α → Prop} {O C0 R R2 : List Ass} {js : List Nat} (ks : List Nat) (x' : α) (hU : keep T1 ks = some (U x') := by conv => lhs; whnf) (hp : pulls js C1 = some (O, R)) (h : Inv x') (hR : R = C0 ++ R2 := by rfl)
    (hT : keep T1 ((JT9 U T x').map (·.1)) = keep (JT9 U T x') ((JT9 U T x').map (·.1)) := by kernel_rfl) (hn : boundedB (Lf x').length (JT9 U T x') = true := by kernel_rfl) (hL : L1.take (Lf x').length = Lf x' := by kernel_rfl) : DN X N W S0 (Exit.then (JM9 N W S0 (JT9 U T) Lf (C0 ++ O) Inv) Q) .normal T1 L1 C1 := by
  subst hR
  unfold DN
  intro aa w hs
  have hperm : C1.Perm ((C0 ++ O) ++ R2) := by
    refine (pulls_perm hp).trans ?_
    rw [← List.append_assoc]
    exact List.perm_append_comm.append_right R2
  have h1 := hs.turn (T1 := T1) (fun _ => rfl) id rfl hperm
  exact ⟨x', h, h1.into (js := zeros (C0 ++ O)) (R := R2) hT hn hL (pulls_zeros _ _)⟩
theorem idJM {α : Type} {Tf : α → Tm} {Lf : α → Bx} {C9 : List Ass} {Inv : α → Prop} (k : DN X N W S0 (Exit.then (JM9 N W S0 Tf Lf C9 Inv) Q) .normal T L C) : DN X N W S0 (Exit.then (JM9 N W S0 Tf Lf C9 Inv) Q) .normal T L C := k
end rules
end SX
end Go.Proofs.YtejojcoaohlfbaaGreat
/- Short names for what the printed walks say often. It imports no program. -/
namespace Go.Proofs.YtejojcoaohlfbaaGreat
namespace SX
set_option linter.unusedVariables false
set_option linter.unusedSimpArgs false
open Go Go.RowKit
/-! ### Tactics that prove a side goal -/
theorem KR {p : Prop} (h : p := by kernel_rfl) : p := h
theorem LQ {p : Prop} (h : p := by first | omega | (simp only [List.length_append, List.length_cons, List.length_nil, List.length_take, List.length_drop] at *; omega)) : p := h
theorem LM {p : Prop} (h : p := by simp only [maxLen]; first | omega | (simp only [List.length_append, List.length_cons, List.length_nil, List.length_take, List.length_drop] at *; omega)) : p := h
theorem LD {p : Prop} (h : p := by first | omega | (dsimp only; omega)) : p := h
theorem LO {p : Prop} (h : p := by omega) : p := h
theorem LF {p : Prop} (h : p := by simp only [maxLen]; omega) : p := h
/-! ### Cells -/
@[reducible] def rC (x : Rules) (a : Option Addr) (c : Nat) : List Value := [.slice a x.seats.length c, vi x.tiers, vi x.room, vi x.size, vi x.period, vi x.window, vi x.rest, vi x.tries, vi x.crew]
@[reducible] def caC (x : Cabin) (a1 : Option Addr) (c1 : Nat) (a2 : Option Addr) (c2 : Nat) : List Value := [vi x.seats.total, vi x.seats.free, vi x.seats.held, vi x.seats.sold, vi x.seats.tied, .slice a1 x.row.length c1, .slice a2 x.wheel.spoke.length c2]
@[reducible] def paC (x : Party) : List Value := [vi x.id, vi x.cabin, vi x.from', vi x.size, vi x.tier, vi x.since, vi x.turn, vi x.state, vi x.until', vi x.asked]
@[reducible] def paZ : List Value := [vi 0, vi 0, vi 0, vi 0, vi 0, vi 0, vi 0, vi 0, vi 0, vi 0]
@[reducible] def leC (x : Ledger) : List Value := [vi x.total, vi x.free, vi x.held, vi x.sold, vi x.tied]
/-! ### Rules -/
section
variable {P : Program} {N : Nat} {W : World} {S0 : List Nat} {Q : Exit → Go.Act → World → Prop} {T : Tm} {L : Bx} {C C0 : List Ass} {ops : Array Oper}
theorem CX {i : Nat} {K : Go.Act → World → Prop} {f : FuncId} {vs : Array Value} {r : Res} (d : Nat) (hcon : ∀ w, At W S0 C w → Spec P w [] f vs r) (k : ∀ x : r.ι, G N W S0 K (putd (some d) (.v (r.val x)) T) L (C ++ r.own x))
    (hc : callOf P ops T i = some (f, vs, some d) := by kernel_rfl) (hd : ∀ k, some d = some k → k < N := by exact NO rfl) : OP P N W S0 ops Q i K T L C := CA f vs (some d) r hcon k hc hd
theorem CY {i : Nat} {K : Go.Act → World → Prop} {f : FuncId} {vs : Array Value} {r : Res} {pre R : List Ass} (d : Nat) (js : List Nat) (hcon : ∀ w, At W S0 C w → Spec P w pre f vs r) (hp : pulls js C = some (pre, R)) (k : ∀ x : r.ι, G N W S0 K (putd (some d) (.v (r.val x)) T) L (R ++ r.own x))
    (hc : callOf P ops T i = some (f, vs, some d) := by kernel_rfl) (hd : ∀ k, some d = some k → k < N := by exact NO rfl) : OP P N W S0 ops Q i K T L C := CALL f vs (some d) hc js pre R hp r hcon hd k
theorem QX {i : Nat} {f : FuncId} {vs : Array Value} {v : Value} (d : Nat) (hcon : ∀ w, At W S0 C w → Spec P w [] f vs (RV v)) (k : QO P N W S0 ops Q (i + 1) (putd (some d) (.v v) T) L C)
    (hc : callOf P ops T i = some (f, vs, some d) := by kernel_rfl) (hd : ∀ k, some d = some k → k < N := by exact NO rfl) : QO P N W S0 ops Q i T L C := QCA f vs (some d) v hcon k hc hd
theorem HW {fuel : Nat} {listed : Array Bool} (js : List Nat) (k : H P N W S0 ops Q C0 fuel listed T L C) (hC : (pulls js C).map (·.1) = some C0 := by rfl) : G N W S0 (HN P W S0 ops Q C0 fuel listed) T L C := HKEEP hC k
theorem HK {fuel : Nat} {listed : Array Bool} (js rs : List Nat) (k : AllOf (fun i => OP P N W S0 ops (nQ Q) i (HN P W S0 ops Q C0 fuel (listed.setIfInBounds i true)) T L C) rs) (hC : (pulls js C).map (·.1) = some C0 := by rfl) (hr : Region.ready .any ops listed = rs := by kernel_rfl) (hne : rs ≠ [] := by decide) :
    G N W S0 (HN P W S0 ops Q C0 (fuel + 1) listed) T L C := HKEEP hC (HALL rs hr hne k)
theorem HDz {fuel : Nat} {listed : Array Bool} (k : DONE N W S0 Q .normal T L C) (hr : Region.ready .any ops listed = [] := by kernel_rfl) : H P N W S0 ops Q C0 fuel listed T L C := HEND hr k
theorem XN {y : Code} {Q' : Exit → Go.Act → World → Prop} {is : List Nat} (k : CODE P N W S0 y Q T L C) (h : is = [] := by rfl) : OPS P N W S0 ops (Exit.then (y.wp P Q) Q') is T L C := by subst h; exact ENDOPS (NEXT k)
theorem XF {fn : Func} {r : Res} {Q' : Exit → Go.Act → World → Prop} {is : List Nat} (hq : Q .ret = bodyPost P fn (RetM S0 r W) .ret) (v : Value) (x : r.ι) (js : List Nat) (hx : v = r.val x) (hp : (pulls js C).map (·.1) = some (r.own x) := by rfl) (hv : resOf fn P T L = some v := by kernel_rfl) (h : is = [] := by rfl) :
    OPS P N W S0 ops (Exit.then (Code.wp P .ret Q) Q') is T L C := by subst h; exact ENDOPS (NEXT (RF hq v x js hx hp hv))
theorem RB {fn : Func} {val : Unit → Value} {Q' : Exit → Go.Act → World → Prop} {is : List Nat} (hq : Q .ret = bodyPost P fn (RetM S0 ⟨Unit, val, fun _ => []⟩ W) .ret) (d : Nat) (b : Bool) (hx : .bool b = val ()) (hr : runD P N ops 1 is T L [d] = some ([(d, B b)], L) := by kernel_rfl)
    (hv : resOf fn P ((d, B b) :: T) L = some (.bool b) := by kernel_rfl) (h : is.drop 1 = [] := by rfl) :
    OPS P N W S0 ops (Exit.then (Code.wp P .ret Q) Q') is T L C := RUL 1 _ [(d, B b)] L hr rfl (XF (r := ⟨Unit, val, fun _ => []⟩) hq (.bool b) () [] hx rfl hv h)
theorem XK {y : Code} {Q' : Exit → Go.Act → World → Prop} (k : CODE P N W S0 y Q T L C) : CODE P N W S0 .skip (Exit.then (y.wp P Q) Q') T L C := SKIP (NEXT k)
theorem XG {id : Nat} {y : Code} (k : OPS P N W S0 ops (Exit.then (y.wp P Q) Q) (List.range ops.size) T L C) : CODE P N W S0 (.seq (.region id ops false) y) Q T L C := SEQ (RG k)
theorem XI {x : Operand} {c d : Code} (k : CODE P N W S0 c Q T L C) (hx : evv T x = some (.bool true) := by kernel_rfl) : CODE P N W S0 (.cond x c d) Q T L C := IFT hx k
end
theorem dT {p X : Prop} [Decidable p] (f : p → decide p = true → X) (h : decide p = true) : X := f (of_decide_eq_true h) h
theorem dF {p X : Prop} [Decidable p] (f : ¬ p → decide p = false → X) (h : decide p = false) : X := f (of_decide_eq_false h) h
theorem aT {a b X : Prop} (g : a → b) (f : b → a → X) (h : a) : X := f (g h) h
theorem VC {x : Int} {n : Nat} (h : x = n := by omega) (h1 : n ≤ 9223372036854775807 := by omega) : vi (wr x) = vi (n : Int) := vi_cast h h1
end SX
end Go.Proofs.YtejojcoaohlfbaaGreat
/- From the form's reading of arguments to the logic's. It imports no program. -/
namespace Go.Proofs.YtejojcoaohlfbaaGreat
namespace SX
set_option linter.unusedVariables false
set_option linter.unusedSimpArgs false
open Go Go.RowKit Go.ChangeShapes Go.WideShapes Go.ChangeAt

/-- whatever reads at type t is laid out so, and is well formed so -/
def Opens (P : Program) (t : TypeId) {α : Type} (L : Lay α) (wf : α → Prop) : Prop :=
  ∀ (H : Type) (enc : TypeId × Value → H) (w : World) (base : Nat) (spare : Nat → Bool) (held : Bool) (fuel : Nat) (cs : List Value) (x : DataW H × List MemPlace),
    DataW.trod enc P w base spare held fuel t cs = some x → ∃ y f, L.rep false w cs y f ∧ wf y

theorem open_byte {P : Program} {t : TypeId} (ht : P.underlying t = some (.int .u8)) : Opens P t byteL (fun _ => True) := by
  intro H enc w base spare held fuel cs x h
  obtain ⟨n, rfl, _, hw⟩ := DataW.trod_int ht h
  have hb := bounds_u8 hw
  refine ⟨UInt8.ofNat n.toNat, [], ⟨?_, rfl⟩, trivial⟩
  have : ((UInt8.ofNat n.toNat).toNat : Int) = n := by
    rw [UInt8.toNat_ofNat']
    omega
  show [Value.int .u8 n] = [Value.int .u8 ((UInt8.ofNat n.toNat).toNat : Int)]
  rw [this]

theorem cell_spot {w : World} {a : Addr} {v : Value} (h : w.cell? a = some v) : a.spot = none ∧ a.block < w.heap.size := by
  refine ⟨?_, World.block_lt_of_cell? w a h⟩
  unfold World.cell? at h
  split at h
  · split at h
    · cases h
    · rename_i hs; simpa using hs
  · cases h

theorem open_sl {P : Program} {t e : TypeId} {α : Type} {L : Lay α} {wf : α → Prop} (e' : TypeId) (ho : Opens P e L wf) (ht : P.underlying t = some (.slice e)) (hc : P.cellsOf e = L.sz) (hp : 0 < L.sz) :
    Opens P t (sl e' L) (fun xs => ∀ x ∈ xs, wf x) := by
  intro H enc w base spare held fuel cs x h
  rcases DataW.trod_slice ht h with ⟨rfl, _⟩ | ⟨a, len, cap, elems, rest, n, _, rfl, _, hb, hl, hm, hlen, hel, _, _⟩
  · exact ⟨[], [], ⟨none, 0, rfl, by simp, by simp [maxLen], .inl ⟨rfl, rfl⟩⟩, by simp⟩
  · rw [hc] at hel
    -- each element
    have key : ∀ k, k ≤ len → ∃ (ys : List α) (cells : List Value) (g : List Nat), ys.length = k ∧ cellsRep L false w cells ys g ∧ (∀ j, j < cells.length → w.cell? (a.add (k * L.sz - cells.length + j)) = cells[j]?) ∧ (∀ y ∈ ys, wf y) := by
      intro k
      induction k with
      | zero => intro _; exact ⟨[], [], [], rfl, ⟨rfl, rfl⟩, by simp, by simp⟩
      | succ k ih =>
        intro hk
        obtain ⟨ys, cells, g, h1, h2, h3, h4⟩ := ih (by omega)
        have hk' := hel k (by omega)
        have hs : elems[k]? = some (elems[k]'(by omega)) := List.getElem?_eq_getElem (by omega)
        rw [hs] at hk'
        obtain ⟨cs', hcs, htr⟩ := Option.bind_eq_some_iff.1 hk'
        obtain ⟨_, hcl, hcell⟩ := World.cells?_some hcs
        obtain ⟨y, f, hr, hw⟩ := ho H enc w base spare held n cs' _ htr
        have hlen2 := h2.len
        refine ⟨ys ++ [y], cells ++ cs', g ++ f, by simp [h1], h2.append ⟨cs', [], f, [], by simp, by simp, hr, rfl, rfl⟩, ?_, ?_⟩
        · intro j hj
          have hzero : (k + 1) * L.sz - (cells ++ cs').length = 0 := by rw [List.length_append, hcl, hlen2, h1, Nat.add_mul]; omega
          rw [hzero, Nat.zero_add]
          rw [h1] at hlen2
          by_cases hjc : j < cells.length
          · have := h3 j hjc
            rw [hlen2, Nat.sub_self, Nat.zero_add] at this
            rw [this, List.getElem?_append_left hjc]
          · rw [List.getElem?_append_right (by omega)]
            rw [List.length_append, hcl] at hj
            have := hcell (j - cells.length) (by omega)
            rw [SX.add_add] at this
            rw [← this]
            congr 2
            rw [hlen2]
            rw [hlen2] at hjc
            omega
        · intro z hz
          rcases List.mem_append.1 hz with hz | hz
          · exact h4 z hz
          · simp at hz; subst hz; exact hw
    obtain ⟨ys, cells, g, h1, h2, h3, h4⟩ := key len (Nat.le_refl _)
    subst h1
    have hlen2 := h2.len
    simp only [hlen2, Nat.sub_self, Nat.zero_add] at h3
    cases ys with
    | nil => exact ⟨[], [], ⟨some a, cap, rfl, by simp, by simp [maxLen], .inl ⟨rfl, rfl⟩⟩, by simp⟩
    | cons y ys =>
      have hpos : 0 < cells.length := by rw [hlen2]; simp only [List.length_cons, Nat.add_mul]; omega
      have h0 := h3 0 (by omega)
      rw [List.getElem?_eq_getElem hpos] at h0
      obtain ⟨hs, hlt⟩ := cell_spot h0
      obtain ⟨b, o, sp⟩ := a
      simp [Addr.add] at hs hlt
      subst hs
      refine ⟨y :: ys, b :: g, ⟨some ⟨b, o, none⟩, cap, rfl, ?_⟩, h4⟩
      refine ⟨hl, by omega, .inr ⟨b, o, g, cells, rfl, hlt, rfl, h2, fun j hj => ?_⟩⟩
      rw [← h3 j (by omega), add_lit]

/-- what a law's walk says, in the form's words -/
theorem Spec.law {P : Program} {W : World} {f : FuncId} {vs : Array Value} (h : Spec P W [] f vs (RV (.bool true))) : Calls P f vs W fun e w' => e = .returned (.bool true) ∧ Below W.heap.size W w' := by
  refine (h [] trivial (by simp)).mono ?_
  rintro e w' ⟨x, nps, rfl, _, _, _, hfr⟩
  exact ⟨rfl, hfr.below⟩
end SX
end Go.Proofs.YtejojcoaohlfbaaGreat
