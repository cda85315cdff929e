/- Texts of this claim, put together by program. -/
import Derived.Test.YtapbooddmdkgjaaGreatMdlu
import Derived.Test.YtapbooddmdkgjaaGreatSu1
import Derived.Test.YtapbooddmdkgjaaGreatSxc
import Derived.Test.YtapbooddmdkgjaaGreatSu5
import Derived.ProofKit
import Derived.OpenShut
import Derived.Handed
/- What requests do to a house, in plain Lean: they keep it right. It imports no program. -/
namespace Go.Proofs.YtapbooddmdkgjaaGreat
namespace SX
set_option linter.unusedVariables false
set_option linter.unusedSimpArgs false
open Go Go.RowKit
/-! ### Verdicts -/
def looseAt (h : House) (k : Int) : Int := match h.cabins[k.toNat]? with
  | some c => wr (c.seats.sold - c.seats.tied)
  | none => 0
def jobAt (h : House) (k : Int) : Int := match h.jobs[k.toNat]? with
  | some j => j
  | none => 0
def dueB (p : Party) (now : Int) : Bool := p.state == 2 && decide (p.until' ≤ now)
def vJoin (h : House) (q : Req) : Int :=
  if q.cabin ≥ (h.cabins.length : Int) ∨ q.from' ≥ (h.cabins.length : Int) ∨ q.from' = q.cabin then 4
  else if inB q.size 1 h.rules.size = false then 5
  else if q.tier ≥ h.rules.tiers then 6
  else if inB q.id 1 999 = false then 7
  else if atId h.parties q.id ≥ 0 then 8
  else if countGo h.parties q.cabin 0 ≥ h.rules.room then 9
  else if q.from' ≥ 0 ∧ looseAt h q.from' < q.size then 10
  else if h.turn > 1000000 then 11 else 0
def vAns (h : House) (id : Int) : Int :=
  if atId h.parties id < 0 then 7 else if (partyOf h.parties id).state ≠ 2 then 13 else if dueB (partyOf h.parties id) h.now = true then 14 else 0
def vFree (h : House) (q : Req) : Int :=
  if q.cabin ≥ (h.cabins.length : Int) then 4 else if inB q.size 1 60 = false then 5 else if looseAt h q.cabin < q.size then 12 else 0
def vPick (h : House) (q : Req) : Int :=
  if q.id ≥ h.rules.crew then 16 else if jobAt h q.id < 0 ∧ h.todo.length = 0 then 17 else 0
def vKind (h : House) (q : Req) : Int :=
  if q.kind = 1 then vJoin h q
  else if q.kind = 2 then (if atId h.parties q.id < 0 then 7 else 0)
  else if q.kind = 3 then vFree h q
  else if q.kind = 4 ∨ q.kind = 5 then vAns h q.id
  else if q.kind = 6 then (if h.now ≥ 1000000 then 15 else 0)
  else vPick h q
noncomputable def verdict (h : House) (q : Req) : Int :=
  if houseOk h = false then 1 else if inB q.kind 1 7 = false then 2 else if reqOk q = false then 3 else vKind h q
/-! ### Requests -/
def joinP (h : House) (q : Req) : Party := ⟨q.id, q.cabin, q.from', q.size, q.tier, h.now, h.turn, 1, 0, 0⟩
def joinM (h : House) (q : Req) : House :=
  ⟨h.rules, h.now, wr (h.turn + 1), partyPut h.parties (joinP h q),
    if q.from' < 0 then modC h.cabins q.cabin (rowPut (entryOf h.rules (joinP h q) h.now)) else modC (modC h.cabins q.cabin (rowPut (entryOf h.rules (joinP h q) h.now))) q.from' (seatsC (lTie · q.size)),
    todoPut h.todo q.cabin, h.jobs⟩
noncomputable def declineM (h : House) (p : Party) : House := withTodo (failsM h p) (todoPut (failsM h p).todo p.cabin)
def tickC (h : House) (k : Nat) : Nat → List Cabin → List Cabin
  | _, [] => []
  | i, c :: cs => (if i < k then ⟨c.seats, queueOf h.rules h.parties i (wr (h.now + 1)), c.wheel⟩ else c) :: tickC h k (i + 1) cs
def tickT (ps : List Party) : Nat → List Int → List Int
  | 0, l => l
  | k + 1, l => if countGo ps k 0 > 0 then todoPut (tickT ps k l) k else tickT ps k l
def tickK (h : House) (k : Nat) : House := ⟨h.rules, wr (h.now + 1), h.turn, h.parties, tickC h k 0 h.cabins, tickT h.parties k h.todo, h.jobs⟩
def tickM (h : House) : House := tickK h h.cabins.length
def withJobs (h : House) (l m : List Int) : House := ⟨h.rules, h.now, h.turn, h.parties, h.cabins, l, m⟩
noncomputable def pickM (h : House) (who : Int) : House × List Int :=
  if jobAt h who < 0 then (withJobs h h.todo.tail (h.jobs.set who.toNat (h.todo.headD 0)), [])
  else (withJobs (scan h (jobAt h who)).1 (scan h (jobAt h who)).1.todo ((scan h (jobAt h who)).1.jobs.set who.toNat (-1)), (scan h (jobAt h who)).2)
/-- a request that is done -/
noncomputable def doneM (h : House) (q : Req) : House :=
  if q.kind = 1 then joinM h q
  else if q.kind = 2 then cancelM h (partyOf h.parties q.id)
  else if q.kind = 3 then freeM h q.cabin q.size
  else if q.kind = 4 then acceptM h (partyOf h.parties q.id)
  else if q.kind = 5 then declineM h (partyOf h.parties q.id)
  else if q.kind = 6 then tickM h
  else (pickM h q.id).1
noncomputable def doM (h : House) (q : Req) : House := if verdict h q = 0 then doneM h q else h
noncomputable def idsM (h : House) (q : Req) : List Int := if verdict h q = 0 ∧ q.kind = 7 then (pickM h q.id).2 else []
/-! ### What a verdict says -/
theorem reqOk_form {q : Req} (h : reqOk q = true) : (1 ≤ q.kind ∧ q.kind ≤ 7) ∧ (0 ≤ q.id ∧ q.id ≤ 9999) ∧ (0 ≤ q.cabin ∧ q.cabin ≤ 9999) ∧ (-1 ≤ q.from' ∧ q.from' ≤ 9999) ∧ (0 ≤ q.size ∧ q.size ≤ 9999) ∧ (0 ≤ q.tier ∧ q.tier ≤ 9999) := by
  unfold reqOk at h
  split at h
  · rename_i hk; simp [usedB, inB] at h hk; omega
  · split at h
    · rename_i hk; simp [usedB, inB, reqEq] at h hk; omega
    · split at h
      · rename_i hk; simp [usedB, inB, reqEq] at h hk; omega
      · split at h
        · rename_i hk; simp [usedB, inB, reqEq] at h hk; omega
        · cases h
structure VOk (h : House) (q : Req) : Prop where
  hp : HRep h
  ok : reqOk q = true
  kind : 1 ≤ q.kind ∧ q.kind ≤ 7
  v : vKind h q = 0
theorem verdict_ok {h : House} {q : Req} (h0 : verdict h q = 0) : VOk h q := by
  unfold verdict at h0
  split at h0
  · omega
  · rename_i h1
    split at h0
    · omega
    · rename_i h2
      split at h0
      · omega
      · rename_i h3
        simp only [Bool.not_eq_false, inB, Bool.and_eq_true, decide_eq_true_eq] at h1 h2 h3
        exact ⟨hp_of h1, h3, h2, h0⟩
theorem VOk.eq {h : House} {q : Req} (v : VOk h q) : verdict h q = 0 := by
  have h2 : inB q.kind 1 7 = true := by simp only [inB, Bool.and_eq_true, decide_eq_true_eq]; exact v.kind
  simp [verdict, v.hp.eq, h2, v.ok, v.v]
/-! ### They keep a house right -/
theorem goneSold_hp {h : House} {p : Party} (hp : HRep h) (hm : p ∈ h.parties) (hs : p.state = 2) : HRep (goneM (soldM h p) p) := by
  have g := hp.pr hm
  have gs := g.size; have gc := g.cab; have gf := g.frm; have gn := g.ne
  refine hp.gone hm rfl rfl rfl rfl ?_ rfl rfl fun k c c' hc hc' hl hh ht => ?_
  · unfold goneM soldM
    dsimp only
    split <;> simp only [modC_len]
  · have h1 : (modC h.cabins p.cabin (sellC p))[k]? = some (if p.cabin = (k : Int) then sellC p c else c) := modC_at gc.1 hc
    have h2 : c' = if p.from' = (k : Int) then seatsC (lUntie · p.size) (if p.cabin = (k : Int) then sellC p c else c) else (if p.cabin = (k : Int) then sellC p c else c) := by
      unfold goneM soldM at hc'
      dsimp only at hc'
      split at hc'
      · rename_i hneg
        rw [if_neg (by omega)]
        rw [h1] at hc'; injection hc' with hc'; exact hc'.symm
      · rw [modC_at (by omega) h1] at hc'; injection hc' with hc'; exact hc'.symm
    rw [h2]
    by_cases hk : p.cabin = (k : Int)
    · have hf : ¬ p.from' = (k : Int) := by omega
      rw [if_pos hk, if_neg hf, if_neg (by omega), if_pos ⟨hs, hk⟩, heldW_yes ⟨hs, hk⟩, tiedW_no hf]
      rw [heldW_yes ⟨hs, hk⟩] at hh
      obtain ⟨e1, e2⟩ := hl.sell (n := p.size) (by omega) hh
      unfold sellC
      dsimp only
      rw [e1]
      exact ⟨rfl, rfl, e2, rfl, rfl, by dsimp only; omega⟩
    · rw [if_neg hk, if_neg (c := p.state = 1 ∧ p.cabin = (k : Int)) (fun w => hk w.2), if_neg (c := p.state = 2 ∧ p.cabin = (k : Int)) (fun w => hk w.2), heldW_no fun w => hk w.2]
      by_cases hf : p.from' = (k : Int)
      · rw [if_pos hf, tiedW_yes hf]
        rw [tiedW_yes hf] at ht
        obtain ⟨e1, e2⟩ := hl.untie (n := p.size) (by omega) ht
        unfold seatsC
        dsimp only
        rw [e1]
        exact ⟨rfl, rfl, e2, rfl, by dsimp only; omega, rfl⟩
      · rw [if_neg hf, tiedW_no hf]
        exact ⟨rfl, rfl, hl, rfl, by omega, by omega⟩
/-- the cabin from which a party comes, when it has gone: there is room to free its seats -/
theorem gone_from {h : House} {p : Party} (hp : HRep h) (hm : p ∈ h.parties) (hf : ¬ p.from' < 0) : ∃ c, (goneM (soldM h p) p).cabins[p.from'.toNat]? = some c ∧ p.size ≤ c.seats.sold - c.seats.tied := by
  have g := hp.pr hm
  have gs := g.size; have gc := g.cab; have gf := g.frm; have gn := g.ne; have hl := hp.cabs
  obtain ⟨c, hc⟩ : ∃ c, h.cabins[p.from'.toNat]? = some c := ⟨_, List.getElem?_eq_getElem (by omega)⟩
  have hr := (hp.cab _ c hc).2.1
  have hlp := ledgerOk_iff.1 hr.led
  have hge := held_ge (k := ((p.from'.toNat : Nat) : Int)) hp.good (partyCut_perm hp.good.ids hm)
  rw [← hr.held, ← hr.tied, tiedW_yes (by omega)] at hge
  have h1 : (modC h.cabins p.cabin (sellC p))[p.from'.toNat]? = some c := by
    rw [modC_at gc.1 hc, if_neg (by omega)]
  refine ⟨seatsC (lUntie · p.size) c, ?_, ?_⟩
  · unfold goneM soldM
    dsimp only
    rw [if_neg hf, modC_at (by omega) h1, if_pos (by omega)]
  · obtain ⟨e1, e2⟩ := hlp.untie (n := p.size) (by omega) hge.2
    unfold seatsC
    dsimp only
    rw [e1]
    have := hlp.tied
    dsimp only; omega
theorem accept_hp {h : House} {p : Party} (hp : HRep h) (hm : p ∈ h.parties) (hs : p.state = 2) : HRep (acceptM h p) := by
  unfold acceptM
  split
  · exact goneSold_hp hp hm hs
  · rename_i hf
    have g := hp.pr hm
    have gs := g.size
    obtain ⟨c, h1, h2⟩ := gone_from hp hm hf
    exact free_hp (goneSold_hp hp hm hs) (by omega) h1 (by omega) h2
theorem goneCut_hp {h : House} {p : Party} (hp : HRep h) (hm : p ∈ h.parties) (hs : p.state = 1) : HRep (goneM ⟨h.rules, h.now, h.turn, h.parties, modC h.cabins p.cabin (rowCut p.id), h.todo, h.jobs⟩ p) := by
  have g := hp.pr hm
  have gs := g.size; have gc := g.cab; have gf := g.frm; have gn := g.ne
  refine hp.gone hm rfl rfl rfl rfl ?_ rfl rfl fun k c c' hc hc' hl hh ht => ?_
  · unfold goneM
    dsimp only
    split <;> simp only [modC_len]
  · have h1 : (modC h.cabins p.cabin (rowCut p.id))[k]? = some (if p.cabin = (k : Int) then rowCut p.id c else c) := modC_at gc.1 hc
    have h2 : c' = if p.from' = (k : Int) then seatsC (lUntie · p.size) (if p.cabin = (k : Int) then rowCut p.id c else c) else (if p.cabin = (k : Int) then rowCut p.id c else c) := by
      unfold goneM at hc'
      dsimp only at hc'
      split at hc'
      · rename_i hneg
        rw [if_neg (by omega)]
        rw [h1] at hc'; injection hc' with hc'; exact hc'.symm
      · rw [modC_at (by omega) h1] at hc'; injection hc' with hc'; exact hc'.symm
    rw [h2, heldW_no (fun w => by omega), if_neg (c := p.state = 2 ∧ p.cabin = (k : Int)) (fun w => by omega)]
    by_cases hk : p.cabin = (k : Int)
    · have hf : ¬ p.from' = (k : Int) := by omega
      rw [if_pos hk, if_neg hf, if_pos ⟨hs, hk⟩, tiedW_no hf]
      exact ⟨rfl, rfl, hl, rfl, by simp [rowCut], by simp [rowCut]⟩
    · rw [if_neg hk, if_neg (c := p.state = 1 ∧ p.cabin = (k : Int)) (fun w => hk w.2)]
      by_cases hf : p.from' = (k : Int)
      · rw [if_pos hf, tiedW_yes hf]
        rw [tiedW_yes hf] at ht
        obtain ⟨e1, e2⟩ := hl.untie (n := p.size) (by omega) ht
        unfold seatsC
        dsimp only
        rw [e1]
        exact ⟨rfl, rfl, e2, rfl, by dsimp only; omega, rfl⟩
      · rw [if_neg hf, tiedW_no hf]
        exact ⟨rfl, rfl, hl, rfl, by omega, by omega⟩
theorem cancel_hp {h : House} {p : Party} (hp : HRep h) (hm : p ∈ h.parties) : HRep (cancelM h p) := by
  have g := hp.pr hm
  have gc := g.cab; have hl := hp.cabs; have gst := g.st
  unfold cancelM
  split
  · rename_i hs
    have h1 := goneDrop_hp hp hm hs
    have h2 : goneM (withTodo (dropM h p) (todoPut h.todo p.cabin)) p = withTodo (goneM (dropM h p) p) (todoPut (goneM (dropM h p) p).todo p.cabin) := rfl
    rw [h2]
    refine h1.todo gc.1 ?_
    have : (goneM (dropM h p) p).cabins.length = h.cabins.length := by
      unfold goneM dropM
      dsimp only
      split <;> simp only [modC_len]
    omega
  · exact goneCut_hp hp hm (by omega)
theorem decline_hp {h : House} {p : Party} (hp : HRep h) (hm : p ∈ h.parties) (hs : p.state = 2) : HRep (declineM h p) := by
  have g := hp.pr hm
  have gc := g.cab; have hl := hp.cabs
  obtain ⟨_, _, _, _, _, h6⟩ := fails_same (h := h) (p := p)
  exact (fails_hp hp hm hs).todo gc.1 (by omega)
theorem looseAt_of {h : House} {k : Int} {c : Cabin} (hp : HRep h) (hc : h.cabins[k.toNat]? = some c) : looseAt h k = c.seats.sold - c.seats.tied := by
  have hlp := ledgerOk_iff.1 (hp.cab _ c hc).2.1.led
  have a1 := hlp.total; have a2 := hlp.free; have a3 := hlp.held; have a4 := hlp.sold; have a5 := hlp.sum; have a6 := hlp.tied
  simp only [looseAt, hc]
  exact wr_of (by omega) (by omega)
theorem count_cnt {h : House} (hp : HRep h) (k : Int) : countGo h.parties k 0 = (cnt h.parties k : Nat) := by
  have := hp.len
  rw [countGo_cnt k h.parties 0 (by omega) (by omega)]; omega
structure JoinV (h : House) (q : Req) : Prop where
  cab : 0 ≤ q.cabin ∧ q.cabin < (h.cabins.length : Int)
  frm : -1 ≤ q.from' ∧ q.from' < (h.cabins.length : Int)
  ne : q.from' ≠ q.cabin
  size : 1 ≤ q.size ∧ q.size ≤ h.rules.size
  tier : 0 ≤ q.tier ∧ q.tier < h.rules.tiers
  id : 1 ≤ q.id ∧ q.id ≤ 999
  no : atId h.parties q.id < 0
  full : (cnt h.parties q.cabin : Int) < h.rules.room
  tied : ∀ c, 0 ≤ q.from' → h.cabins[q.from'.toNat]? = some c → q.size ≤ c.seats.sold - c.seats.tied
  turn : h.turn ≤ 1000000
theorem joinV {h : House} {q : Req} (v : VOk h q) (hk : q.kind = 1) : JoinV h q := by
  have hv := v.v
  obtain ⟨_, r2, r3, r4, r5, r6⟩ := reqOk_form v.ok
  unfold vKind at hv
  rw [if_pos hk] at hv
  unfold vJoin at hv
  rw [count_cnt v.hp] at hv
  have hrr := rr_of v.hp.rules
  simp only [inB, Bool.and_eq_false_iff, decide_eq_false_iff_not] at hv
  repeat' (split at hv; omega)
  rename_i h1 h2 h3 h4 h5 h6 h7 h8
  refine ⟨by omega, by omega, by omega, by omega, by omega, by omega, by omega, by omega, fun c h0 hc => ?_, by omega⟩
  rw [← looseAt_of v.hp hc]
  omega
theorem join_hp {h : House} {q : Req} (hp : HRep h) (v : JoinV h q) : HRep (joinM h q) := by
  have hrr := rr_of hp.rules
  have hcb := hp.cabs; have hn := hp.now; have ht := hp.turn
  have v1 := v.cab; have v2 := v.frm; have v3 := v.ne; have v4 := v.size; have v5 := v.tier; have v6 := v.id; have v7 := v.full; have v8 := v.turn
  have r1 := hrr.size; have r2 := hrr.tries; have r3 := hrr.rest
  have e0 : wr (h.turn + 1) = h.turn + 1 := wr_of (by omega) (by omega)
  have hq : PR h.rules h.now (joinP h q) := ⟨by dsimp only [joinP]; omega, by dsimp only [joinP]; omega, by dsimp only [joinP]; omega, by dsimp only [joinP]; omega, by dsimp only [joinP]; omega, by dsimp only [joinP]; omega, by dsimp only [joinP]; omega, by dsimp only [joinP]; omega, by dsimp only [joinP]; omega, by dsimp only [joinP]; omega, .inl (by dsimp only [joinP]; omega)⟩
  have hlen : (partyPut h.parties (joinP h q)).length ≤ 40 := by
    have h1 := cnt_all h.rules.room.toNat h.rules.seats.length (partyPut h.parties (joinP h q)) (fun p hpm => by
      rw [partyPut_new v.no, insL_iff] at hpm
      rcases hpm with rfl | hpm
      · exact ⟨v1.1, by dsimp only [joinP]; omega⟩
      · exact (hp.pr hpm).cab) (fun k hk => by
      obtain ⟨c, hck⟩ : ∃ c, h.cabins[k]? = some c := ⟨_, List.getElem?_eq_getElem (by omega)⟩
      have h9 := (hp.cab k c hck).2.2
      rw [partyPut_new v.no, cnt_perm (insL_perm _ _), cnt_cons]
      split
      · rename_i he
        have : (joinP h q).cabin = q.cabin := rfl
        rw [← he, this] at h9 ⊢
        omega
      · omega)
    have r4 := hrr.room; have r5 := hrr.seats
    have : h.rules.room.toNat * h.rules.seats.length ≤ 10 * 4 := Nat.mul_le_mul (by omega) (by omega)
    omega
  have h1 : HRep ⟨h.rules, h.now, wr (h.turn + 1), partyPut h.parties (joinP h q),
      if q.from' < 0 then modC h.cabins q.cabin (rowPut (entryOf h.rules (joinP h q) h.now)) else modC (modC h.cabins q.cabin (rowPut (entryOf h.rules (joinP h q) h.now))) q.from' (seatsC (lTie · q.size)), h.todo, h.jobs⟩ := by
    refine hp.join (q := joinP h q) hq v.no rfl rfl rfl v.full rfl rfl e0 rfl (by dsimp only; split <;> simp only [modC_len]) rfl rfl hlen fun k c c' hc hc' hl => ?_
    dsimp only at hc'
    have g1 : (modC h.cabins q.cabin (rowPut (entryOf h.rules (joinP h q) h.now)))[k]? = some (if q.cabin = (k : Int) then rowPut (entryOf h.rules (joinP h q) h.now) c else c) := modC_at v1.1 hc
    have g2 : c' = if q.from' = (k : Int) then seatsC (lTie · q.size) (if q.cabin = (k : Int) then rowPut (entryOf h.rules (joinP h q) h.now) c else c) else (if q.cabin = (k : Int) then rowPut (entryOf h.rules (joinP h q) h.now) c else c) := by
      split at hc'
      · rename_i hneg
        rw [if_neg (by omega)]
        rw [g1] at hc'; injection hc' with hc'; exact hc'.symm
      · rw [modC_at (by omega) g1] at hc'; injection hc' with hc'; exact hc'.symm
    have k1 : (joinP h q).cabin = q.cabin := rfl
    have k2 : (joinP h q).from' = q.from' := rfl
    have k3 : (joinP h q).size = q.size := rfl
    rw [g2, k1]
    by_cases hk : q.cabin = (k : Int)
    · rw [if_pos hk, if_neg (by omega), if_pos hk, tiedW_no (by rw [k2]; omega)]
      exact ⟨rfl, rfl, hl, rfl, rfl, by simp [rowPut]⟩
    · rw [if_neg hk, if_neg hk]
      by_cases hf : q.from' = (k : Int)
      · rw [if_pos hf, tiedW_yes (by rw [k2]; exact hf), k3]
        have ht := v.tied c (by omega) (by rw [hf]; simpa using hc)
        obtain ⟨e1, e2⟩ := hl.tie (n := q.size) (by omega) ht
        unfold seatsC
        dsimp only
        rw [e1]
        exact ⟨rfl, rfl, e2, rfl, rfl, rfl⟩
      · rw [if_neg hf, tiedW_no (by rw [k2]; exact hf)]
        exact ⟨rfl, rfl, hl, rfl, rfl, by omega⟩
  refine h1.todo v1.1 ?_
  dsimp only
  split <;> simp only [modC_len] <;> omega
/-! ### Ticks -/
theorem tickC_len (h : House) (k : Nat) : ∀ (l : List Cabin) (i : Nat), (tickC h k i l).length = l.length
  | [], _ => rfl
  | c :: cs, i => by simp [tickC, tickC_len h k cs]
theorem tickC_at (h : House) (k : Nat) : ∀ (l : List Cabin) (i j : Nat) (c : Cabin), l[j]? = some c → (tickC h k i l)[j]? = some (if i + j < k then ⟨c.seats, queueOf h.rules h.parties ((i + j : Nat) : Int) (wr (h.now + 1)), c.wheel⟩ else c)
  | [], _, j, c, hc => by simp at hc
  | d :: cs, i, 0, c, hc => by
    simp at hc; subst hc
    simp [tickC]
  | d :: cs, i, j + 1, c, hc => by
    have := tickC_at h k cs (i + 1) j c (by simpa using hc)
    rw [show i + 1 + j = i + (j + 1) by omega] at this
    simpa [tickC] using this
theorem tickC_step (h : House) (k : Nat) : ∀ (l : List Cabin) (i : Nat), tickC h (i + k + 1) i l = modC (tickC h (i + k) i l) k (fun c => ⟨c.seats, queueOf h.rules h.parties ((i + k : Nat) : Int) (wr (h.now + 1)), c.wheel⟩) := by
  intro l i
  refine List.ext_getElem? fun j => ?_
  cases hj : l[j]? with
  | none =>
    have hle := List.getElem?_eq_none_iff.1 hj
    rw [List.getElem?_eq_none (by rw [tickC_len]; exact hle), List.getElem?_eq_none (by rw [modC_len, tickC_len]; exact hle)]
  | some c =>
    rw [tickC_at h _ l i j c hj, modC_at (by omega) (tickC_at h _ l i j c hj)]
    by_cases hjk : (k : Int) = (j : Int)
    · have : k = j := by omega
      subst this
      rw [if_pos (by omega), if_pos rfl, if_neg (by omega)]
    · rw [if_neg hjk]
      by_cases h1 : i + j < i + k
      · rw [if_pos (by omega), if_pos h1]
      · rw [if_neg (by omega), if_neg h1]
theorem tickT_ok {ps : List Party} {n : Int} : ∀ (k : Nat) {l : List Int}, (k : Int) ≤ n → (∀ x ∈ l, 0 ≤ x ∧ x < n) → l.Nodup → (∀ x ∈ tickT ps k l, 0 ≤ x ∧ x < n) ∧ (tickT ps k l).Nodup
  | 0, l, _, h1, h2 => ⟨h1, h2⟩
  | k + 1, l, hk, h1, h2 => by
    have ih := tickT_ok (ps := ps) k (l := l) (by omega) h1 h2
    unfold tickT
    split
    · unfold todoPut
      split
      · exact ih
      · rename_i hn
        refine ⟨fun x hx => ?_, List.nodup_append.2 ⟨ih.2, by simp, fun a ha b hb he => hn ?_⟩⟩
        · rcases List.mem_append.1 hx with hx | hx
          · exact ih.1 x hx
          · rw [List.mem_singleton.1 hx]; omega
        · rw [List.mem_singleton.1 hb] at he
          exact List.any_eq_true.2 ⟨a, ha, by simpa using he⟩
    · exact ih
theorem tick_hp {h : House} (hp : HRep h) (hn : h.now < 1000000) : HRep (tickM h) := by
  have hw := hp.now
  have hrr := rr_of hp.rules
  have e1 : wr (h.now + 1) = h.now + 1 := wr_of (by omega) (by omega)
  have hseat := hrr.seats; have hcb := hp.cabs
  have hpok : ∀ p ∈ h.parties, PR h.rules (h.now + 1) p := fun p hm => by
    have g := hp.pr hm
    have g1 := g.since; have g2 := g.st
    exact ⟨g.id0, g.id1, g.cab, g.frm, g.ne, g.size, g.tier, by omega, g.turn, g.asked, by omega⟩
  have hpps : PPs (tickM h) := ⟨fun p hm => ⟨partyOk_iff.2 ⟨hp.rules, by show 0 ≤ wr (h.now + 1) ∧ wr (h.now + 1) ≤ 1000000; omega, by show PR h.rules (wr (h.now + 1)) p; rw [e1]; exact hpok p hm⟩, (hp.pps.ok p hm).2⟩, hp.pps.ids, hp.pps.kk⟩
  have hj := JobsP.iff.1 hp.jobs
  have hwl : wr ((h.cabins.length : Int) - 1) = (h.cabins.length : Int) - 1 := wr_of (by omega) (by omega)
  have hlen : (tickM h).cabins.length = h.cabins.length := tickC_len _ _ _ _
  refine ⟨hp.rules, by show 0 ≤ wr (h.now + 1) ∧ wr (h.now + 1) ≤ 1000000; omega, hp.turn, hp.len, hlen.trans hp.cabs, hpps, ?_, fun k c' hc' => ?_⟩
  · have h2 := tickT_ok (ps := h.parties) (n := (h.cabins.length : Int)) h.cabins.length (l := h.todo) (by omega) (fun x hx => by
      have := hj.1 x hx
      rw [hwl] at this
      simp only [inB, Bool.and_eq_true, decide_eq_true_eq] at this; omega) hj.2.1
    refine JobsP.iff.2 ⟨fun x hx => ?_, h2.2, fun x hx => ?_, hj.2.2.2⟩
    · rw [hlen, hwl]
      have := h2.1 x hx
      simp only [inB, Bool.and_eq_true, decide_eq_true_eq]; omega
    · rw [hlen]; exact hj.2.2.1 x hx
  · have hlt : k < h.cabins.length := by have := (List.getElem?_eq_some_iff.1 hc').1; omega
    have hc := List.getElem?_eq_getElem hlt
    have h3 := tickC_at h h.cabins.length h.cabins 0 k _ hc
    rw [Nat.zero_add, if_pos hlt] at h3
    have h4 : (tickM h).cabins[k]? = some _ := h3
    rw [h4] at hc'
    injection hc' with hc'
    subst hc'
    obtain ⟨g1, g2, g3⟩ := hp.cab k _ hc
    refine ⟨g1, rep_of g2.led ?_ g2.whR g2.held g2.tied, g3⟩
    exact ⟨queueOf_ss hp.good.turns, fun e => queueOf_iff⟩
/-! ### Picks -/
theorem job_rng {h : House} (hp : HRep h) {k : Int} (h0 : 0 ≤ k) (h1 : k < h.rules.crew) : h.jobs[k.toNat]? = some (jobAt h k) ∧ -1 ≤ jobAt h k ∧ jobAt h k < (h.cabins.length : Int) := by
  have hj := JobsP.iff.1 hp.jobs
  have hs := (rr_of hp.rules).seats; have hcb := hp.cabs
  have hl := hj.2.2.2
  obtain ⟨j, hjk⟩ : ∃ j, h.jobs[k.toNat]? = some j := ⟨_, List.getElem?_eq_getElem (by omega)⟩
  have h2 := hj.2.2.1 j (List.mem_of_getElem? hjk)
  rw [wr_of (by omega) (by omega)] at h2
  simp only [inB, Bool.and_eq_true, decide_eq_true_eq] at h2
  simp only [jobAt, hjk]
  exact ⟨trivial, by omega, by omega⟩
theorem HRep.setJobs {h : House} (hp : HRep h) {l m : List Int} (hl : ∀ x ∈ l, x ∈ h.todo) (hd : l.Nodup) (hm : ∀ x ∈ m, -1 ≤ x ∧ x < (h.cabins.length : Int)) (hlen : m.length = h.jobs.length) : HRep (withJobs h l m) := by
  refine hp.jobs' rfl rfl rfl rfl rfl ?_
  have hj := JobsP.iff.1 hp.jobs
  have hs := (rr_of hp.rules).seats; have hcb := hp.cabs
  refine JobsP.iff.2 ⟨fun x hx => hj.1 x (hl x hx), hd, fun x hx => ?_, by show (m.length : Int) = _; rw [hlen]; exact hj.2.2.2⟩
  have := hm x hx
  show inB x (-1) (wr ((h.cabins.length : Int) - 1)) = true
  rw [wr_of (by omega) (by omega)]
  simp only [inB, Bool.and_eq_true, decide_eq_true_eq]; omega
theorem HRep.jobRng {h : House} (hp : HRep h) {x : Int} (hx : x ∈ h.jobs) : -1 ≤ x ∧ x < (h.cabins.length : Int) := by
  have hs := (rr_of hp.rules).seats; have hcb := hp.cabs
  have h2 := (JobsP.iff.1 hp.jobs).2.2.1 x hx
  rw [wr_of (by omega) (by omega)] at h2
  simp only [inB, Bool.and_eq_true, decide_eq_true_eq] at h2
  omega
theorem HRep.todoRng {h : House} (hp : HRep h) {x : Int} (hx : x ∈ h.todo) : 0 ≤ x ∧ x < (h.cabins.length : Int) := by
  have hs := (rr_of hp.rules).seats; have hcb := hp.cabs
  have h2 := (JobsP.iff.1 hp.jobs).1 x hx
  rw [wr_of (by omega) (by omega)] at h2
  simp only [inB, Bool.and_eq_true, decide_eq_true_eq] at h2
  omega
theorem set_mem' {l : List Int} {k : Nat} {y x : Int} (h : x ∈ l.set k y) : x = y ∨ x ∈ l := by
  rcases List.mem_or_eq_of_mem_set h with h | h
  · exact .inr h
  · exact .inl h
theorem scan_hp {h : House} {cabin : Int} (hp : HRep h) (h0 : 0 ≤ cabin) (h1 : cabin < (h.cabins.length : Int)) : HRep (scan h cabin).1 ∧ (scan h cabin).1.cabins.length = h.cabins.length ∧ (scan h cabin).1.rules = h.rules ∧ (scan h cabin).1.now = h.now ∧ (scan h cabin).1.todo = h.todo ∧ (scan h cabin).1.jobs = h.jobs := by
  have hb := hasCab_mk hp h0 h1
  obtain ⟨e1, e2⟩ := expire_hp hb
  obtain ⟨b1, b2, b3, b4, b5, b6⟩ := expireGo_same (dueIds h cabin) h
  unfold scan
  rw [if_pos hb]
  obtain ⟨a1, a2, a3, a4, a5, a6⟩ := scanGo_hp (waits (expireM h cabin).parties) (expireM h cabin) cabin e1
  exact ⟨a1, a2.trans b6, a3.trans b1, a4.trans b2, a5.trans b4, a6.trans b5⟩
theorem pick_hp {h : House} {who : Int} (hp : HRep h) (h0 : 0 ≤ who) (h1 : who < h.rules.crew) (h2 : ¬ (jobAt h who < 0 ∧ h.todo.length = 0)) : HRep (pickM h who).1 := by
  obtain ⟨j1, j2, j3⟩ := job_rng hp h0 h1
  have hj := JobsP.iff.1 hp.jobs
  unfold pickM
  split
  · rename_i hneg
    cases ht : h.todo with
    | nil => exact absurd ⟨hneg, by rw [ht]; rfl⟩ h2
    | cons t ts =>
      dsimp only
      refine hp.setJobs (fun x hx => by rw [ht]; exact List.mem_cons_of_mem _ hx) (by rw [ht] at hj; exact (List.nodup_cons.1 hj.2.1).2) (fun x hx => ?_) (by simp)
      rcases set_mem' hx with hx | hx
      · have := hp.todoRng (x := t) (by rw [ht]; simp)
        have e : x = t := hx
        rw [e]; omega
      · exact hp.jobRng hx
  · obtain ⟨a1, a2, a3, a4, a5, a6⟩ := scan_hp hp (show 0 ≤ jobAt h who by omega) j3
    have hs := (rr_of hp.rules).seats; have hcb := hp.cabs
    refine a1.setJobs (fun x hx => hx) (JobsP.iff.1 a1.jobs).2.1 (fun x hx => ?_) (by simp)
    rcases set_mem' hx with rfl | hx
    · omega
    · exact a1.jobRng hx
/-! ### All requests -/
theorem vAns_ok {h : House} {id : Int} (hp : HRep h) (hv : vAns h id = 0) : partyOf h.parties id ∈ h.parties ∧ (partyOf h.parties id).id = id ∧ (partyOf h.parties id).state = 2 ∧ h.now < (partyOf h.parties id).until' := by
  unfold vAns at hv
  split at hv
  · omega
  · rename_i h1
    split at hv
    · omega
    · rename_i h2
      split at hv
      · omega
      · rename_i h3
        obtain ⟨a, b⟩ := partyOf_in h1
        have h4 : (partyOf h.parties id).state = 2 := by omega
        refine ⟨a, b, h4, ?_⟩
        simp [dueB, h4] at h3
        omega
theorem done_hp {h : House} {q : Req} (v : VOk h q) : HRep (doneM h q) := by
  have hp := v.hp
  have hv := v.v
  have hk := v.kind
  obtain ⟨r1, r2, r3, r4, r5, r6⟩ := reqOk_form v.ok
  unfold doneM
  split
  · rename_i h1; exact join_hp hp (joinV v h1)
  · rename_i h1
    unfold vKind at hv
    rw [if_neg h1] at hv
    split
    · rename_i h2
      rw [if_pos h2] at hv
      split at hv
      · omega
      · rename_i h3; exact cancel_hp hp (partyOf_in h3).1
    · rename_i h2
      rw [if_neg h2] at hv
      split
      · rename_i h3
        rw [if_pos h3] at hv
        unfold vFree at hv
        split at hv
        · omega
        · rename_i g1
          split at hv
          · omega
          · rename_i g2
            split at hv
            · omega
            · rename_i g3
              obtain ⟨c, hc⟩ : ∃ c, h.cabins[q.cabin.toNat]? = some c := ⟨_, List.getElem?_eq_getElem (by omega)⟩
              rw [looseAt_of hp hc] at g3
              simp only [Bool.not_eq_false, inB, Bool.and_eq_true, decide_eq_true_eq] at g2
              exact free_hp hp r3.1 hc (by omega) (by omega)
      · rename_i h3
        rw [if_neg h3] at hv
        split
        · rename_i h4
          rw [if_pos (.inl h4)] at hv
          obtain ⟨a, b, c, d⟩ := vAns_ok hp hv
          exact accept_hp hp a c
        · rename_i h4
          split
          · rename_i h5
            rw [if_pos (.inr h5)] at hv
            obtain ⟨a, b, c, d⟩ := vAns_ok hp hv
            exact decline_hp hp a c
          · rename_i h5
            rw [if_neg (by omega)] at hv
            split
            · rename_i h6
              rw [if_pos h6] at hv
              split at hv
              · omega
              · exact tick_hp hp (by omega)
            · rename_i h6
              rw [if_neg h6] at hv
              unfold vPick at hv
              split at hv
              · omega
              · split at hv
                · omega
                · rename_i g1 g2
                  exact pick_hp hp r2.1 (by omega) g2
theorem do_hp {h : House} {q : Req} (hp : HRep h) : HRep (doM h q) := by
  unfold doM
  split
  · rename_i h0; exact done_hp (verdict_ok h0)
  · exact hp
end SX
end Go.Proofs.YtapbooddmdkgjaaGreat
/- Short names for what the printed walks say often. It imports no program. -/
namespace Go.Proofs.YtapbooddmdkgjaaGreat
namespace SX
set_option linter.unusedVariables false
set_option linter.unusedSimpArgs false
open Go Go.RowKit
/-! ### Tactics that prove a side goal -/
theorem KR {p : Prop} (h : p := by kernel_rfl) : p := h
theorem LQ {p : Prop} (h : p := by first | omega | (simp only [List.length_append, List.length_cons, List.length_nil, List.length_take, List.length_drop] at *; omega)) : p := h
theorem LM {p : Prop} (h : p := by simp only [maxLen]; first | omega | (simp only [List.length_append, List.length_cons, List.length_nil, List.length_take, List.length_drop] at *; omega)) : p := h
theorem LD {p : Prop} (h : p := by first | omega | (dsimp only; omega)) : p := h
theorem LO {p : Prop} (h : p := by omega) : p := h
theorem LF {p : Prop} (h : p := by simp only [maxLen]; omega) : p := h
/-! ### Cells -/
@[reducible] def rC (x : Rules) (a : Option Addr) (c : Nat) : List Value := [.slice a x.seats.length c, vi x.tiers, vi x.room, vi x.size, vi x.period, vi x.window, vi x.rest, vi x.tries, vi x.crew]
@[reducible] def caC (x : Cabin) (a1 : Option Addr) (c1 : Nat) (a2 : Option Addr) (c2 : Nat) : List Value := [vi x.seats.total, vi x.seats.free, vi x.seats.held, vi x.seats.sold, vi x.seats.tied, .slice a1 x.row.length c1, .slice a2 x.wheel.spoke.length c2]
@[reducible] def paC (x : Party) : List Value := [vi x.id, vi x.cabin, vi x.from', vi x.size, vi x.tier, vi x.since, vi x.turn, vi x.state, vi x.until', vi x.asked]
@[reducible] def paZ : List Value := [vi 0, vi 0, vi 0, vi 0, vi 0, vi 0, vi 0, vi 0, vi 0, vi 0]
@[reducible] def leC (x : Ledger) : List Value := [vi x.total, vi x.free, vi x.held, vi x.sold, vi x.tied]
/-! ### Rules -/
section
variable {P : Program} {N : Nat} {W : World} {S0 : List Nat} {Q : Exit → Go.Act → World → Prop} {T : Tm} {L : Bx} {C C0 : List Ass} {ops : Array Oper}
theorem CX {i : Nat} {K : Go.Act → World → Prop} {f : FuncId} {vs : Array Value} {r : Res} (d : Nat) (hcon : ∀ w, At W S0 C w → Spec P w [] f vs r) (k : ∀ x : r.ι, G N W S0 K (putd (some d) (.v (r.val x)) T) L (C ++ r.own x))
    (hc : callOf P ops T i = some (f, vs, some d) := by kernel_rfl) (hd : ∀ k, some d = some k → k < N := by exact NO rfl) : OP P N W S0 ops Q i K T L C := CA f vs (some d) r hcon k hc hd
theorem CY {i : Nat} {K : Go.Act → World → Prop} {f : FuncId} {vs : Array Value} {r : Res} {pre R : List Ass} (d : Nat) (js : List Nat) (hcon : ∀ w, At W S0 C w → Spec P w pre f vs r) (hp : pulls js C = some (pre, R)) (k : ∀ x : r.ι, G N W S0 K (putd (some d) (.v (r.val x)) T) L (R ++ r.own x))
    (hc : callOf P ops T i = some (f, vs, some d) := by kernel_rfl) (hd : ∀ k, some d = some k → k < N := by exact NO rfl) : OP P N W S0 ops Q i K T L C := CALL f vs (some d) hc js pre R hp r hcon hd k
theorem QX {i : Nat} {f : FuncId} {vs : Array Value} {v : Value} (d : Nat) (hcon : ∀ w, At W S0 C w → Spec P w [] f vs (RV v)) (k : QO P N W S0 ops Q (i + 1) (putd (some d) (.v v) T) L C)
    (hc : callOf P ops T i = some (f, vs, some d) := by kernel_rfl) (hd : ∀ k, some d = some k → k < N := by exact NO rfl) : QO P N W S0 ops Q i T L C := QCA f vs (some d) v hcon k hc hd
theorem HW {fuel : Nat} {listed : Array Bool} (js : List Nat) (k : H P N W S0 ops Q C0 fuel listed T L C) (hC : (pulls js C).map (·.1) = some C0 := by rfl) : G N W S0 (HN P W S0 ops Q C0 fuel listed) T L C := HKEEP hC k
theorem HK {fuel : Nat} {listed : Array Bool} (js rs : List Nat) (k : AllOf (fun i => OP P N W S0 ops (nQ Q) i (HN P W S0 ops Q C0 fuel (listed.setIfInBounds i true)) T L C) rs) (hC : (pulls js C).map (·.1) = some C0 := by rfl) (hr : Region.ready .any ops listed = rs := by kernel_rfl) (hne : rs ≠ [] := by decide) :
    G N W S0 (HN P W S0 ops Q C0 (fuel + 1) listed) T L C := HKEEP hC (HALL rs hr hne k)
theorem HDz {fuel : Nat} {listed : Array Bool} (k : DONE N W S0 Q .normal T L C) (hr : Region.ready .any ops listed = [] := by kernel_rfl) : H P N W S0 ops Q C0 fuel listed T L C := HEND hr k
theorem XN {y : Code} {Q' : Exit → Go.Act → World → Prop} {is : List Nat} (k : CODE P N W S0 y Q T L C) (h : is = [] := by rfl) : OPS P N W S0 ops (Exit.then (y.wp P Q) Q') is T L C := by subst h; exact ENDOPS (NEXT k)
theorem XF {fn : Func} {r : Res} {Q' : Exit → Go.Act → World → Prop} {is : List Nat} (hq : Q .ret = bodyPost P fn (RetM S0 r W) .ret) (v : Value) (x : r.ι) (js : List Nat) (hx : v = r.val x) (hp : (pulls js C).map (·.1) = some (r.own x) := by rfl) (hv : resOf fn P T L = some v := by kernel_rfl) (h : is = [] := by rfl) :
    OPS P N W S0 ops (Exit.then (Code.wp P .ret Q) Q') is T L C := by subst h; exact ENDOPS (NEXT (RF hq v x js hx hp hv))
theorem RB {fn : Func} {val : Unit → Value} {Q' : Exit → Go.Act → World → Prop} {is : List Nat} (hq : Q .ret = bodyPost P fn (RetM S0 ⟨Unit, val, fun _ => []⟩ W) .ret) (d : Nat) (b : Bool) (hx : .bool b = val ()) (hr : runD P N ops 1 is T L [d] = some ([(d, B b)], L) := by kernel_rfl)
    (hv : resOf fn P ((d, B b) :: T) L = some (.bool b) := by kernel_rfl) (h : is.drop 1 = [] := by rfl) :
    OPS P N W S0 ops (Exit.then (Code.wp P .ret Q) Q') is T L C := RUL 1 _ [(d, B b)] L hr rfl (XF (r := ⟨Unit, val, fun _ => []⟩) hq (.bool b) () [] hx rfl hv h)
theorem XK {y : Code} {Q' : Exit → Go.Act → World → Prop} (k : CODE P N W S0 y Q T L C) : CODE P N W S0 .skip (Exit.then (y.wp P Q) Q') T L C := SKIP (NEXT k)
theorem XG {id : Nat} {y : Code} (k : OPS P N W S0 ops (Exit.then (y.wp P Q) Q) (List.range ops.size) T L C) : CODE P N W S0 (.seq (.region id ops false) y) Q T L C := SEQ (RG k)
theorem XI {x : Operand} {c d : Code} (k : CODE P N W S0 c Q T L C) (hx : evv T x = some (.bool true) := by kernel_rfl) : CODE P N W S0 (.cond x c d) Q T L C := IFT hx k
end
theorem dT {p X : Prop} [Decidable p] (f : p → decide p = true → X) (h : decide p = true) : X := f (of_decide_eq_true h) h
theorem dF {p X : Prop} [Decidable p] (f : ¬ p → decide p = false → X) (h : decide p = false) : X := f (of_decide_eq_false h) h
theorem aT {a b X : Prop} (g : a → b) (f : b → a → X) (h : a) : X := f (g h) h
theorem VC {x : Int} {n : Nat} (h : x = n := by omega) (h1 : n ≤ 9223372036854775807 := by omega) : vi (wr x) = vi (n : Int) := vi_cast h h1
end SX
end Go.Proofs.YtapbooddmdkgjaaGreat
/- All offers that are accepted, in plain Lean. It imports no program. -/
namespace Go.Proofs.YtapbooddmdkgjaaGreat
namespace SX
set_option linter.unusedVariables false
set_option linter.unusedSimpArgs false
open Go Go.RowKit
theorem accM_no {h : House} {p : Party} {id : Int} {c : Cabin} (hx : h.cabins[p.cabin.toNat]? = some c) (hf : p.from' < 0) (hid : p.id = id) : acceptM h p = ⟨h.rules, h.now, h.turn, partyCut h.parties id, h.cabins.set p.cabin.toNat ⟨lSell c.seats p.size, c.row, wheelCut c.wheel ⟨p.until', id⟩⟩, h.todo, h.jobs⟩ := by
  subst hid
  unfold acceptM
  rw [if_pos hf]
  unfold goneM soldM
  rw [modC_of _ hx, if_pos hf]; rfl
theorem accM_fr {h : House} {p : Party} {id : Int} {c y : Cabin} (hx : h.cabins[p.cabin.toNat]? = some c) (hf : ¬ p.from' < 0) (hy : (h.cabins.set p.cabin.toNat ⟨lSell c.seats p.size, c.row, wheelCut c.wheel ⟨p.until', id⟩⟩)[p.from'.toNat]? = some y) (hid : p.id = id) : acceptM h p = ⟨h.rules, h.now, h.turn, partyCut h.parties id, (h.cabins.set p.cabin.toNat ⟨lSell c.seats p.size, c.row, wheelCut c.wheel ⟨p.until', id⟩⟩).set p.from'.toNat ⟨lFree (lUntie y.seats p.size) p.size, y.row, y.wheel⟩, todoPut h.todo p.from', h.jobs⟩ := by
  subst hid
  unfold acceptM
  rw [if_neg hf]
  unfold freeM goneM soldM
  dsimp only
  rw [modC_of _ hx, if_neg hf]
  rw [modC_modC]
  show (House.mk _ _ _ _ (modC (h.cabins.set p.cabin.toNat ⟨lSell c.seats p.size, c.row, wheelCut c.wheel ⟨p.until', p.id⟩⟩) p.from' _) _ _) = _
  rw [modC_of _ hy]; rfl
/-- all offers that are not due are accepted -/
noncomputable def accStep (now : Int) (x : House) (p : Party) : House := if p.state == 2 && !dueB p now then doM x ⟨4, p.id, 0, 0, 0, 0⟩ else x
noncomputable def accGo (now : Int) (ps : List Party) (x : House) : House := ps.foldl (accStep now) x
def accIds (now : Int) (ps : List Party) : List Int := (ps.filter fun p => p.state == 2 && !dueB p now).map (·.id)
theorem accGo_snoc {now : Int} {ps : List Party} {x : House} {k : Nat} (h : k < ps.length) : accGo now (ps.take (k + 1)) x = accStep now (accGo now (ps.take k) x) ps[k] := by
  unfold accGo
  rw [List.take_succ_eq_append_getElem h, List.foldl_append]; rfl
theorem accIds_snoc {now : Int} {ps : List Party} {k : Nat} (h : k < ps.length) : accIds now (ps.take (k + 1)) = if (ps[k].state == 2 && !dueB ps[k] now) = true then accIds now (ps.take k) ++ [ps[k].id] else accIds now (ps.take k) := by
  unfold accIds
  rw [List.take_succ_eq_append_getElem h, List.filter_append, List.map_append]
  by_cases hc : (ps[k].state == 2 && !dueB ps[k] now) = true
  · rw [if_pos hc]; simp [List.filter_cons, hc]
  · rw [if_neg hc]; simp [List.filter_cons, hc]
theorem accGo_hp {now : Int} : ∀ {ps : List Party} {x : House}, HRep x → HRep (accGo now ps x)
  | [], x, h => h
  | p :: ps, x, h => by
    show HRep (accGo now ps (accStep now x p))
    refine accGo_hp ?_
    unfold accStep
    split
    · exact do_hp h
    · exact h
/-! ### A scan that is judged -/
/-! ### Rows that are marked -/
/-! ### All offers, all jobs, rounds -/
noncomputable def accAll (h : House) : House × List Int := if houseOk h then (accGo h.now h.parties h, accIds h.now h.parties) else (h, [])
def idleB (h : House) : Bool := h.jobs.all (fun j => decide (j < 0)) && decide (h.todo.length = 0)
/-- n turns, the first of them the i-th -/
noncomputable def drainGo : Nat → Int → House → House
  | 0, _, h => h
  | n + 1, i, h => if idleB h then h else drainGo n (i + 1) (doM h ⟨7, Int.tmod i h.rules.crew, 0, 0, 0, 0⟩)
noncomputable def drained (h : House) : House := if houseOk h then drainGo 60 0 h else h
noncomputable def roundM (h : House) : House := if verdict h ⟨6, 0, 0, 0, 0, 0⟩ = 0 then drained (doM h ⟨6, 0, 0, 0, 0, 0⟩) else h
noncomputable def settleGo : Nat → House → List Int → House × List Int
  | 0, h, l => (h, l)
  | n + 1, h, l => if (accAll (drained h)).2 = [] then ((accAll (drained h)).1, l) else settleGo n (accAll (drained h)).1 (l ++ (accAll (drained h)).2)
theorem drainGo_hp : ∀ {n : Nat} {i : Int} {h : House}, HRep h → HRep (drainGo n i h)
  | 0, _, _, hp => hp
  | n + 1, i, h, hp => by
    unfold drainGo
    split
    · exact hp
    · exact drainGo_hp (do_hp hp)
theorem drained_hp {h : House} (hp : HRep h) : HRep (drained h) := by
  unfold drained
  rw [if_pos hp.eq]
  exact drainGo_hp hp
theorem accAll_hp {h : House} (hp : HRep h) : HRep (accAll h).1 := by
  unfold accAll
  rw [if_pos hp.eq]
  exact accGo_hp hp
theorem settleGo_hp : ∀ {n : Nat} {h : House} {l : List Int}, HRep h → HRep (settleGo n h l).1
  | 0, _, _, hp => hp
  | n + 1, h, l, hp => by
    unfold settleGo
    split
    · exact accAll_hp (drained_hp hp)
    · exact settleGo_hp (accAll_hp (drained_hp hp))
end SX
end Go.Proofs.YtapbooddmdkgjaaGreat
/- From the form's reading of arguments to the logic's. It imports no program. -/
namespace Go.Proofs.YtapbooddmdkgjaaGreat
namespace SX
set_option linter.unusedVariables false
set_option linter.unusedSimpArgs false
open Go Go.RowKit Go.ChangeShapes Go.WideShapes Go.ChangeAt

/-- whatever reads at type t is laid out so, and is well formed so -/
def Opens (P : Program) (t : TypeId) {α : Type} (L : Lay α) (wf : α → Prop) : Prop :=
  ∀ (H : Type) (enc : TypeId × Value → H) (w : World) (base : Nat) (spare : Nat → Bool) (held : Bool) (fuel : Nat) (cs : List Value) (x : DataW H × List MemPlace),
    DataW.trod enc P w base spare held fuel t cs = some x → ∃ y f, L.rep false w cs y f ∧ wf y

theorem open_byte {P : Program} {t : TypeId} (ht : P.underlying t = some (.int .u8)) : Opens P t byteL (fun _ => True) := by
  intro H enc w base spare held fuel cs x h
  obtain ⟨n, rfl, _, hw⟩ := DataW.trod_int ht h
  have hb := bounds_u8 hw
  refine ⟨UInt8.ofNat n.toNat, [], ⟨?_, rfl⟩, trivial⟩
  have : ((UInt8.ofNat n.toNat).toNat : Int) = n := by
    rw [UInt8.toNat_ofNat']
    omega
  show [Value.int .u8 n] = [Value.int .u8 ((UInt8.ofNat n.toNat).toNat : Int)]
  rw [this]

theorem cell_spot {w : World} {a : Addr} {v : Value} (h : w.cell? a = some v) : a.spot = none ∧ a.block < w.heap.size := by
  refine ⟨?_, World.block_lt_of_cell? w a h⟩
  unfold World.cell? at h
  split at h
  · split at h
    · cases h
    · rename_i hs; simpa using hs
  · cases h

theorem open_sl {P : Program} {t e : TypeId} {α : Type} {L : Lay α} {wf : α → Prop} (e' : TypeId) (ho : Opens P e L wf) (ht : P.underlying t = some (.slice e)) (hc : P.cellsOf e = L.sz) (hp : 0 < L.sz) :
    Opens P t (sl e' L) (fun xs => ∀ x ∈ xs, wf x) := by
  intro H enc w base spare held fuel cs x h
  rcases DataW.trod_slice ht h with ⟨rfl, _⟩ | ⟨a, len, cap, elems, rest, n, _, rfl, _, hb, hl, hm, hlen, hel, _, _⟩
  · exact ⟨[], [], ⟨none, 0, rfl, by simp, by simp [maxLen], .inl ⟨rfl, rfl⟩⟩, by simp⟩
  · rw [hc] at hel
    -- each element
    have key : ∀ k, k ≤ len → ∃ (ys : List α) (cells : List Value) (g : List Nat), ys.length = k ∧ cellsRep L false w cells ys g ∧ (∀ j, j < cells.length → w.cell? (a.add (k * L.sz - cells.length + j)) = cells[j]?) ∧ (∀ y ∈ ys, wf y) := by
      intro k
      induction k with
      | zero => intro _; exact ⟨[], [], [], rfl, ⟨rfl, rfl⟩, by simp, by simp⟩
      | succ k ih =>
        intro hk
        obtain ⟨ys, cells, g, h1, h2, h3, h4⟩ := ih (by omega)
        have hk' := hel k (by omega)
        have hs : elems[k]? = some (elems[k]'(by omega)) := List.getElem?_eq_getElem (by omega)
        rw [hs] at hk'
        obtain ⟨cs', hcs, htr⟩ := Option.bind_eq_some_iff.1 hk'
        obtain ⟨_, hcl, hcell⟩ := World.cells?_some hcs
        obtain ⟨y, f, hr, hw⟩ := ho H enc w base spare held n cs' _ htr
        have hlen2 := h2.len
        refine ⟨ys ++ [y], cells ++ cs', g ++ f, by simp [h1], h2.append ⟨cs', [], f, [], by simp, by simp, hr, rfl, rfl⟩, ?_, ?_⟩
        · intro j hj
          have hzero : (k + 1) * L.sz - (cells ++ cs').length = 0 := by rw [List.length_append, hcl, hlen2, h1, Nat.add_mul]; omega
          rw [hzero, Nat.zero_add]
          rw [h1] at hlen2
          by_cases hjc : j < cells.length
          · have := h3 j hjc
            rw [hlen2, Nat.sub_self, Nat.zero_add] at this
            rw [this, List.getElem?_append_left hjc]
          · rw [List.getElem?_append_right (by omega)]
            rw [List.length_append, hcl] at hj
            have := hcell (j - cells.length) (by omega)
            rw [SX.add_add] at this
            rw [← this]
            congr 2
            rw [hlen2]
            rw [hlen2] at hjc
            omega
        · intro z hz
          rcases List.mem_append.1 hz with hz | hz
          · exact h4 z hz
          · simp at hz; subst hz; exact hw
    obtain ⟨ys, cells, g, h1, h2, h3, h4⟩ := key len (Nat.le_refl _)
    subst h1
    have hlen2 := h2.len
    simp only [hlen2, Nat.sub_self, Nat.zero_add] at h3
    cases ys with
    | nil => exact ⟨[], [], ⟨some a, cap, rfl, by simp, by simp [maxLen], .inl ⟨rfl, rfl⟩⟩, by simp⟩
    | cons y ys =>
      have hpos : 0 < cells.length := by rw [hlen2]; simp only [List.length_cons, Nat.add_mul]; omega
      have h0 := h3 0 (by omega)
      rw [List.getElem?_eq_getElem hpos] at h0
      obtain ⟨hs, hlt⟩ := cell_spot h0
      obtain ⟨b, o, sp⟩ := a
      simp [Addr.add] at hs hlt
      subst hs
      refine ⟨y :: ys, b :: g, ⟨some ⟨b, o, none⟩, cap, rfl, ?_⟩, h4⟩
      refine ⟨hl, by omega, .inr ⟨b, o, g, cells, rfl, hlt, rfl, h2, fun j hj => ?_⟩⟩
      rw [← h3 j (by omega), add_lit]

/-- what a law's walk says, in the form's words -/
theorem Spec.law {P : Program} {W : World} {f : FuncId} {vs : Array Value} (h : Spec P W [] f vs (RV (.bool true))) : Calls P f vs W fun e w' => e = .returned (.bool true) ∧ Below W.heap.size W w' := by
  refine (h [] trivial (by simp)).mono ?_
  rintro e w' ⟨x, nps, rfl, _, _, _, hfr⟩
  exact ⟨rfl, hfr.below⟩
end SX
end Go.Proofs.YtapbooddmdkgjaaGreat
