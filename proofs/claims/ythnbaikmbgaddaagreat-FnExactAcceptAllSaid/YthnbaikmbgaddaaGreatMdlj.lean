/- What requests do to a house, in plain Lean: they keep it right. It imports no program. -/
import Derived.Test.YthnbaikmbgaddaaGreatMdli
namespace Go.Proofs.YthnbaikmbgaddaaGreat
namespace SX
set_option linter.unusedVariables false
set_option linter.unusedSimpArgs false
open Go Go.RowKit
/-! ### Verdicts -/
def looseAt (h : House) (k : Int) : Int := match h.cabins[k.toNat]? with
  | some c => wr (c.seats.sold - c.seats.tied)
  | none => 0
def jobAt (h : House) (k : Int) : Int := match h.jobs[k.toNat]? with
  | some j => j
  | none => 0
def dueB (p : Party) (now : Int) : Bool := p.state == 2 && decide (p.until' ≤ now)
def vJoin (h : House) (q : Req) : Int :=
  if q.cabin ≥ (h.cabins.length : Int) ∨ q.from' ≥ (h.cabins.length : Int) ∨ q.from' = q.cabin then 4
  else if inB q.size 1 h.rules.size = false then 5
  else if q.tier ≥ h.rules.tiers then 6
  else if inB q.id 1 999 = false then 7
  else if atId h.parties q.id ≥ 0 then 8
  else if countGo h.parties q.cabin 0 ≥ h.rules.room then 9
  else if q.from' ≥ 0 ∧ looseAt h q.from' < q.size then 10
  else if h.turn > 1000000 then 11 else 0
def vAns (h : House) (id : Int) : Int :=
  if atId h.parties id < 0 then 7 else if (partyOf h.parties id).state ≠ 2 then 13 else if dueB (partyOf h.parties id) h.now = true then 14 else 0
def vFree (h : House) (q : Req) : Int :=
  if q.cabin ≥ (h.cabins.length : Int) then 4 else if inB q.size 1 60 = false then 5 else if looseAt h q.cabin < q.size then 12 else 0
def vPick (h : House) (q : Req) : Int :=
  if q.id ≥ h.rules.crew then 16 else if jobAt h q.id < 0 ∧ h.todo.length = 0 then 17 else 0
def vKind (h : House) (q : Req) : Int :=
  if q.kind = 1 then vJoin h q
  else if q.kind = 2 then (if atId h.parties q.id < 0 then 7 else 0)
  else if q.kind = 3 then vFree h q
  else if q.kind = 4 ∨ q.kind = 5 then vAns h q.id
  else if q.kind = 6 then (if h.now ≥ 1000000 then 15 else 0)
  else vPick h q
noncomputable def verdict (h : House) (q : Req) : Int :=
  if houseOk h = false then 1 else if inB q.kind 1 7 = false then 2 else if reqOk q = false then 3 else vKind h q
/-! ### Requests -/
def joinP (h : House) (q : Req) : Party := ⟨q.id, q.cabin, q.from', q.size, q.tier, h.now, h.turn, 1, 0, 0⟩
def joinM (h : House) (q : Req) : House :=
  ⟨h.rules, h.now, wr (h.turn + 1), partyPut h.parties (joinP h q),
    if q.from' < 0 then modC h.cabins q.cabin (rowPut (entryOf h.rules (joinP h q) h.now)) else modC (modC h.cabins q.cabin (rowPut (entryOf h.rules (joinP h q) h.now))) q.from' (seatsC (lTie · q.size)),
    todoPut h.todo q.cabin, h.jobs⟩
noncomputable def declineM (h : House) (p : Party) : House := withTodo (failsM h p) (todoPut (failsM h p).todo p.cabin)
def tickC (h : House) (k : Nat) : Nat → List Cabin → List Cabin
  | _, [] => []
  | i, c :: cs => (if i < k then ⟨c.seats, queueOf h.rules h.parties i (wr (h.now + 1)), c.wheel⟩ else c) :: tickC h k (i + 1) cs
def tickT (ps : List Party) : Nat → List Int → List Int
  | 0, l => l
  | k + 1, l => if countGo ps k 0 > 0 then todoPut (tickT ps k l) k else tickT ps k l
def tickK (h : House) (k : Nat) : House := ⟨h.rules, wr (h.now + 1), h.turn, h.parties, tickC h k 0 h.cabins, tickT h.parties k h.todo, h.jobs⟩
def tickM (h : House) : House := tickK h h.cabins.length
def withJobs (h : House) (l m : List Int) : House := ⟨h.rules, h.now, h.turn, h.parties, h.cabins, l, m⟩
noncomputable def pickM (h : House) (who : Int) : House × List Int :=
  if jobAt h who < 0 then (withJobs h h.todo.tail (h.jobs.set who.toNat (h.todo.headD 0)), [])
  else (withJobs (scan h (jobAt h who)).1 (scan h (jobAt h who)).1.todo ((scan h (jobAt h who)).1.jobs.set who.toNat (-1)), (scan h (jobAt h who)).2)
/-- a request that is done -/
noncomputable def doneM (h : House) (q : Req) : House :=
  if q.kind = 1 then joinM h q
  else if q.kind = 2 then cancelM h (partyOf h.parties q.id)
  else if q.kind = 3 then freeM h q.cabin q.size
  else if q.kind = 4 then acceptM h (partyOf h.parties q.id)
  else if q.kind = 5 then declineM h (partyOf h.parties q.id)
  else if q.kind = 6 then tickM h
  else (pickM h q.id).1
noncomputable def doM (h : House) (q : Req) : House := if verdict h q = 0 then doneM h q else h
/-! ### What a verdict says -/
theorem reqOk_form {q : Req} (h : reqOk q = true) : (1 ≤ q.kind ∧ q.kind ≤ 7) ∧ (0 ≤ q.id ∧ q.id ≤ 9999) ∧ (0 ≤ q.cabin ∧ q.cabin ≤ 9999) ∧ (-1 ≤ q.from' ∧ q.from' ≤ 9999) ∧ (0 ≤ q.size ∧ q.size ≤ 9999) ∧ (0 ≤ q.tier ∧ q.tier ≤ 9999) := by
  unfold reqOk at h
  split at h
  · rename_i hk; simp [usedB, inB] at h hk; omega
  · split at h
    · rename_i hk; simp [usedB, inB, reqEq] at h hk; omega
    · split at h
      · rename_i hk; simp [usedB, inB, reqEq] at h hk; omega
      · split at h
        · rename_i hk; simp [usedB, inB, reqEq] at h hk; omega
        · cases h
structure VOk (h : House) (q : Req) : Prop where
  hp : HRep h
  ok : reqOk q = true
  kind : 1 ≤ q.kind ∧ q.kind ≤ 7
  v : vKind h q = 0
theorem verdict_ok {h : House} {q : Req} (h0 : verdict h q = 0) : VOk h q := by
  unfold verdict at h0
  split at h0
  · omega
  · rename_i h1
    split at h0
    · omega
    · rename_i h2
      split at h0
      · omega
      · rename_i h3
        simp only [Bool.not_eq_false, inB, Bool.and_eq_true, decide_eq_true_eq] at h1 h2 h3
        exact ⟨hp_of h1, h3, h2, h0⟩
theorem VOk.eq {h : House} {q : Req} (v : VOk h q) : verdict h q = 0 := by
  have h2 : inB q.kind 1 7 = true := by simp only [inB, Bool.and_eq_true, decide_eq_true_eq]; exact v.kind
  simp [verdict, v.hp.eq, h2, v.ok, v.v]
/-! ### They keep a house right -/
theorem goneSold_hp {h : House} {p : Party} (hp : HRep h) (hm : p ∈ h.parties) (hs : p.state = 2) : HRep (goneM (soldM h p) p) := by
  have g := hp.pr hm
  have gs := g.size; have gc := g.cab; have gf := g.frm; have gn := g.ne
  refine hp.gone hm rfl rfl rfl rfl ?_ rfl rfl fun k c c' hc hc' hl hh ht => ?_
  · unfold goneM soldM
    dsimp only
    split <;> simp only [modC_len]
  · have h1 : (modC h.cabins p.cabin (sellC p))[k]? = some (if p.cabin = (k : Int) then sellC p c else c) := modC_at gc.1 hc
    have h2 : c' = if p.from' = (k : Int) then seatsC (lUntie · p.size) (if p.cabin = (k : Int) then sellC p c else c) else (if p.cabin = (k : Int) then sellC p c else c) := by
      unfold goneM soldM at hc'
      dsimp only at hc'
      split at hc'
      · rename_i hneg
        rw [if_neg (by omega)]
        rw [h1] at hc'; injection hc' with hc'; exact hc'.symm
      · rw [modC_at (by omega) h1] at hc'; injection hc' with hc'; exact hc'.symm
    rw [h2]
    by_cases hk : p.cabin = (k : Int)
    · have hf : ¬ p.from' = (k : Int) := by omega
      rw [if_pos hk, if_neg hf, if_neg (by omega), if_pos ⟨hs, hk⟩, heldW_yes ⟨hs, hk⟩, tiedW_no hf]
      rw [heldW_yes ⟨hs, hk⟩] at hh
      obtain ⟨e1, e2⟩ := hl.sell (n := p.size) (by omega) hh
      unfold sellC
      dsimp only
      rw [e1]
      exact ⟨rfl, rfl, e2, rfl, rfl, by dsimp only; omega⟩
    · rw [if_neg hk, if_neg (c := p.state = 1 ∧ p.cabin = (k : Int)) (fun w => hk w.2), if_neg (c := p.state = 2 ∧ p.cabin = (k : Int)) (fun w => hk w.2), heldW_no fun w => hk w.2]
      by_cases hf : p.from' = (k : Int)
      · rw [if_pos hf, tiedW_yes hf]
        rw [tiedW_yes hf] at ht
        obtain ⟨e1, e2⟩ := hl.untie (n := p.size) (by omega) ht
        unfold seatsC
        dsimp only
        rw [e1]
        exact ⟨rfl, rfl, e2, rfl, by dsimp only; omega, rfl⟩
      · rw [if_neg hf, tiedW_no hf]
        exact ⟨rfl, rfl, hl, rfl, by omega, by omega⟩
/-- the cabin from which a party comes, when it has gone: there is room to free its seats -/
theorem gone_from {h : House} {p : Party} (hp : HRep h) (hm : p ∈ h.parties) (hf : ¬ p.from' < 0) : ∃ c, (goneM (soldM h p) p).cabins[p.from'.toNat]? = some c ∧ p.size ≤ c.seats.sold - c.seats.tied := by
  have g := hp.pr hm
  have gs := g.size; have gc := g.cab; have gf := g.frm; have gn := g.ne; have hl := hp.cabs
  obtain ⟨c, hc⟩ : ∃ c, h.cabins[p.from'.toNat]? = some c := ⟨_, List.getElem?_eq_getElem (by omega)⟩
  have hr := (hp.cab _ c hc).2.1
  have hlp := ledgerOk_iff.1 hr.led
  have hge := held_ge (k := ((p.from'.toNat : Nat) : Int)) hp.good (partyCut_perm hp.good.ids hm)
  rw [← hr.held, ← hr.tied, tiedW_yes (by omega)] at hge
  have h1 : (modC h.cabins p.cabin (sellC p))[p.from'.toNat]? = some c := by
    rw [modC_at gc.1 hc, if_neg (by omega)]
  refine ⟨seatsC (lUntie · p.size) c, ?_, ?_⟩
  · unfold goneM soldM
    dsimp only
    rw [if_neg hf, modC_at (by omega) h1, if_pos (by omega)]
  · obtain ⟨e1, e2⟩ := hlp.untie (n := p.size) (by omega) hge.2
    unfold seatsC
    dsimp only
    rw [e1]
    have := hlp.tied
    dsimp only; omega
theorem accept_hp {h : House} {p : Party} (hp : HRep h) (hm : p ∈ h.parties) (hs : p.state = 2) : HRep (acceptM h p) := by
  unfold acceptM
  split
  · exact goneSold_hp hp hm hs
  · rename_i hf
    have g := hp.pr hm
    have gs := g.size
    obtain ⟨c, h1, h2⟩ := gone_from hp hm hf
    exact free_hp (goneSold_hp hp hm hs) (by omega) h1 (by omega) h2
theorem goneCut_hp {h : House} {p : Party} (hp : HRep h) (hm : p ∈ h.parties) (hs : p.state = 1) : HRep (goneM ⟨h.rules, h.now, h.turn, h.parties, modC h.cabins p.cabin (rowCut p.id), h.todo, h.jobs⟩ p) := by
  have g := hp.pr hm
  have gs := g.size; have gc := g.cab; have gf := g.frm; have gn := g.ne
  refine hp.gone hm rfl rfl rfl rfl ?_ rfl rfl fun k c c' hc hc' hl hh ht => ?_
  · unfold goneM
    dsimp only
    split <;> simp only [modC_len]
  · have h1 : (modC h.cabins p.cabin (rowCut p.id))[k]? = some (if p.cabin = (k : Int) then rowCut p.id c else c) := modC_at gc.1 hc
    have h2 : c' = if p.from' = (k : Int) then seatsC (lUntie · p.size) (if p.cabin = (k : Int) then rowCut p.id c else c) else (if p.cabin = (k : Int) then rowCut p.id c else c) := by
      unfold goneM at hc'
      dsimp only at hc'
      split at hc'
      · rename_i hneg
        rw [if_neg (by omega)]
        rw [h1] at hc'; injection hc' with hc'; exact hc'.symm
      · rw [modC_at (by omega) h1] at hc'; injection hc' with hc'; exact hc'.symm
    rw [h2, heldW_no (fun w => by omega), if_neg (c := p.state = 2 ∧ p.cabin = (k : Int)) (fun w => by omega)]
    by_cases hk : p.cabin = (k : Int)
    · have hf : ¬ p.from' = (k : Int) := by omega
      rw [if_pos hk, if_neg hf, if_pos ⟨hs, hk⟩, tiedW_no hf]
      exact ⟨rfl, rfl, hl, rfl, by simp [rowCut], by simp [rowCut]⟩
    · rw [if_neg hk, if_neg (c := p.state = 1 ∧ p.cabin = (k : Int)) (fun w => hk w.2)]
      by_cases hf : p.from' = (k : Int)
      · rw [if_pos hf, tiedW_yes hf]
        rw [tiedW_yes hf] at ht
        obtain ⟨e1, e2⟩ := hl.untie (n := p.size) (by omega) ht
        unfold seatsC
        dsimp only
        rw [e1]
        exact ⟨rfl, rfl, e2, rfl, by dsimp only; omega, rfl⟩
      · rw [if_neg hf, tiedW_no hf]
        exact ⟨rfl, rfl, hl, rfl, by omega, by omega⟩
theorem cancel_hp {h : House} {p : Party} (hp : HRep h) (hm : p ∈ h.parties) : HRep (cancelM h p) := by
  have g := hp.pr hm
  have gc := g.cab; have hl := hp.cabs; have gst := g.st
  unfold cancelM
  split
  · rename_i hs
    have h1 := goneDrop_hp hp hm hs
    have h2 : goneM (withTodo (dropM h p) (todoPut h.todo p.cabin)) p = withTodo (goneM (dropM h p) p) (todoPut (goneM (dropM h p) p).todo p.cabin) := rfl
    rw [h2]
    refine h1.todo gc.1 ?_
    have : (goneM (dropM h p) p).cabins.length = h.cabins.length := by
      unfold goneM dropM
      dsimp only
      split <;> simp only [modC_len]
    omega
  · exact goneCut_hp hp hm (by omega)
theorem decline_hp {h : House} {p : Party} (hp : HRep h) (hm : p ∈ h.parties) (hs : p.state = 2) : HRep (declineM h p) := by
  have g := hp.pr hm
  have gc := g.cab; have hl := hp.cabs
  obtain ⟨_, _, _, _, _, h6⟩ := fails_same (h := h) (p := p)
  exact (fails_hp hp hm hs).todo gc.1 (by omega)
theorem looseAt_of {h : House} {k : Int} {c : Cabin} (hp : HRep h) (hc : h.cabins[k.toNat]? = some c) : looseAt h k = c.seats.sold - c.seats.tied := by
  have hlp := ledgerOk_iff.1 (hp.cab _ c hc).2.1.led
  have a1 := hlp.total; have a2 := hlp.free; have a3 := hlp.held; have a4 := hlp.sold; have a5 := hlp.sum; have a6 := hlp.tied
  simp only [looseAt, hc]
  exact wr_of (by omega) (by omega)
theorem count_cnt {h : House} (hp : HRep h) (k : Int) : countGo h.parties k 0 = (cnt h.parties k : Nat) := by
  have := hp.len
  rw [countGo_cnt k h.parties 0 (by omega) (by omega)]; omega
structure JoinV (h : House) (q : Req) : Prop where
  cab : 0 ≤ q.cabin ∧ q.cabin < (h.cabins.length : Int)
  frm : -1 ≤ q.from' ∧ q.from' < (h.cabins.length : Int)
  ne : q.from' ≠ q.cabin
  size : 1 ≤ q.size ∧ q.size ≤ h.rules.size
  tier : 0 ≤ q.tier ∧ q.tier < h.rules.tiers
  id : 1 ≤ q.id ∧ q.id ≤ 999
  no : atId h.parties q.id < 0
  full : (cnt h.parties q.cabin : Int) < h.rules.room
  tied : ∀ c, 0 ≤ q.from' → h.cabins[q.from'.toNat]? = some c → q.size ≤ c.seats.sold - c.seats.tied
  turn : h.turn ≤ 1000000
theorem joinV {h : House} {q : Req} (v : VOk h q) (hk : q.kind = 1) : JoinV h q := by
  have hv := v.v
  obtain ⟨_, r2, r3, r4, r5, r6⟩ := reqOk_form v.ok
  unfold vKind at hv
  rw [if_pos hk] at hv
  unfold vJoin at hv
  rw [count_cnt v.hp] at hv
  have hrr := rr_of v.hp.rules
  simp only [inB, Bool.and_eq_false_iff, decide_eq_false_iff_not] at hv
  repeat' (split at hv; omega)
  rename_i h1 h2 h3 h4 h5 h6 h7 h8
  refine ⟨by omega, by omega, by omega, by omega, by omega, by omega, by omega, by omega, fun c h0 hc => ?_, by omega⟩
  rw [← looseAt_of v.hp hc]
  omega
theorem join_hp {h : House} {q : Req} (hp : HRep h) (v : JoinV h q) : HRep (joinM h q) := by
  have hrr := rr_of hp.rules
  have hcb := hp.cabs; have hn := hp.now; have ht := hp.turn
  have v1 := v.cab; have v2 := v.frm; have v3 := v.ne; have v4 := v.size; have v5 := v.tier; have v6 := v.id; have v7 := v.full; have v8 := v.turn
  have r1 := hrr.size; have r2 := hrr.tries; have r3 := hrr.rest
  have e0 : wr (h.turn + 1) = h.turn + 1 := wr_of (by omega) (by omega)
  have hq : PR h.rules h.now (joinP h q) := ⟨by dsimp only [joinP]; omega, by dsimp only [joinP]; omega, by dsimp only [joinP]; omega, by dsimp only [joinP]; omega, by dsimp only [joinP]; omega, by dsimp only [joinP]; omega, by dsimp only [joinP]; omega, by dsimp only [joinP]; omega, by dsimp only [joinP]; omega, by dsimp only [joinP]; omega, .inl (by dsimp only [joinP]; omega)⟩
  have hlen : (partyPut h.parties (joinP h q)).length ≤ 40 := by
    have h1 := cnt_all h.rules.room.toNat h.rules.seats.length (partyPut h.parties (joinP h q)) (fun p hpm => by
      rw [partyPut_new v.no, insL_iff] at hpm
      rcases hpm with rfl | hpm
      · exact ⟨v1.1, by dsimp only [joinP]; omega⟩
      · exact (hp.pr hpm).cab) (fun k hk => by
      obtain ⟨c, hck⟩ : ∃ c, h.cabins[k]? = some c := ⟨_, List.getElem?_eq_getElem (by omega)⟩
      have h9 := (hp.cab k c hck).2.2
      rw [partyPut_new v.no, cnt_perm (insL_perm _ _), cnt_cons]
      split
      · rename_i he
        have : (joinP h q).cabin = q.cabin := rfl
        rw [← he, this] at h9 ⊢
        omega
      · omega)
    have r4 := hrr.room; have r5 := hrr.seats
    have : h.rules.room.toNat * h.rules.seats.length ≤ 10 * 4 := Nat.mul_le_mul (by omega) (by omega)
    omega
  have h1 : HRep ⟨h.rules, h.now, wr (h.turn + 1), partyPut h.parties (joinP h q),
      if q.from' < 0 then modC h.cabins q.cabin (rowPut (entryOf h.rules (joinP h q) h.now)) else modC (modC h.cabins q.cabin (rowPut (entryOf h.rules (joinP h q) h.now))) q.from' (seatsC (lTie · q.size)), h.todo, h.jobs⟩ := by
    refine hp.join (q := joinP h q) hq v.no rfl rfl rfl v.full rfl rfl e0 rfl (by dsimp only; split <;> simp only [modC_len]) rfl rfl hlen fun k c c' hc hc' hl => ?_
    dsimp only at hc'
    have g1 : (modC h.cabins q.cabin (rowPut (entryOf h.rules (joinP h q) h.now)))[k]? = some (if q.cabin = (k : Int) then rowPut (entryOf h.rules (joinP h q) h.now) c else c) := modC_at v1.1 hc
    have g2 : c' = if q.from' = (k : Int) then seatsC (lTie · q.size) (if q.cabin = (k : Int) then rowPut (entryOf h.rules (joinP h q) h.now) c else c) else (if q.cabin = (k : Int) then rowPut (entryOf h.rules (joinP h q) h.now) c else c) := by
      split at hc'
      · rename_i hneg
        rw [if_neg (by omega)]
        rw [g1] at hc'; injection hc' with hc'; exact hc'.symm
      · rw [modC_at (by omega) g1] at hc'; injection hc' with hc'; exact hc'.symm
    have k1 : (joinP h q).cabin = q.cabin := rfl
    have k2 : (joinP h q).from' = q.from' := rfl
    have k3 : (joinP h q).size = q.size := rfl
    rw [g2, k1]
    by_cases hk : q.cabin = (k : Int)
    · rw [if_pos hk, if_neg (by omega), if_pos hk, tiedW_no (by rw [k2]; omega)]
      exact ⟨rfl, rfl, hl, rfl, rfl, by simp [rowPut]⟩
    · rw [if_neg hk, if_neg hk]
      by_cases hf : q.from' = (k : Int)
      · rw [if_pos hf, tiedW_yes (by rw [k2]; exact hf), k3]
        have ht := v.tied c (by omega) (by rw [hf]; simpa using hc)
        obtain ⟨e1, e2⟩ := hl.tie (n := q.size) (by omega) ht
        unfold seatsC
        dsimp only
        rw [e1]
        exact ⟨rfl, rfl, e2, rfl, rfl, rfl⟩
      · rw [if_neg hf, tiedW_no (by rw [k2]; exact hf)]
        exact ⟨rfl, rfl, hl, rfl, rfl, by omega⟩
  refine h1.todo v1.1 ?_
  dsimp only
  split <;> simp only [modC_len] <;> omega
/-! ### Ticks -/
theorem tickC_len (h : House) (k : Nat) : ∀ (l : List Cabin) (i : Nat), (tickC h k i l).length = l.length
  | [], _ => rfl
  | c :: cs, i => by simp [tickC, tickC_len h k cs]
theorem tickC_at (h : House) (k : Nat) : ∀ (l : List Cabin) (i j : Nat) (c : Cabin), l[j]? = some c → (tickC h k i l)[j]? = some (if i + j < k then ⟨c.seats, queueOf h.rules h.parties ((i + j : Nat) : Int) (wr (h.now + 1)), c.wheel⟩ else c)
  | [], _, j, c, hc => by simp at hc
  | d :: cs, i, 0, c, hc => by
    simp at hc; subst hc
    simp [tickC]
  | d :: cs, i, j + 1, c, hc => by
    have := tickC_at h k cs (i + 1) j c (by simpa using hc)
    rw [show i + 1 + j = i + (j + 1) by omega] at this
    simpa [tickC] using this
theorem tickT_ok {ps : List Party} {n : Int} : ∀ (k : Nat) {l : List Int}, (k : Int) ≤ n → (∀ x ∈ l, 0 ≤ x ∧ x < n) → l.Nodup → (∀ x ∈ tickT ps k l, 0 ≤ x ∧ x < n) ∧ (tickT ps k l).Nodup
  | 0, l, _, h1, h2 => ⟨h1, h2⟩
  | k + 1, l, hk, h1, h2 => by
    have ih := tickT_ok (ps := ps) k (l := l) (by omega) h1 h2
    unfold tickT
    split
    · unfold todoPut
      split
      · exact ih
      · rename_i hn
        refine ⟨fun x hx => ?_, List.nodup_append.2 ⟨ih.2, by simp, fun a ha b hb he => hn ?_⟩⟩
        · rcases List.mem_append.1 hx with hx | hx
          · exact ih.1 x hx
          · rw [List.mem_singleton.1 hx]; omega
        · rw [List.mem_singleton.1 hb] at he
          exact List.any_eq_true.2 ⟨a, ha, by simpa using he⟩
    · exact ih
theorem tick_hp {h : House} (hp : HRep h) (hn : h.now < 1000000) : HRep (tickM h) := by
  have hw := hp.now
  have hrr := rr_of hp.rules
  have e1 : wr (h.now + 1) = h.now + 1 := wr_of (by omega) (by omega)
  have hseat := hrr.seats; have hcb := hp.cabs
  have hpok : ∀ p ∈ h.parties, PR h.rules (h.now + 1) p := fun p hm => by
    have g := hp.pr hm
    have g1 := g.since; have g2 := g.st
    exact ⟨g.id0, g.id1, g.cab, g.frm, g.ne, g.size, g.tier, by omega, g.turn, g.asked, by omega⟩
  have hpps : PPs (tickM h) := ⟨fun p hm => ⟨partyOk_iff.2 ⟨hp.rules, by show 0 ≤ wr (h.now + 1) ∧ wr (h.now + 1) ≤ 1000000; omega, by show PR h.rules (wr (h.now + 1)) p; rw [e1]; exact hpok p hm⟩, (hp.pps.ok p hm).2⟩, hp.pps.ids, hp.pps.kk⟩
  have hj := JobsP.iff.1 hp.jobs
  have hwl : wr ((h.cabins.length : Int) - 1) = (h.cabins.length : Int) - 1 := wr_of (by omega) (by omega)
  have hlen : (tickM h).cabins.length = h.cabins.length := tickC_len _ _ _ _
  refine ⟨hp.rules, by show 0 ≤ wr (h.now + 1) ∧ wr (h.now + 1) ≤ 1000000; omega, hp.turn, hp.len, hlen.trans hp.cabs, hpps, ?_, fun k c' hc' => ?_⟩
  · have h2 := tickT_ok (ps := h.parties) (n := (h.cabins.length : Int)) h.cabins.length (l := h.todo) (by omega) (fun x hx => by
      have := hj.1 x hx
      rw [hwl] at this
      simp only [inB, Bool.and_eq_true, decide_eq_true_eq] at this; omega) hj.2.1
    refine JobsP.iff.2 ⟨fun x hx => ?_, h2.2, fun x hx => ?_, hj.2.2.2⟩
    · rw [hlen, hwl]
      have := h2.1 x hx
      simp only [inB, Bool.and_eq_true, decide_eq_true_eq]; omega
    · rw [hlen]; exact hj.2.2.1 x hx
  · have hlt : k < h.cabins.length := by have := (List.getElem?_eq_some_iff.1 hc').1; omega
    have hc := List.getElem?_eq_getElem hlt
    have h3 := tickC_at h h.cabins.length h.cabins 0 k _ hc
    rw [Nat.zero_add, if_pos hlt] at h3
    have h4 : (tickM h).cabins[k]? = some _ := h3
    rw [h4] at hc'
    injection hc' with hc'
    subst hc'
    obtain ⟨g1, g2, g3⟩ := hp.cab k _ hc
    refine ⟨g1, rep_of g2.led ?_ g2.whR g2.held g2.tied, g3⟩
    exact ⟨queueOf_ss hp.good.turns, fun e => queueOf_iff⟩
/-! ### Picks -/
theorem job_rng {h : House} (hp : HRep h) {k : Int} (h0 : 0 ≤ k) (h1 : k < h.rules.crew) : h.jobs[k.toNat]? = some (jobAt h k) ∧ -1 ≤ jobAt h k ∧ jobAt h k < (h.cabins.length : Int) := by
  have hj := JobsP.iff.1 hp.jobs
  have hs := (rr_of hp.rules).seats; have hcb := hp.cabs
  have hl := hj.2.2.2
  obtain ⟨j, hjk⟩ : ∃ j, h.jobs[k.toNat]? = some j := ⟨_, List.getElem?_eq_getElem (by omega)⟩
  have h2 := hj.2.2.1 j (List.mem_of_getElem? hjk)
  rw [wr_of (by omega) (by omega)] at h2
  simp only [inB, Bool.and_eq_true, decide_eq_true_eq] at h2
  simp only [jobAt, hjk]
  exact ⟨trivial, by omega, by omega⟩
theorem HRep.setJobs {h : House} (hp : HRep h) {l m : List Int} (hl : ∀ x ∈ l, x ∈ h.todo) (hd : l.Nodup) (hm : ∀ x ∈ m, -1 ≤ x ∧ x < (h.cabins.length : Int)) (hlen : m.length = h.jobs.length) : HRep (withJobs h l m) := by
  refine hp.jobs' rfl rfl rfl rfl rfl ?_
  have hj := JobsP.iff.1 hp.jobs
  have hs := (rr_of hp.rules).seats; have hcb := hp.cabs
  refine JobsP.iff.2 ⟨fun x hx => hj.1 x (hl x hx), hd, fun x hx => ?_, by show (m.length : Int) = _; rw [hlen]; exact hj.2.2.2⟩
  have := hm x hx
  show inB x (-1) (wr ((h.cabins.length : Int) - 1)) = true
  rw [wr_of (by omega) (by omega)]
  simp only [inB, Bool.and_eq_true, decide_eq_true_eq]; omega
theorem HRep.jobRng {h : House} (hp : HRep h) {x : Int} (hx : x ∈ h.jobs) : -1 ≤ x ∧ x < (h.cabins.length : Int) := by
  have hs := (rr_of hp.rules).seats; have hcb := hp.cabs
  have h2 := (JobsP.iff.1 hp.jobs).2.2.1 x hx
  rw [wr_of (by omega) (by omega)] at h2
  simp only [inB, Bool.and_eq_true, decide_eq_true_eq] at h2
  omega
theorem HRep.todoRng {h : House} (hp : HRep h) {x : Int} (hx : x ∈ h.todo) : 0 ≤ x ∧ x < (h.cabins.length : Int) := by
  have hs := (rr_of hp.rules).seats; have hcb := hp.cabs
  have h2 := (JobsP.iff.1 hp.jobs).1 x hx
  rw [wr_of (by omega) (by omega)] at h2
  simp only [inB, Bool.and_eq_true, decide_eq_true_eq] at h2
  omega
theorem set_mem' {l : List Int} {k : Nat} {y x : Int} (h : x ∈ l.set k y) : x = y ∨ x ∈ l := by
  rcases List.mem_or_eq_of_mem_set h with h | h
  · exact .inr h
  · exact .inl h
theorem scan_hp {h : House} {cabin : Int} (hp : HRep h) (h0 : 0 ≤ cabin) (h1 : cabin < (h.cabins.length : Int)) : HRep (scan h cabin).1 ∧ (scan h cabin).1.cabins.length = h.cabins.length ∧ (scan h cabin).1.rules = h.rules ∧ (scan h cabin).1.now = h.now ∧ (scan h cabin).1.todo = h.todo ∧ (scan h cabin).1.jobs = h.jobs := by
  have hb := hasCab_mk hp h0 h1
  obtain ⟨e1, e2⟩ := expire_hp hb
  obtain ⟨b1, b2, b3, b4, b5, b6⟩ := expireGo_same (dueIds h cabin) h
  unfold scan
  rw [if_pos hb]
  obtain ⟨a1, a2, a3, a4, a5, a6⟩ := scanGo_hp (waits (expireM h cabin).parties) (expireM h cabin) cabin e1
  exact ⟨a1, a2.trans b6, a3.trans b1, a4.trans b2, a5.trans b4, a6.trans b5⟩
theorem pick_hp {h : House} {who : Int} (hp : HRep h) (h0 : 0 ≤ who) (h1 : who < h.rules.crew) (h2 : ¬ (jobAt h who < 0 ∧ h.todo.length = 0)) : HRep (pickM h who).1 := by
  obtain ⟨j1, j2, j3⟩ := job_rng hp h0 h1
  have hj := JobsP.iff.1 hp.jobs
  unfold pickM
  split
  · rename_i hneg
    cases ht : h.todo with
    | nil => exact absurd ⟨hneg, by rw [ht]; rfl⟩ h2
    | cons t ts =>
      dsimp only
      refine hp.setJobs (fun x hx => by rw [ht]; exact List.mem_cons_of_mem _ hx) (by rw [ht] at hj; exact (List.nodup_cons.1 hj.2.1).2) (fun x hx => ?_) (by simp)
      rcases set_mem' hx with hx | hx
      · have := hp.todoRng (x := t) (by rw [ht]; simp)
        have e : x = t := hx
        rw [e]; omega
      · exact hp.jobRng hx
  · obtain ⟨a1, a2, a3, a4, a5, a6⟩ := scan_hp hp (show 0 ≤ jobAt h who by omega) j3
    have hs := (rr_of hp.rules).seats; have hcb := hp.cabs
    refine a1.setJobs (fun x hx => hx) (JobsP.iff.1 a1.jobs).2.1 (fun x hx => ?_) (by simp)
    rcases set_mem' hx with rfl | hx
    · omega
    · exact a1.jobRng hx
/-! ### All requests -/
theorem vAns_ok {h : House} {id : Int} (hp : HRep h) (hv : vAns h id = 0) : partyOf h.parties id ∈ h.parties ∧ (partyOf h.parties id).id = id ∧ (partyOf h.parties id).state = 2 ∧ h.now < (partyOf h.parties id).until' := by
  unfold vAns at hv
  split at hv
  · omega
  · rename_i h1
    split at hv
    · omega
    · rename_i h2
      split at hv
      · omega
      · rename_i h3
        obtain ⟨a, b⟩ := partyOf_in h1
        have h4 : (partyOf h.parties id).state = 2 := by omega
        refine ⟨a, b, h4, ?_⟩
        simp [dueB, h4] at h3
        omega
theorem done_hp {h : House} {q : Req} (v : VOk h q) : HRep (doneM h q) := by
  have hp := v.hp
  have hv := v.v
  have hk := v.kind
  obtain ⟨r1, r2, r3, r4, r5, r6⟩ := reqOk_form v.ok
  unfold doneM
  split
  · rename_i h1; exact join_hp hp (joinV v h1)
  · rename_i h1
    unfold vKind at hv
    rw [if_neg h1] at hv
    split
    · rename_i h2
      rw [if_pos h2] at hv
      split at hv
      · omega
      · rename_i h3; exact cancel_hp hp (partyOf_in h3).1
    · rename_i h2
      rw [if_neg h2] at hv
      split
      · rename_i h3
        rw [if_pos h3] at hv
        unfold vFree at hv
        split at hv
        · omega
        · rename_i g1
          split at hv
          · omega
          · rename_i g2
            split at hv
            · omega
            · rename_i g3
              obtain ⟨c, hc⟩ : ∃ c, h.cabins[q.cabin.toNat]? = some c := ⟨_, List.getElem?_eq_getElem (by omega)⟩
              rw [looseAt_of hp hc] at g3
              simp only [Bool.not_eq_false, inB, Bool.and_eq_true, decide_eq_true_eq] at g2
              exact free_hp hp r3.1 hc (by omega) (by omega)
      · rename_i h3
        rw [if_neg h3] at hv
        split
        · rename_i h4
          rw [if_pos (.inl h4)] at hv
          obtain ⟨a, b, c, d⟩ := vAns_ok hp hv
          exact accept_hp hp a c
        · rename_i h4
          split
          · rename_i h5
            rw [if_pos (.inr h5)] at hv
            obtain ⟨a, b, c, d⟩ := vAns_ok hp hv
            exact decline_hp hp a c
          · rename_i h5
            rw [if_neg (by omega)] at hv
            split
            · rename_i h6
              rw [if_pos h6] at hv
              split at hv
              · omega
              · exact tick_hp hp (by omega)
            · rename_i h6
              rw [if_neg h6] at hv
              unfold vPick at hv
              split at hv
              · omega
              · split at hv
                · omega
                · rename_i g1 g2
                  exact pick_hp hp r2.1 (by omega) g2
theorem do_hp {h : House} {q : Req} (hp : HRep h) : HRep (doM h q) := by
  unfold doM
  split
  · rename_i h0; exact done_hp (verdict_ok h0)
  · exact hp
end SX
end Go.Proofs.YthnbaikmbgaddaaGreat
