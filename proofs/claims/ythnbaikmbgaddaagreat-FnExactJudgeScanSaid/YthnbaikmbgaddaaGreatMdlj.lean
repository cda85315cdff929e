/- What requests do to a house, in plain Lean: they keep it right. It imports no program. -/
import Derived.Test.YthnbaikmbgaddaaGreatMdli
namespace Go.Proofs.YthnbaikmbgaddaaGreat
namespace SX
set_option linter.unusedVariables false
set_option linter.unusedSimpArgs false
open Go Go.RowKit
/-! ### Verdicts -/
def looseAt (h : House) (k : Int) : Int := match h.cabins[k.toNat]? with
  | some c => wr (c.seats.sold - c.seats.tied)
  | none => 0
def jobAt (h : House) (k : Int) : Int := match h.jobs[k.toNat]? with
  | some j => j
  | none => 0
def dueB (p : Party) (now : Int) : Bool := p.state == 2 && decide (p.until' ≤ now)
def vJoin (h : House) (q : Req) : Int :=
  if q.cabin ≥ (h.cabins.length : Int) ∨ q.from' ≥ (h.cabins.length : Int) ∨ q.from' = q.cabin then 4
  else if inB q.size 1 h.rules.size = false then 5
  else if q.tier ≥ h.rules.tiers then 6
  else if inB q.id 1 999 = false then 7
  else if atId h.parties q.id ≥ 0 then 8
  else if countGo h.parties q.cabin 0 ≥ h.rules.room then 9
  else if q.from' ≥ 0 ∧ looseAt h q.from' < q.size then 10
  else if h.turn > 1000000 then 11 else 0
def vAns (h : House) (id : Int) : Int :=
  if atId h.parties id < 0 then 7 else if (partyOf h.parties id).state ≠ 2 then 13 else if dueB (partyOf h.parties id) h.now = true then 14 else 0
def vFree (h : House) (q : Req) : Int :=
  if q.cabin ≥ (h.cabins.length : Int) then 4 else if inB q.size 1 60 = false then 5 else if looseAt h q.cabin < q.size then 12 else 0
def vPick (h : House) (q : Req) : Int :=
  if q.id ≥ h.rules.crew then 16 else if jobAt h q.id < 0 ∧ h.todo.length = 0 then 17 else 0
def vKind (h : House) (q : Req) : Int :=
  if q.kind = 1 then vJoin h q
  else if q.kind = 2 then (if atId h.parties q.id < 0 then 7 else 0)
  else if q.kind = 3 then vFree h q
  else if q.kind = 4 ∨ q.kind = 5 then vAns h q.id
  else if q.kind = 6 then (if h.now ≥ 1000000 then 15 else 0)
  else vPick h q
noncomputable def verdict (h : House) (q : Req) : Int :=
  if houseOk h = false then 1 else if inB q.kind 1 7 = false then 2 else if reqOk q = false then 3 else vKind h q
/-! ### Requests -/
/-! ### What a verdict says -/
structure VOk (h : House) (q : Req) : Prop where
  hp : HRep h
  ok : reqOk q = true
  kind : 1 ≤ q.kind ∧ q.kind ≤ 7
  v : vKind h q = 0
theorem VOk.eq {h : House} {q : Req} (v : VOk h q) : verdict h q = 0 := by
  have h2 : inB q.kind 1 7 = true := by simp only [inB, Bool.and_eq_true, decide_eq_true_eq]; exact v.kind
  simp [verdict, v.hp.eq, h2, v.ok, v.v]
/-! ### They keep a house right -/
structure JoinV (h : House) (q : Req) : Prop where
  cab : 0 ≤ q.cabin ∧ q.cabin < (h.cabins.length : Int)
  frm : -1 ≤ q.from' ∧ q.from' < (h.cabins.length : Int)
  ne : q.from' ≠ q.cabin
  size : 1 ≤ q.size ∧ q.size ≤ h.rules.size
  tier : 0 ≤ q.tier ∧ q.tier < h.rules.tiers
  id : 1 ≤ q.id ∧ q.id ≤ 999
  no : atId h.parties q.id < 0
  full : (cnt h.parties q.cabin : Int) < h.rules.room
  tied : ∀ c, 0 ≤ q.from' → h.cabins[q.from'.toNat]? = some c → q.size ≤ c.seats.sold - c.seats.tied
  turn : h.turn ≤ 1000000
/-! ### Ticks -/
/-! ### Picks -/
/-! ### All requests -/
end SX
end Go.Proofs.YthnbaikmbgaddaaGreat
