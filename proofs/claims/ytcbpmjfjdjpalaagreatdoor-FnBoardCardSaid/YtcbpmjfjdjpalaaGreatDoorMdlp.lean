/- Who was passed over; what freed seats link; in plain Lean. It imports no program. -/
import Derived.Test.YtcbpmjfjdjpalaaGreatDoorMdlm
namespace Go.Proofs.YtcbpmjfjdjpalaaGreatDoor
namespace SX
set_option linter.unusedVariables false
set_option linter.unusedSimpArgs false
open Go Go.RowKit
theorem hasCab_in {h : House} {cabin : Int} (hb : hasCab h cabin = true) : 0 ≤ cabin ∧ cabin < (h.cabins.length : Int) := by
  simp only [hasCab, Bool.and_eq_true, inB, decide_eq_true_eq] at hb
  have hp := houseP_of hb.1
  obtain ⟨h1, _, _, _, h5, _⟩ := hp
  have h9 := h1
  simp [rulesOk, inB] at h9
  have h2 := hb.2
  rw [wr_of (by omega) (by omega)] at h2
  omega
def restingB (p : Party) (now : Int) : Bool := p.state == 1 && decide (p.until' > now)
def freeAt (h : House) (cabin : Int) : Int := match h.cabins[cabin.toNat]? with
  | some c => c.seats.free
  | none => 0
def fitsB (h : House) (cabin : Int) (p : Party) : Bool := p.cabin == cabin && p.state == 1 && !restingB p h.now && decide (p.size ≤ freeAt h cabin)
def beforeB (r : Rules) (a b : Party) (now : Int) : Bool := decide (levelOf r a now ≥ 0) && decide (levelOf r b now ≥ 0) && (decide (levelOf r a now < levelOf r b now) || (levelOf r a now == levelOf r b now && decide (a.turn < b.turn)))
def atId (l : List Party) (id : Int) : Int := idxF (fun e : Party => e.id == id) l 0
theorem atId_lt (l : List Party) (id : Int) : atId l id < (l.length : Int) ∧ -1 ≤ atId l id := by
  have h1 := idxF_lt (q := fun e : Party => e.id == id) l 0
  have h2 := (idxF_none (q := fun e : Party => e.id == id) l 0).2
  unfold atId
  omega
def passGo (h : House) (cabin : Int) (q : Party) : List Party → List Int
  | [] => []
  | p :: ps => if fitsB h cabin p && beforeB h.rules p q h.now then p.id :: passGo h cabin q ps else passGo h cabin q ps
noncomputable def passed (h : House) (cabin id : Int) : List Int :=
  if hasCab h cabin && !decide (atId h.parties id < 0) then match h.parties[(atId h.parties id).toNat]? with
    | some q => if q.cabin == cabin then passGo h cabin q h.parties else []
    | none => []
  else []
end SX
end Go.Proofs.YtcbpmjfjdjpalaaGreatDoor
