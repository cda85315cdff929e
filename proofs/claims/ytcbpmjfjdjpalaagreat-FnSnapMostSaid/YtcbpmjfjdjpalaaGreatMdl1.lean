/- The data and the plain functions: rules, parties' requests, events. No program is in sight. -/
import Derived.Test.YtcbpmjfjdjpalaaGreatSx6
namespace Go.Proofs.YtcbpmjfjdjpalaaGreat
namespace SX
open Go
structure Rules where
  seats : List Int
  tiers : Int
  room : Int
  size : Int
  period : Int
  window : Int
  rest : Int
  tries : Int
  crew : Int
structure Req where
  kind : Int
  id : Int
  cabin : Int
  from' : Int
  size : Int
  tier : Int
structure Act where
  kind : Int
  req : Req
  n : Int
  keep : List Int
def inB (n lo hi : Int) : Bool := decide (lo ≤ n) && decide (n ≤ hi)
def allSeats : List Int → Bool
  | [] => true
  | z :: zs => inB z 1 60 && allSeats zs
def rulesOk (r : Rules) : Bool :=
  inB r.seats.length 1 4 && inB r.tiers 1 5 && inB r.room 1 10 && inB r.size 1 6 && inB r.period 1 12 && inB r.window 1 8 && inB r.rest 0 8 && inB r.tries 1 4 && inB r.crew 1 3 && allSeats r.seats
theorem drop_get {α : Type} {xs : List α} {k : Nat} {y : α} (h : xs[k]? = some y) : xs.drop k = y :: xs.drop (k + 1) := by
  obtain ⟨hk, rfl⟩ := List.getElem?_eq_some_iff.1 h
  exact List.drop_eq_getElem_cons hk
def snapMost (r : Rules) : Int := if rulesOk r then wr (wr (wr (24 + wr (3 * r.seats.length)) + wr (wr (17 * r.room) * r.seats.length)) + r.crew) else 0
theorem bneF {a b : Int} (h : (a != b) = false) : a = b := by simpa using h
end SX
end Go.Proofs.YtcbpmjfjdjpalaaGreat
