/- The data and the plain functions: rules, parties' requests, events. No program is in sight. -/
import Derived.Test.YtgbfemglimebdaaGreatDoorSx6
namespace Go.Proofs.YtgbfemglimebdaaGreatDoor
namespace SX
open Go
structure Rules where
  seats : List Int
  tiers : Int
  room : Int
  size : Int
  period : Int
  window : Int
  rest : Int
  tries : Int
  crew : Int
structure Req where
  kind : Int
  id : Int
  cabin : Int
  from' : Int
  size : Int
  tier : Int
structure Act where
  kind : Int
  req : Req
  n : Int
  keep : List Int
def inB (n lo hi : Int) : Bool := decide (lo ≤ n) && decide (n ≤ hi)
def szInts (xs : List Int) (left : Int) : Int := if wr (left - xs.length) < 0 then -1 else wr (left - xs.length)
def szRules (a : Rules) (left : Int) : Int := if szInts a.seats left < 0 then -1 else szInts a.seats left
def eqInts : List Int → List Int → Bool
  | [], [] => true
  | x :: xs, y :: ys => if x != y then false else eqInts xs ys
  | _, _ => false
def rulesNums (r : Rules) : Bool := inB r.window 1 8 && (inB r.rest 0 8 && (inB r.tries 1 4 && inB r.crew 1 3))
def allSeats : List Int → Bool
  | [] => true
  | z :: zs => inB z 1 60 && allSeats zs
def rulesOk (r : Rules) : Bool :=
  inB r.seats.length 1 4 && inB r.tiers 1 5 && inB r.room 1 10 && inB r.size 1 6 && inB r.period 1 12 && inB r.window 1 8 && inB r.rest 0 8 && inB r.tries 1 4 && inB r.crew 1 3 && allSeats r.seats
def eqRules (a b : Rules) : Bool :=
  if !(eqInts a.seats b.seats) then false else if a.tiers != b.tiers then false else if a.room != b.room then false else if a.size != b.size then false else if a.period != b.period then false else
  if a.window != b.window then false else if a.rest != b.rest then false else if a.tries != b.tries then false else if a.crew != b.crew then false else true
def enoughFor (r : Rules) (tier : Int) : Int := if rulesOk r && inB tier 0 (wr (r.tiers - 1)) then wr (wr (wr (tier * r.period) + wr (wr (r.room - 1) * r.tries)) + 1) else 0
theorem drop_get {α : Type} {xs : List α} {k : Nat} {y : α} (h : xs[k]? = some y) : xs.drop k = y :: xs.drop (k + 1) := by
  obtain ⟨hk, rfl⟩ := List.getElem?_eq_some_iff.1 h
  exact List.drop_eq_getElem_cons hk
theorem eqInts_eq : ∀ (a b : List Int), eqInts a b = decide (a = b)
  | [], [] => by simp [eqInts]
  | [], _ :: _ => by simp [eqInts]
  | _ :: _, [] => by simp [eqInts]
  | x :: xs, y :: ys => by
    simp only [eqInts, eqInts_eq xs ys]
    by_cases h : x = y <;> simp [h]
theorem eqInts_ne {a b : List Int} (h : a.length ≠ b.length) : eqInts a b = false := by
  rw [eqInts_eq, decide_eq_false_iff_not]; rintro rfl; exact h rfl
theorem eqInts_refl (a : List Int) : eqInts a a = true := by simp [eqInts_eq]
theorem eqRules_refl (a : Rules) : eqRules a a = true := by simp [eqRules, eqInts_refl]
theorem szInts_len {xs : List Int} {L : Int} (h0 : 0 ≤ L) (h1 : L ≤ 1048576) (hl : xs.length ≤ 9223372036854775807) (h : ¬ szInts xs L < 0) : xs.length ≤ L := by
  unfold szInts at h
  rw [wr_of (by omega) (by omega)] at h
  split at h <;> omega
theorem szRules_len {a : Rules} (hl : a.seats.length ≤ 9223372036854775807) (h : ¬ szRules a 1048576 < 0) : a.seats.length ≤ 1048576 := by
  unfold szRules at h
  split at h
  · omega
  · rename_i h1
    have := szInts_len (by omega) (by omega) hl h1
    omega
def snapMost (r : Rules) : Int := if rulesOk r then wr (wr (wr (24 + wr (3 * r.seats.length)) + wr (wr (17 * r.room) * r.seats.length)) + r.crew) else 0
def usedB (n : Int) : Bool := inB n 0 9999
def reqEq (a b : Req) : Bool := a.kind == b.kind && (a.id == b.id && (a.cabin == b.cabin && (a.from' == b.from' && (a.size == b.size && (a.tier == b.tier && true)))))
def reqOk (q : Req) : Bool :=
  if q.kind == 1 then usedB q.id && usedB q.cabin && inB q.from' (-1) 9999 && usedB q.size && usedB q.tier
  else if q.kind == 2 || q.kind == 4 || q.kind == 5 || q.kind == 7 then usedB q.id && reqEq q ⟨q.kind, q.id, 0, 0, 0, 0⟩
  else if q.kind == 3 then usedB q.cabin && (usedB q.size && reqEq q ⟨q.kind, 0, q.cabin, 0, q.size, 0⟩)
  else if q.kind == 6 then reqEq q ⟨q.kind, 0, 0, 0, 0, 0⟩
  else false
def allKeep : List Int → Bool
  | [] => true
  | z :: zs => inB z 0 20000 && allKeep zs
def noReq (q : Req) : Bool := reqEq q ⟨0, 0, 0, 0, 0, 0⟩
def actOk (a : Act) : Bool :=
  if a.kind == 1 then reqOk a.req && (a.n == 0 && (a.keep.length : Int) == 0)
  else if a.kind == 2 then noReq a.req && (a.n == 0 && (a.keep.length : Int) == 0)
  else if a.kind == 3 then noReq a.req && (usedB a.n && (a.keep.length : Int) == 0)
  else if a.kind == 4 then allKeep a.keep && (noReq a.req && (a.n == 0 && decide ((a.keep.length : Int) ≤ 3)))
  else false
def szAct (a : Act) (left : Int) : Int := if szInts a.keep left < 0 then -1 else szInts a.keep left
theorem szAct_len {a : Act} (hl : a.keep.length ≤ 9223372036854775807) (h : ¬ szAct a 1048576 < 0) : a.keep.length ≤ 1048576 := by
  unfold szAct at h
  split at h
  · omega
  · rename_i h1
    have := szInts_len (by omega) (by omega) hl h1
    omega
def eqReq (a b : Req) : Bool :=
  if a.kind != b.kind then false else if a.id != b.id then false else if a.cabin != b.cabin then false else if a.from' != b.from' then false else if a.size != b.size then false else if a.tier != b.tier then false else true
def eqAct (a b : Act) : Bool :=
  if a.kind != b.kind then false else if !(eqReq a.req b.req) then false else if a.n != b.n then false else if !(eqInts a.keep b.keep) then false else true
theorem eqReq_refl (a : Req) : eqReq a a = true := by simp [eqReq]
theorem eqAct_refl (a : Act) : eqAct a a = true := by simp [eqAct, eqReq_refl, eqInts_refl]
theorem bneF {a b : Int} (h : (a != b) = false) : a = b := by simpa using h
end SX
end Go.Proofs.YtgbfemglimebdaaGreatDoor
