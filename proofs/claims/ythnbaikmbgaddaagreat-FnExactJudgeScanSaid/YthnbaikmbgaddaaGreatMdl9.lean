/- Texts of this claim, put together by program. -/
import Derived.Test.YthnbaikmbgaddaaGreatSx6
import Derived.Test.YthnbaikmbgaddaaGreatSxs
import Derived.Test.YthnbaikmbgaddaaGreatSxe
/- The data and the plain functions: rules, parties' requests, events. No program is in sight. -/
namespace Go.Proofs.YthnbaikmbgaddaaGreat
namespace SX
open Go
structure Rules where
  seats : List Int
  tiers : Int
  room : Int
  size : Int
  period : Int
  window : Int
  rest : Int
  tries : Int
  crew : Int
structure Req where
  kind : Int
  id : Int
  cabin : Int
  from' : Int
  size : Int
  tier : Int
structure Act where
  kind : Int
  req : Req
  n : Int
  keep : List Int
def inB (n lo hi : Int) : Bool := decide (lo ≤ n) && decide (n ≤ hi)
def eqInts : List Int → List Int → Bool
  | [], [] => true
  | x :: xs, y :: ys => if x != y then false else eqInts xs ys
  | _, _ => false
def allSeats : List Int → Bool
  | [] => true
  | z :: zs => inB z 1 60 && allSeats zs
def rulesOk (r : Rules) : Bool :=
  inB r.seats.length 1 4 && inB r.tiers 1 5 && inB r.room 1 10 && inB r.size 1 6 && inB r.period 1 12 && inB r.window 1 8 && inB r.rest 0 8 && inB r.tries 1 4 && inB r.crew 1 3 && allSeats r.seats
def eqRules (a b : Rules) : Bool :=
  if !(eqInts a.seats b.seats) then false else if a.tiers != b.tiers then false else if a.room != b.room then false else if a.size != b.size then false else if a.period != b.period then false else
  if a.window != b.window then false else if a.rest != b.rest then false else if a.tries != b.tries then false else if a.crew != b.crew then false else true
theorem drop_get {α : Type} {xs : List α} {k : Nat} {y : α} (h : xs[k]? = some y) : xs.drop k = y :: xs.drop (k + 1) := by
  obtain ⟨hk, rfl⟩ := List.getElem?_eq_some_iff.1 h
  exact List.drop_eq_getElem_cons hk
theorem eqInts_eq : ∀ (a b : List Int), eqInts a b = decide (a = b)
  | [], [] => by simp [eqInts]
  | [], _ :: _ => by simp [eqInts]
  | _ :: _, [] => by simp [eqInts]
  | x :: xs, y :: ys => by
    simp only [eqInts, eqInts_eq xs ys]
    by_cases h : x = y <;> simp [h]
theorem eqInts_ne {a b : List Int} (h : a.length ≠ b.length) : eqInts a b = false := by
  rw [eqInts_eq, decide_eq_false_iff_not]; rintro rfl; exact h rfl
theorem eqInts_refl (a : List Int) : eqInts a a = true := by simp [eqInts_eq]
theorem eqRules_refl (a : Rules) : eqRules a a = true := by simp [eqRules, eqInts_refl]
def usedB (n : Int) : Bool := inB n 0 9999
def reqEq (a b : Req) : Bool := a.kind == b.kind && (a.id == b.id && (a.cabin == b.cabin && (a.from' == b.from' && (a.size == b.size && (a.tier == b.tier && true)))))
def reqOk (q : Req) : Bool :=
  if q.kind == 1 then usedB q.id && usedB q.cabin && inB q.from' (-1) 9999 && usedB q.size && usedB q.tier
  else if q.kind == 2 || q.kind == 4 || q.kind == 5 || q.kind == 7 then usedB q.id && reqEq q ⟨q.kind, q.id, 0, 0, 0, 0⟩
  else if q.kind == 3 then usedB q.cabin && (usedB q.size && reqEq q ⟨q.kind, 0, q.cabin, 0, q.size, 0⟩)
  else if q.kind == 6 then reqEq q ⟨q.kind, 0, 0, 0, 0, 0⟩
  else false
theorem bneF {a b : Int} (h : (a != b) = false) : a = b := by simpa using h
end SX
end Go.Proofs.YthnbaikmbgaddaaGreat
/- What the functions on bytes, frames and records come to, in plain Lean. It imports no program. -/
namespace Go.Proofs.YthnbaikmbgaddaaGreat
namespace SX
set_option linter.unusedVariables false
set_option linter.unusedSimpArgs false
end SX
end Go.Proofs.YthnbaikmbgaddaaGreat
/- The data of a house: parties, entries, pins, wheels, ledgers, cabins; how they lie. It imports no program. -/
namespace Go.Proofs.YthnbaikmbgaddaaGreat
namespace SX
set_option linter.unusedVariables false
set_option linter.unusedSimpArgs false
open Go Go.RowKit
structure Party where
  id : Int
  cabin : Int
  from' : Int
  size : Int
  tier : Int
  since : Int
  turn : Int
  state : Int
  until' : Int
  asked : Int
structure Entry where
  level : Int
  turn : Int
  id : Int
  size : Int
structure Pin where
  at' : Int
  id : Int
structure Wheel where
  spoke : List (List Pin)
structure Ledger where
  total : Int
  free : Int
  held : Int
  sold : Int
  tied : Int
structure Cabin where
  seats : Ledger
  row : List Entry
  wheel : Wheel
structure House where
  rules : Rules
  now : Int
  turn : Int
  parties : List Party
  cabins : List Cabin
  todo : List Int
  jobs : List Int
def partyE (p : Party) : List Value := [vi p.id, vi p.cabin, vi p.from', vi p.size, vi p.tier, vi p.since, vi p.turn, vi p.state, vi p.until', vi p.asked]
theorem partyH (p : Party) : (partyE p).length = 10 ∧ ∀ u ∈ partyE p, isCell u = true := ⟨rfl, by simp [partyE, isCell]⟩
def partyL : Lay Party := flat 10 partyE partyH
def entryE (p : Entry) : List Value := [vi p.level, vi p.turn, vi p.id, vi p.size]
theorem entryH (p : Entry) : (entryE p).length = 4 ∧ ∀ u ∈ entryE p, isCell u = true := ⟨rfl, by simp [entryE, isCell]⟩
def entryL : Lay Entry := flat 4 entryE entryH
def pinE (p : Pin) : List Value := [vi p.at', vi p.id]
theorem pinH (p : Pin) : (pinE p).length = 2 ∧ ∀ u ∈ pinE p, isCell u = true := ⟨rfl, by simp [pinE, isCell]⟩
def pinL : Lay Pin := flat 2 pinE pinH
def ledgerE (p : Ledger) : List Value := [vi p.total, vi p.free, vi p.held, vi p.sold, vi p.tied]
theorem ledgerH (p : Ledger) : (ledgerE p).length = 5 ∧ ∀ u ∈ ledgerE p, isCell u = true := ⟨rfl, by simp [ledgerE, isCell]⟩
def ledgerL : Lay Ledger := flat 5 ledgerE ledgerH
/-- a cabin; the numbers are those of the elements' types -/
def cabinLx (e1 e2 e3 : TypeId) : Lay Cabin := viaL (prodL ledgerL (prodL (sl e1 entryL) (sl e2 (sl e3 pinL)))) fun c => (c.seats, c.row, c.wheel.spoke)
theorem cabinRep {e1 e2 e3 : TypeId} {c : Cabin} {a1 a2 : Option Addr} {c1 c2 : Nat} : ∀ w fps, holds w [slA e1 entryL (.slice a1 c.row.length c1) c.row, slA e2 (sl e3 pinL) (.slice a2 c.wheel.spoke.length c2) c.wheel.spoke] fps →
    (cabinLx e1 e2 e3).rep true w [vi c.seats.total, vi c.seats.free, vi c.seats.held, vi c.seats.sold, vi c.seats.tied, .slice a1 c.row.length c1, .slice a2 c.wheel.spoke.length c2] c fps.flatten := by
  intro w fps h
  match fps, h with
  | [f1, f2], ⟨h1, h2, _⟩ =>
    refine ⟨[vi c.seats.total, vi c.seats.free, vi c.seats.held, vi c.seats.sold, vi c.seats.tied], [.slice a1 c.row.length c1, .slice a2 c.wheel.spoke.length c2], [], f1 ++ f2, rfl, by simp, ⟨rfl, rfl⟩, [.slice a1 c.row.length c1], [.slice a2 c.wheel.spoke.length c2], f1, f2, rfl, rfl, ⟨a1, c1, rfl, ?_⟩, ⟨a2, c2, rfl, ?_⟩⟩
    · simp only [if_true]; exact h1
    · simp only [if_true]; exact h2
theorem cabin_view {e1 e2 e3 : TypeId} {W : World} {a : Option Addr} {xs : List Cabin} (h : Rd (cabinLx e1 e2 e3) W a xs) {k : Nat} {c : Cabin} (hk : xs[k]? = some c) :
    ∃ (a1 : Option Addr) (c1 : Nat) (a2 : Option Addr) (c2 : Nat), ElemAt W a (k * 7) [vi c.seats.total, vi c.seats.free, vi c.seats.held, vi c.seats.sold, vi c.seats.tied, .slice a1 c.row.length c1, .slice a2 c.wheel.spoke.length c2] ∧
      Rd entryL W a1 c.row ∧ Rd (sl e3 pinL) W a2 c.wheel.spoke ∧ c.row.length ≤ c1 ∧ c.wheel.spoke.length ≤ c2 := by
  obtain ⟨cs, g, ⟨d1, d2, f1, f2, rfl, rfl, ⟨rfl, rfl⟩, d3, d4, f3, f4, rfl, rfl, ⟨a1, c1, rfl, h1⟩, ⟨a2, c2, rfl, h2⟩⟩, hel⟩ := h.elem hk
  simp only [Bool.false_eq_true, if_false] at h1 h2
  exact ⟨a1, c1, a2, c2, hel, ⟨_, h1.2⟩, ⟨_, h2.2⟩, h1.1, h2.1⟩
def pinLess (a b : Pin) : Bool := decide (a.at' < b.at') || (a.at' == b.at' && decide (a.id < b.id))
def entryLess (a b : Entry) : Bool := decide (a.level < b.level) || (a.level == b.level && decide (a.turn < b.turn))
theorem tmod_rng {a n : Int} (h0 : 0 ≤ a) (hn : 0 < n) : 0 ≤ Int.tmod a n ∧ (n ≤ 0 → Int.tmod a n = 0) ∧ (0 < n → Int.tmod a n < n) := by
  rw [Int.tmod_eq_emod_of_nonneg h0]
  have h1 := Int.emod_nonneg a (show n ≠ 0 by omega)
  have h2 := Int.emod_lt_of_pos a hn
  exact ⟨h1, fun h => by omega, fun _ => h2⟩
theorem flat_mem {α : Type} {xss : List (List α)} {k : Nat} {x : List α} (h : xss[k]? = some x) : x.length ≤ xss.flatten.length := by
  induction xss generalizing k with
  | nil => simp at h
  | cons y ys ih =>
    simp only [List.flatten_cons, List.length_append]
    cases k with
    | zero => simp only [List.getElem?_cons_zero, Option.some.injEq] at h; subst h; omega
    | succ k => have := ih (k := k) (by simpa using h); omega
end SX
end Go.Proofs.YthnbaikmbgaddaaGreat
