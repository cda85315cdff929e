/- The data of a house: parties, entries, pins, wheels, ledgers, cabins; how they lie. It imports no program. -/
import Derived.Test.YtcbpmjfjdjpalaaGreatMdl2
import Derived.Test.YtcbpmjfjdjpalaaGreatSxn
namespace Go.Proofs.YtcbpmjfjdjpalaaGreat
namespace SX
set_option linter.unusedVariables false
set_option linter.unusedSimpArgs false
open Go Go.RowKit
structure Party where
  id : Int
  cabin : Int
  from' : Int
  size : Int
  tier : Int
  since : Int
  turn : Int
  state : Int
  until' : Int
  asked : Int
structure Entry where
  level : Int
  turn : Int
  id : Int
  size : Int
structure Pin where
  at' : Int
  id : Int
structure Wheel where
  spoke : List (List Pin)
structure Ledger where
  total : Int
  free : Int
  held : Int
  sold : Int
  tied : Int
structure Cabin where
  seats : Ledger
  row : List Entry
  wheel : Wheel
structure House where
  rules : Rules
  now : Int
  turn : Int
  parties : List Party
  cabins : List Cabin
  todo : List Int
  jobs : List Int
def partyE (p : Party) : List Value := [vi p.id, vi p.cabin, vi p.from', vi p.size, vi p.tier, vi p.since, vi p.turn, vi p.state, vi p.until', vi p.asked]
theorem partyH (p : Party) : (partyE p).length = 10 ∧ ∀ u ∈ partyE p, isCell u = true := ⟨rfl, by simp [partyE, isCell]⟩
def partyL : Lay Party := flat 10 partyE partyH
def entryE (p : Entry) : List Value := [vi p.level, vi p.turn, vi p.id, vi p.size]
theorem entryH (p : Entry) : (entryE p).length = 4 ∧ ∀ u ∈ entryE p, isCell u = true := ⟨rfl, by simp [entryE, isCell]⟩
def entryL : Lay Entry := flat 4 entryE entryH
def pinE (p : Pin) : List Value := [vi p.at', vi p.id]
theorem pinH (p : Pin) : (pinE p).length = 2 ∧ ∀ u ∈ pinE p, isCell u = true := ⟨rfl, by simp [pinE, isCell]⟩
def pinL : Lay Pin := flat 2 pinE pinH
def ledgerE (p : Ledger) : List Value := [vi p.total, vi p.free, vi p.held, vi p.sold, vi p.tied]
theorem ledgerH (p : Ledger) : (ledgerE p).length = 5 ∧ ∀ u ∈ ledgerE p, isCell u = true := ⟨rfl, by simp [ledgerE, isCell]⟩
def ledgerL : Lay Ledger := flat 5 ledgerE ledgerH
/-- a cabin; the numbers are those of the elements' types -/
def cabinLx (e1 e2 e3 : TypeId) : Lay Cabin := viaL (prodL ledgerL (prodL (sl e1 entryL) (sl e2 (sl e3 pinL)))) fun c => (c.seats, c.row, c.wheel.spoke)
theorem cabinRep {e1 e2 e3 : TypeId} {c : Cabin} {a1 a2 : Option Addr} {c1 c2 : Nat} : ∀ w fps, holds w [slA e1 entryL (.slice a1 c.row.length c1) c.row, slA e2 (sl e3 pinL) (.slice a2 c.wheel.spoke.length c2) c.wheel.spoke] fps →
    (cabinLx e1 e2 e3).rep true w [vi c.seats.total, vi c.seats.free, vi c.seats.held, vi c.seats.sold, vi c.seats.tied, .slice a1 c.row.length c1, .slice a2 c.wheel.spoke.length c2] c fps.flatten := by
  intro w fps h
  match fps, h with
  | [f1, f2], ⟨h1, h2, _⟩ =>
    refine ⟨[vi c.seats.total, vi c.seats.free, vi c.seats.held, vi c.seats.sold, vi c.seats.tied], [.slice a1 c.row.length c1, .slice a2 c.wheel.spoke.length c2], [], f1 ++ f2, rfl, by simp, ⟨rfl, rfl⟩, [.slice a1 c.row.length c1], [.slice a2 c.wheel.spoke.length c2], f1, f2, rfl, rfl, ⟨a1, c1, rfl, ?_⟩, ⟨a2, c2, rfl, ?_⟩⟩
    · simp only [if_true]; exact h1
    · simp only [if_true]; exact h2
theorem cabin_view {e1 e2 e3 : TypeId} {W : World} {a : Option Addr} {xs : List Cabin} (h : Rd (cabinLx e1 e2 e3) W a xs) {k : Nat} {c : Cabin} (hk : xs[k]? = some c) :
    ∃ (a1 : Option Addr) (c1 : Nat) (a2 : Option Addr) (c2 : Nat), ElemAt W a (k * 7) [vi c.seats.total, vi c.seats.free, vi c.seats.held, vi c.seats.sold, vi c.seats.tied, .slice a1 c.row.length c1, .slice a2 c.wheel.spoke.length c2] ∧
      Rd entryL W a1 c.row ∧ Rd (sl e3 pinL) W a2 c.wheel.spoke ∧ c.row.length ≤ c1 ∧ c.wheel.spoke.length ≤ c2 := by
  obtain ⟨cs, g, ⟨d1, d2, f1, f2, rfl, rfl, ⟨rfl, rfl⟩, d3, d4, f3, f4, rfl, rfl, ⟨a1, c1, rfl, h1⟩, ⟨a2, c2, rfl, h2⟩⟩, hel⟩ := h.elem hk
  simp only [Bool.false_eq_true, if_false] at h1 h2
  exact ⟨a1, c1, a2, c2, hel, ⟨_, h1.2⟩, ⟨_, h2.2⟩, h1.1, h2.1⟩
def pinLess (a b : Pin) : Bool := decide (a.at' < b.at') || (a.at' == b.at' && decide (a.id < b.id))
def entryLess (a b : Entry) : Bool := decide (a.level < b.level) || (a.level == b.level && decide (a.turn < b.turn))
theorem tmod_rng {a n : Int} (h0 : 0 ≤ a) (hn : 0 < n) : 0 ≤ Int.tmod a n ∧ (n ≤ 0 → Int.tmod a n = 0) ∧ (0 < n → Int.tmod a n < n) := by
  rw [Int.tmod_eq_emod_of_nonneg h0]
  have h1 := Int.emod_nonneg a (show n ≠ 0 by omega)
  have h2 := Int.emod_lt_of_pos a hn
  exact ⟨h1, fun h => by omega, fun _ => h2⟩
theorem four_bytes {x y z w : Int} (hx : 0 ≤ x ∧ x < 256) (hy : 0 ≤ y ∧ y < 256) (hz : 0 ≤ z ∧ z < 256) (hw : 0 ≤ w ∧ w < 256) : 0 ≤ wr (wr (wr (wr (x * 16777216) + wr (y * 65536)) + wr (z * 256)) + w) := by
  rw [wr_of (x := x * 16777216) (by omega) (by omega), wr_of (x := y * 65536) (by omega) (by omega), wr_of (x := z * 256) (by omega) (by omega), wr_of (x := x * 16777216 + y * 65536) (by omega) (by omega),
    wr_of (x := x * 16777216 + y * 65536 + z * 256) (by omega) (by omega), wr_of (by omega) (by omega)]
  omega
theorem flat_mem {α : Type} {xss : List (List α)} {k : Nat} {x : List α} (h : xss[k]? = some x) : x.length ≤ xss.flatten.length := by
  induction xss generalizing k with
  | nil => simp at h
  | cons y ys ih =>
    simp only [List.flatten_cons, List.length_append]
    cases k with
    | zero => simp only [List.getElem?_cons_zero, Option.some.injEq] at h; subst h; omega
    | succ k => have := ih (k := k) (by simpa using h); omega
end SX
end Go.Proofs.YtcbpmjfjdjpalaaGreat
