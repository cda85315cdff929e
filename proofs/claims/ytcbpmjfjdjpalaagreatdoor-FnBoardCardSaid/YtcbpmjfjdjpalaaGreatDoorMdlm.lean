/- What the laws do with a house: copy it, mark it, compare it, weigh it; in plain Lean. It imports no program. -/
import Derived.Test.YtcbpmjfjdjpalaaGreatDoorMdlq
namespace Go.Proofs.YtcbpmjfjdjpalaaGreatDoor
namespace SX
set_option linter.unusedVariables false
set_option linter.unusedSimpArgs false
open Go Go.RowKit
/-! ### Elements that hold slices -/
theorem nestRepN {α : Type} {e e' : TypeId} {L : Lay α} {a : Option Addr} {n c : Nat} {x : List α} : ∀ w fps, holds w [slA e L (.slice a n c) x] fps → (sl e L).rep true w [.slice a n c] x fps.flatten := by
  intro w fps h
  match fps, h with
  | [f], ⟨h1, _⟩ =>
    have hn := (SlO.lenE ⟨f, h1⟩).1
    subst hn
    exact ⟨a, c, rfl, by simp only [if_true, List.flatten_cons, List.flatten_nil, List.append_nil]; exact h1⟩
theorem cabinHun {e1 e2 e3 : TypeId} {x : Cabin} : ∀ w cs f, (cabinLx e1 e2 e3).rep true w cs x f → ∃ (i : HH × HH) (fps : List (List Nat)), cs = [vi x.seats.total, vi x.seats.free, vi x.seats.held, vi x.seats.sold, vi x.seats.tied, .slice i.1.1 x.row.length i.1.2, .slice i.2.1 x.wheel.spoke.length i.2.2] ∧
    holds w [slA e1 entryL (.slice i.1.1 x.row.length i.1.2) x.row, slA e2 (sl e3 pinL) (.slice i.2.1 x.wheel.spoke.length i.2.2) x.wheel.spoke] fps ∧ fps.flatten = f := by
  rintro w cs f ⟨d1, d2, f1, f2, rfl, rfl, ⟨rfl, rfl⟩, d3, d4, f3, f4, rfl, rfl, ⟨a1, c1, rfl, h1⟩, ⟨a2, c2, rfl, h2⟩⟩
  simp only [if_true] at h1 h2
  exact ⟨((a1, c1), (a2, c2)), [f3, f4], rfl, ⟨h1, h2, trivial⟩, by simp⟩
/-! ### Marks -/
/-! ### Sizes -/
def CabinSz (c : Cabin) : Prop := c.row.length ≤ 1048576 ∧ c.wheel.spoke.length ≤ 1048576 ∧ c.wheel.spoke.flatten.length ≤ 1048576
def HouseSz (h : House) : Prop := h.rules.seats.length ≤ 1048576 ∧ h.parties.length ≤ 1048576 ∧ h.cabins.length ≤ 1048576 ∧ h.todo.length ≤ 1048576 ∧ h.jobs.length ≤ 1048576 ∧ ∀ c ∈ h.cabins, CabinSz c
/-! ### Comparing -/
end SX
end Go.Proofs.YtcbpmjfjdjpalaaGreatDoor
