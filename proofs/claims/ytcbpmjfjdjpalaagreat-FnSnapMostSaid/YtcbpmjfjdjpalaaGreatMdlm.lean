/- What the laws do with a house: copy it, mark it, compare it, weigh it; in plain Lean. It imports no program. -/
import Derived.Test.YtcbpmjfjdjpalaaGreatMdlq
namespace Go.Proofs.YtcbpmjfjdjpalaaGreat
namespace SX
set_option linter.unusedVariables false
set_option linter.unusedSimpArgs false
open Go Go.RowKit
/-! ### Elements that hold slices -/
theorem nestRepN {α : Type} {e e' : TypeId} {L : Lay α} {a : Option Addr} {n c : Nat} {x : List α} : ∀ w fps, holds w [slA e L (.slice a n c) x] fps → (sl e L).rep true w [.slice a n c] x fps.flatten := by
  intro w fps h
  match fps, h with
  | [f], ⟨h1, _⟩ =>
    have hn := (SlO.lenE ⟨f, h1⟩).1
    subst hn
    exact ⟨a, c, rfl, by simp only [if_true, List.flatten_cons, List.flatten_nil, List.append_nil]; exact h1⟩
/-! ### Marks -/
/-! ### Sizes -/
def CabinSz (c : Cabin) : Prop := c.row.length ≤ 1048576 ∧ c.wheel.spoke.length ≤ 1048576 ∧ c.wheel.spoke.flatten.length ≤ 1048576
def HouseSz (h : House) : Prop := h.rules.seats.length ≤ 1048576 ∧ h.parties.length ≤ 1048576 ∧ h.cabins.length ≤ 1048576 ∧ h.todo.length ≤ 1048576 ∧ h.jobs.length ≤ 1048576 ∧ ∀ c ∈ h.cabins, CabinSz c
/-! ### Comparing -/
end SX
end Go.Proofs.YtcbpmjfjdjpalaaGreat
