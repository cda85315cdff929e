/- All offers that are accepted, in plain Lean. It imports no program. -/
import Derived.Test.YthnbaikmbgaddaaGreatMdlj
namespace Go.Proofs.YthnbaikmbgaddaaGreat
namespace SX
set_option linter.unusedVariables false
set_option linter.unusedSimpArgs false
open Go Go.RowKit
/-! ### A scan that is judged -/
noncomputable def jsGo (k : Int) : List Int → House → Option House
  | [], x => some x
  | id :: ids, x => if atId x.parties id < 0 ∨ fitsB x k (partyOf x.parties id) = false ∨ 0 < (passed x k id).length then none else jsGo k ids (offer x k)
noncomputable def judgeScan (h : House) (k : Int) (ids : List Int) : Bool :=
  if hasCab h k then (match jsGo k ids (expireM h k) with
    | none => false
    | some x => !(x.parties.any (fitsB x k))) else false
theorem jsGo_no {k id : Int} {ids : List Int} {x : House} (h : atId x.parties id < 0 ∨ fitsB x k (partyOf x.parties id) = false ∨ 0 < (passed x k id).length) : jsGo k (id :: ids) x = none := by
  simp only [jsGo]; rw [if_pos h]
theorem jsGo_go {k id : Int} {ids : List Int} {x : House} (h1 : ¬ atId x.parties id < 0) (h2 : fitsB x k (partyOf x.parties id) = true) (h3 : ¬ 0 < (passed x k id).length) : jsGo k (id :: ids) x = jsGo k ids (offer x k) := by
  simp only [jsGo]; rw [if_neg]
  rintro (h | h | h)
  · exact h1 h
  · rw [h2] at h; cases h
  · exact h3 h
theorem judgeScan_no {h : House} {k : Int} {ids : List Int} (hc : hasCab h k = false ∨ jsGo k ids (expireM h k) = none) : judgeScan h k ids = false := by
  unfold judgeScan
  rcases hc with hc | hc
  · rw [if_neg (by rw [hc]; decide)]
  · split
    · rw [hc]
    · rfl
theorem judgeScan_yes {h x : House} {k : Int} {ids : List Int} (hc : hasCab h k = true) (hx : jsGo k ids (expireM h k) = some x) : judgeScan h k ids = !(x.parties.any (fitsB x k)) := by
  unfold judgeScan
  rw [if_pos hc, hx]
/-! ### Rows that are marked -/
/-! ### All offers, all jobs, rounds -/
end SX
end Go.Proofs.YthnbaikmbgaddaaGreat
