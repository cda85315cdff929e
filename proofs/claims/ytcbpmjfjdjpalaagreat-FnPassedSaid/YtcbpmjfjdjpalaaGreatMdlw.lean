/- A wheel that is right, in plain Lean. It imports no program. -/
import Derived.Test.YtcbpmjfjdjpalaaGreatMdlh
namespace Go.Proofs.YtcbpmjfjdjpalaaGreat
namespace SX
set_option linter.unusedVariables false
set_option linter.unusedSimpArgs false
open Go Go.RowKit
def PinR (p : Pin) : Prop := inB p.at' 1 1000008 = true ∧ inB p.id 1 999 = true
def SpokeP (i : Nat) (l : List Pin) : Prop := ∀ (m : Nat) (x : Pin), l[m]? = some x → Int.tmod x.at' 9 = (i : Int) ∧ (0 < m → ∀ y, l[m - 1]? = some y → pinLess y x = true)
def WheelP (wh : Wheel) : Prop :=
  wh.spoke.length = 9 ∧ wh.spoke.flatten.length ≤ 10 ∧ (∀ p ∈ wh.spoke.flatten, PinR p) ∧ (wh.spoke.flatten.map (·.id)).Nodup ∧ ∀ (i : Nat) (l : List Pin), wh.spoke[i]? = some l → SpokeP i l
open Classical in
noncomputable def wheelOk (wh : Wheel) : Bool := decide (WheelP wh)
theorem wheelOk_t {wh : Wheel} (h : WheelP wh) : wheelOk wh = true := by simp [wheelOk, h]
theorem wheelOk_f {wh : Wheel} (h : ¬ WheelP wh) : wheelOk wh = false := by simp [wheelOk, h]
theorem wheelP_of {wh : Wheel} (h : wheelOk wh = true) : WheelP wh := by simpa [wheelOk] using h
/-- no two of the first have one number -/
def Ids (l : List Pin) (k : Nat) : Prop := ∀ (i j : Nat) (x y : Pin), i < j → j < k → l[i]? = some x → l[j]? = some y → x.id ≠ y.id
theorem ids_nodup {l : List Pin} (h : Ids l l.length) : (l.map (·.id)).Nodup := by
  rw [List.Nodup, List.pairwise_iff_getElem]
  intro i j hi hj hij
  simp only [List.length_map] at hi hj
  simp only [List.getElem_map]
  exact h i j l[i] l[j] hij hj (List.getElem?_eq_getElem hi) (List.getElem?_eq_getElem hj)
theorem ids_no {l : List Pin} {i j : Nat} {x y : Pin} (hij : i < j) (hx : l[i]? = some x) (hy : l[j]? = some y) (he : x.id = y.id) : ¬ (l.map (·.id)).Nodup := by
  intro h
  rw [List.Nodup, List.pairwise_iff_getElem] at h
  obtain ⟨h1, rfl⟩ := List.getElem?_eq_some_iff.1 hx
  obtain ⟨h2, rfl⟩ := List.getElem?_eq_some_iff.1 hy
  have := h i j (by simpa using h1) (by simpa using h2) hij
  simp only [List.getElem_map] at this
  exact this he
theorem ids_zero (l : List Pin) : Ids l 0 := fun i j x y _ h => absurd h (Nat.not_lt_zero _)
theorem ids_succ {l : List Pin} {k : Nat} {y : Pin} (h : Ids l k) (hy : l[k]? = some y) (hn : ∀ (i : Nat) (x : Pin), i < k → l[i]? = some x → x.id ≠ y.id) : Ids l (k + 1) := by
  intro i j x z hij hj hx hz
  by_cases hjk : j = k
  · subst hjk; rw [hy] at hz; injection hz with hz; subst hz; exact hn i x hij hx
  · exact h i j x z hij (by omega) hx hz
end SX
end Go.Proofs.YtcbpmjfjdjpalaaGreat
