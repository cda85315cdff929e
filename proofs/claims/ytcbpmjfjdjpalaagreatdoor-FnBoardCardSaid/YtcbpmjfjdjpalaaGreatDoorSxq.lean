/- Rows of cabins that are owned: their elements' slices are read while the row stays whole. It imports no program. -/
import Derived.Test.YtcbpmjfjdjpalaaGreatDoorMdlm
import Derived.Test.YtcbpmjfjdjpalaaGreatDoorSxp
namespace Go.Proofs.YtcbpmjfjdjpalaaGreatDoor
namespace SX
set_option linter.unusedVariables false
open Go Go.RowKit
section
variable {α : Type} {e e1 e2 e3 : TypeId} {L : Lay α} {w : World} {v : Value} {a : Option Addr} {n c : Nat} {cells : List Value}
theorem slX.slO {xs : List α} (h : ∃ f, (slX e L v xs cells).φ w f) : ∃ f, (slA e L v xs).φ w f :=
  let ⟨f, g, h1, h2, h3, h4⟩ := h; ⟨f, cells, g, h1, h2, h3, h4⟩
theorem slX.rdA {xs : List α} (h : ∃ f, (slX e L (.slice a n c) xs cells).φ w f) : Rd L w a xs := let ⟨f, h⟩ := slX.slO h; Rd.own ⟨f, h⟩
theorem slX.reps {xs : List α} (h : ∃ f, (slX e L (.slice a n c) xs cells).φ w f) {k : Nat} {x : α} (hk : xs[k]? = some x) : ∃ g, L.rep true w ((cells.drop (k * L.sz)).take L.sz) x g := by
  obtain ⟨f, g, h1, _, h3, _⟩ := h
  obtain ⟨cs, g', hr, _, hc⟩ := h3.at_ k hk
  have hl := L.len hr
  have he : (cells.drop (k * L.sz)).take L.sz = cs := by
    apply List.ext_getElem?
    intro j
    rw [List.getElem?_take, List.getElem?_drop]
    split
    · exact hc j (by omega)
    · rw [List.getElem?_eq_none (by omega)]
  rw [he]; exact ⟨g', hr⟩
theorem slX.cabin {xs : List Cabin} (h : ∃ f, (slX e (cabinLx e1 e2 e3) (.slice a n c) xs cells).φ w f) {k : Nat} {x : Cabin} (hk : xs[k]? = some x) :
    ∃ a1 c1 a2 c2, (cells.drop (k * 7)).take 7 = [vi x.seats.total, vi x.seats.free, vi x.seats.held, vi x.seats.sold, vi x.seats.tied, .slice a1 x.row.length c1, .slice a2 x.wheel.spoke.length c2] ∧ x.row.length ≤ c1 ∧ x.wheel.spoke.length ≤ c2 := by
  obtain ⟨g, hr⟩ := slX.reps h hk
  obtain ⟨⟨⟨a1, c1⟩, ⟨a2, c2⟩⟩, fps, he, hh, _⟩ := cabinHun w _ g hr
  match fps, hh with
  | [f1, f2], ⟨h1, h2, _⟩ => exact ⟨a1, c1, a2, c2, he, SlO.capE ⟨f1, h1⟩, SlO.capE ⟨f2, h2⟩⟩
theorem slX.cabinRow {xs : List Cabin} (h : ∃ f, (slX e (cabinLx e1 e2 e3) (.slice a n c) xs cells).φ w f) {k : Nat} {x : Cabin} (hk : xs[k]? = some x) {a1 a2 : Option Addr} {c1 c2 : Nat}
    (hc : (cells.drop (k * 7)).take 7 = [vi x.seats.total, vi x.seats.free, vi x.seats.held, vi x.seats.sold, vi x.seats.tied, .slice a1 x.row.length c1, .slice a2 x.wheel.spoke.length c2]) : Rd entryL w a1 x.row := by
  obtain ⟨g, hr⟩ := slX.reps h hk
  obtain ⟨⟨⟨b1, d1⟩, ⟨b2, d2⟩⟩, fps, he, hh, _⟩ := cabinHun w _ g hr
  have he2 := (show (cells.drop (k * 7)).take 7 = _ from he).symm.trans hc
  simp only [List.cons.injEq, Value.slice.injEq, true_and, and_true] at he2
  obtain ⟨⟨rfl, rfl⟩, rfl, rfl⟩ := he2
  match fps, hh with
  | [f1, f2], ⟨h1, h2, _⟩ => exact Rd.own ⟨f1, h1⟩
end
end SX
end Go.Proofs.YtcbpmjfjdjpalaaGreatDoor
