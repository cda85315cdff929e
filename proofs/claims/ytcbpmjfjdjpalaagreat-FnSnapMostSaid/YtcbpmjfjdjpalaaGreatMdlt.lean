/- Chains of upgrades, in plain Lean. It imports no program. -/
import Derived.Test.YtcbpmjfjdjpalaaGreatMdlr
namespace Go.Proofs.YtcbpmjfjdjpalaaGreat
namespace SX
set_option linter.unusedVariables false
set_option linter.unusedSimpArgs false
open Go Go.RowKit
def todoPut (l : List Int) (x : Int) : List Int := if l.any (fun e => e == x) then l else l ++ [x]
theorem any_swap (l : List Int) (x : Int) : l.any (fun e => x == e) = l.any (fun e => e == x) := by
  congr 1; funext e; rw [Bool.eq_iff_iff, beq_iff_eq, beq_iff_eq]; exact eq_comm
theorem todoPut_t {l : List Int} {x : Int} (h : l.any (fun e => e == x) = true) : todoPut l x = l := by simp only [todoPut, h, if_true]
theorem todoPut_f {l : List Int} {x : Int} (h : l.any (fun e => e == x) = false) : todoPut l x = l ++ [x] := by simp only [todoPut, h, Bool.false_eq_true, if_false]
theorem todoPut_len (l : List Int) (x : Int) : (todoPut l x).length ≤ l.length + 1 := by unfold todoPut; split <;> simp
/-- distinct numbers below n -/
def Few (n : Nat) (l : List Int) : Prop := l.Nodup ∧ ∀ x ∈ l, 0 ≤ x ∧ x < (n : Int)
theorem Few.put {n : Nat} {l : List Int} {x : Int} (h : Few n l) (h0 : 0 ≤ x) (h1 : x < (n : Int)) : Few n (todoPut l x) := by
  unfold todoPut
  split
  · exact h
  · rename_i hx
    have hx' : x ∉ l := fun hm => hx (by rw [List.any_eq_true]; exact ⟨x, hm, by simp⟩)
    refine ⟨List.nodup_append.2 ⟨h.1, by simp, fun a ha b hb e => ?_⟩, fun y hy => ?_⟩
    · simp at hb; subst hb; subst e; exact hx' ha
    · rcases List.mem_append.1 hy with hy | hy
      · exact h.2 y hy
      · simp at hy; subst hy; exact ⟨h0, h1⟩
/-! ### Sorted numbers -/
end SX
end Go.Proofs.YtcbpmjfjdjpalaaGreat
