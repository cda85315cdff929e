/- What the functions on replies and scripts come to, in plain Lean. It imports no program. -/
import Derived.Test.YtgbfemglimebdaaGreatDoorMdl4
import Derived.Lib.Join
namespace Go.Proofs.YtgbfemglimebdaaGreatDoor
namespace SX
set_option linter.unusedVariables false
set_option linter.unusedSimpArgs false
open Go Go.RowKit
structure Reply where
  code : Int
  ids : List Int
def codeWords : List (List UInt8) := [[100, 111, 110, 101], [104, 111, 117, 115, 101], [107, 105, 110, 100], [102, 111, 114, 109], [99, 97, 98, 105, 110], [115, 105, 122, 101], [116, 105, 101, 114], [105, 100], [116, 104, 101, 114, 101], [102, 117, 108, 108], [116, 105, 101, 100], [116, 117, 114, 110], [115, 101, 97, 116, 115], [111, 102, 102, 101, 114], [108, 97, 116, 101], [99, 108, 111, 99, 107], [99, 114, 101, 119], [105, 100, 108, 101]]
def codeWord (c : Int) : List UInt8 := if inB c 0 17 then (codeWords[c.toNat]?).getD [] else [63]
theorem codeWord_of {c : Int} {x : List UInt8} (hc : inB c 0 17 = true) (h : codeWords[c.toNat]? = some x) : x = codeWord c := by unfold codeWord; rw [if_pos hc, h]; rfl
theorem codeWord_len (c : Int) : (codeWord c).length ≤ 5 := by
  unfold codeWord
  split
  · rcases Nat.lt_or_ge c.toNat codeWords.length with h | h
    · rw [List.getElem?_eq_getElem h]
      have : ∀ x ∈ codeWords, x.length ≤ 5 := by decide
      exact this _ (List.getElem_mem h)
    · rw [List.getElem?_eq_none h]; simp
  · simp
theorem wr17 : wr (18 - 1) = 17 := by decide
def replyLine (r : Reply) : List UInt8 := joinSp (codeWord r.code) r.ids
def szReply (a : Reply) (left : Int) : Int := if szInts a.ids left < 0 then -1 else szInts a.ids left
theorem szReply_len {a : Reply} (hl : a.ids.length ≤ 9223372036854775807) (h : ¬ szReply a 1048576 < 0) : a.ids.length ≤ 1048576 := by
  unfold szReply at h
  split at h
  · omega
  · rename_i h1
    have := szInts_len (by omega) (by omega) hl h1
    omega
def eqReply (a b : Reply) : Bool := if a.code != b.code then false else if !(eqInts a.ids b.ids) then false else true
theorem eqReply_refl (a : Reply) : eqReply a a = true := by simp [eqReply, eqInts_refl]

/-! ### Scripts -/
def reqE (q : Req) : List Value := [vi q.kind, vi q.id, vi q.cabin, vi q.from', vi q.size, vi q.tier]
theorem reqH (q : Req) : (reqE q).length = 6 ∧ ∀ u ∈ reqE q, isCell u = true := ⟨rfl, by simp [reqE, isCell]⟩
def reqL : Lay Req := flat 6 reqE reqH
def szReqs (xs : List Req) (left : Int) : Int := if wr (left - xs.length) < 0 then -1 else wr (left - xs.length)
theorem szReqs_len {xs : List Req} {L : Int} (h0 : 0 ≤ L) (h1 : L ≤ 1048576) (hl : xs.length ≤ 9223372036854775807) (h : ¬ szReqs xs L < 0) : xs.length ≤ L := by
  unfold szReqs at h
  rw [wr_of (by omega) (by omega)] at h
  split at h <;> omega
def eqReqs : List Req → List Req → Bool
  | [], [] => true
  | x :: xs, y :: ys => if !(eqReq x y) then false else eqReqs xs ys
  | _, _ => false
theorem eqReqs_refl : ∀ (a : List Req), eqReqs a a = true
  | [] => rfl
  | x :: xs => by simp [eqReqs, eqReq_refl, eqReqs_refl xs]
theorem eqReqs_ne : ∀ {a b : List Req}, a.length ≠ b.length → eqReqs a b = false
  | [], [], h => absurd rfl h
  | [], _ :: _, _ => rfl
  | _ :: _, [], _ => rfl
  | x :: xs, y :: ys, h => by
    have := eqReqs_ne (a := xs) (b := ys) (by simpa using h)
    simp [eqReqs, this]
def scriptGo : Nat → List UInt8 → List Req → List UInt8
  | _, out, [] => out
  | k, out, q :: qs => if reqLine q = [] then [] else scriptGo (k + 1) ((if k = 0 then out else out ++ [10]) ++ reqLine q) qs
def scriptText (l : List Req) : List UInt8 := if 200 < l.length then [] else scriptGo 0 [] l
def linesGo : List (List UInt8) → List Req → List UInt8
  | ls, [] => Lib.join ls [10]
  | ls, q :: qs => if reqLine q = [] then [] else linesGo (ls ++ [reqLine q]) qs
theorem join_snoc (ls : List (List UInt8)) (x : List UInt8) : Lib.join (ls ++ [x]) [10] = (if ls.length = 0 then Lib.join ls [10] else Lib.join ls [10] ++ [10]) ++ x := by
  cases ls with
  | nil => simp [Lib.join_one, Lib.join_nil]
  | cons y ys => simp [Lib.join_cons, Lib.joinTail]
theorem linesGo_eq : ∀ (qs : List Req) (ls : List (List UInt8)), linesGo ls qs = scriptGo ls.length (Lib.join ls [10]) qs
  | [], ls => rfl
  | q :: qs, ls => by
    simp only [linesGo, scriptGo, linesGo_eq qs, join_snoc, List.length_append, List.length_cons, List.length_nil]
theorem join_len : ∀ (ls : List (List UInt8)) (m : Nat), (∀ x ∈ ls, x.length ≤ m) → (Lib.join ls [10]).length ≤ (m + 1) * ls.length
  | [], m, _ => by simp [Lib.join_nil]
  | [x], m, h => by have := h x (by simp); simp [Lib.join_one]; omega
  | x :: y :: ys, m, h => by
    have ih := join_len (y :: ys) m (fun z hz => h z (by simp [hz]))
    have hx := h x (by simp)
    rw [Lib.join_cons] at ih ⊢
    simp only [Lib.joinTail, List.map_cons, List.flatten_cons, List.length_append, List.length_cons, List.length_nil, Nat.mul_add, Nat.add_mul] at *
    omega
theorem scriptText_of {l : List Req} (h : ¬ 200 < l.length) : scriptText l = linesGo [] l := by rw [scriptText, if_neg h, linesGo_eq]; rfl
end SX
end Go.Proofs.YtgbfemglimebdaaGreatDoor
