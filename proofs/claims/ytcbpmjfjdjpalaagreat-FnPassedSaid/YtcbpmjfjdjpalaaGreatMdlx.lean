/- Rows, cabins and houses that are right, in plain Lean: the exact models. It imports no program. -/
import Derived.Test.YtcbpmjfjdjpalaaGreatMdlw
namespace Go.Proofs.YtcbpmjfjdjpalaaGreat
namespace SX
set_option linter.unusedVariables false
set_option linter.unusedSimpArgs false
open Go Go.RowKit
def EntryR (e : Entry) : Prop := inB e.level 0 4 = true ∧ inB e.turn 1 1000000 = true ∧ inB e.id 1 999 = true ∧ inB e.size 1 6 = true
/-- a row that is right -/
def QueueP (l : List Entry) : Prop :=
  l.length ≤ 10 ∧ ∀ (i : Nat) (e : Entry), l[i]? = some e → EntryR e ∧ (0 < i → ∀ y, l[i - 1]? = some y → entryLess y e = true) ∧ ∀ (j : Nat) (y : Entry), j < i → l[j]? = some y → y.id ≠ e.id
open Classical in
noncomputable def queueOk (l : List Entry) : Bool := decide (QueueP l)
theorem queueOk_t {l : List Entry} (h : QueueP l) : queueOk l = true := by simp [queueOk, h]
theorem queueOk_f {l : List Entry} (h : ¬ QueueP l) : queueOk l = false := by simp [queueOk, h]
theorem queueP_of {l : List Entry} (h : queueOk l = true) : QueueP l := by simpa [queueOk] using h
/-- where an entry of this number stands first -/
def queueAt : List Entry → Int → Nat → Int
  | [], _, _ => -1
  | e :: es, id, k => if e.id == id then (k : Int) else queueAt es id (k + 1)
theorem queueAt_spec : ∀ (l : List Entry) (id : Int) (k : Nat), (queueAt l id k = -1 ∧ ∀ e ∈ l, e.id ≠ id) ∨ (∃ (i : Nat) (e : Entry), l[i]? = some e ∧ e.id = id ∧ queueAt l id k = ((k + i : Nat) : Int) ∧ ∀ (j : Nat) (y : Entry), j < i → l[j]? = some y → y.id ≠ id)
  | [], id, k => .inl ⟨rfl, fun e h => absurd h (List.not_mem_nil)⟩
  | e :: es, id, k => by
    unfold queueAt
    by_cases he : e.id = id
    · rw [if_pos (by simpa using he)]
      exact .inr ⟨0, e, rfl, he, rfl, fun j y h => absurd h (Nat.not_lt_zero _)⟩
    · rw [if_neg (by simpa using he)]
      rcases queueAt_spec es id (k + 1) with ⟨h1, h2⟩ | ⟨i, y, h1, h2, h3, h4⟩
      · refine .inl ⟨h1, fun z hz => ?_⟩
        rcases List.mem_cons.1 hz with rfl | hz
        · exact he
        · exact h2 z hz
      · refine .inr ⟨i + 1, y, by simpa using h1, h2, by rw [h3]; congr 1; omega, fun j z hj hz => ?_⟩
        cases j with
        | zero => simp at hz; subst hz; exact he
        | succ j => exact h4 j z (by omega) (by simpa using hz)
/-- the pins of a wheel in their order -/
def pinsSort (l : List Pin) : List Pin := l.foldl pIns []
noncomputable def pinsOf (wh : Wheel) : List Pin := if wheelOk wh = true then pinsSort wh.spoke.flatten else []
noncomputable def cabinOk (c : Cabin) : Bool := ledgerOk c.seats && queueOk c.row && wheelOk c.wheel
def sameRow : List Entry → List Entry → Bool
  | [], [] => true
  | a :: as, b :: bs => a.level == b.level && (a.turn == b.turn && (a.id == b.id && (a.size == b.size && true))) && sameRow as bs
  | _, _ => false
def samePins : List Pin → List Pin → Bool
  | [], [] => true
  | a :: as, b :: bs => a.at' == b.at' && (a.id == b.id && true) && samePins as bs
  | _, _ => false
theorem sameRow_iff : ∀ (a b : List Entry), sameRow a b = true ↔ a = b
  | [], [] => by simp [sameRow]
  | [], _ :: _ => by simp [sameRow]
  | _ :: _, [] => by simp [sameRow]
  | ⟨l1, t1, i1, s1⟩ :: as, ⟨l2, t2, i2, s2⟩ :: bs => by
    simp only [sameRow, Bool.and_eq_true, beq_iff_eq, Bool.and_true, sameRow_iff as bs, List.cons.injEq, Entry.mk.injEq]
theorem samePins_iff : ∀ (a b : List Pin), samePins a b = true ↔ a = b
  | [], [] => by simp [samePins]
  | [], _ :: _ => by simp [samePins]
  | _ :: _, [] => by simp [samePins]
  | ⟨a1, i1⟩ :: as, ⟨a2, i2⟩ :: bs => by
    simp only [samePins, Bool.and_eq_true, beq_iff_eq, Bool.and_true, samePins_iff as bs, List.cons.injEq, Pin.mk.injEq]
noncomputable def agrees (r : Rules) (c : Cabin) (list : List Party) (cabin now : Int) : Bool :=
  cabinOk c && sameRow c.row (queueOf r list cabin now) && samePins (pinsOf c.wheel) (pinsGo list cabin []) && c.seats.held == heldGo list cabin 0 && c.seats.tied == tiedGo list cabin 0
/-- parties that are right -/
def PartiesP (h : House) : Prop :=
  ∀ (i : Nat) (p : Party), h.parties[i]? = some p → partyOk h.rules p h.now = true ∧ p.turn < h.turn ∧ (0 < i → ∀ q, h.parties[i - 1]? = some q → q.id < p.id) ∧
    ∀ (j : Nat) (q : Party), j < i → h.parties[j]? = some q → q.turn ≠ p.turn ∧ ¬ (q.turn < p.turn ∧ p.since < q.since) ∧ ¬ (p.turn < q.turn ∧ q.since < p.since)
def JobsP (h : House) : Prop :=
  (∀ (i : Nat) (x : Int), h.todo[i]? = some x → inB x 0 (wr (h.cabins.length - 1)) = true ∧ ∀ (j : Nat) (y : Int), j < i → h.todo[j]? = some y → y ≠ x) ∧
  (∀ x ∈ h.jobs, inB x (-1) (wr (h.cabins.length - 1)) = true) ∧ (h.jobs.length : Int) = h.rules.crew
def HouseP (h : House) : Prop :=
  rulesOk h.rules = true ∧ inB h.now 0 1000000 = true ∧ inB h.turn 1 1000001 = true ∧ h.parties.length ≤ 40 ∧ h.cabins.length = h.rules.seats.length ∧ PartiesP h ∧ JobsP h ∧
  ∀ (k : Nat) (c : Cabin), h.cabins[k]? = some c → h.rules.seats[k]? = some c.seats.total ∧ agrees h.rules c h.parties k h.now = true ∧ countGo h.parties k 0 ≤ h.rules.room
open Classical in
noncomputable def houseOk (h : House) : Bool := decide (HouseP h)
theorem houseOk_t {h : House} (hp : HouseP h) : houseOk h = true := by simp [houseOk, hp]
theorem houseOk_f {h : House} (hp : ¬ HouseP h) : houseOk h = false := by simp [houseOk, hp]
theorem houseP_of {h : House} (hp : houseOk h = true) : HouseP h := by simpa [houseOk] using hp
end SX
end Go.Proofs.YtcbpmjfjdjpalaaGreat
