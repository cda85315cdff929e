/- Texts of this claim, put together by program. -/
import Derived.Test.YtcbpmjfjdjpalaaGreatMdl2
import Derived.Test.YtcbpmjfjdjpalaaGreatSxn
/- The data of a house: parties, entries, pins, wheels, ledgers, cabins; how they lie. It imports no program. -/
namespace Go.Proofs.YtcbpmjfjdjpalaaGreat
namespace SX
set_option linter.unusedVariables false
set_option linter.unusedSimpArgs false
open Go Go.RowKit
structure Party where
  id : Int
  cabin : Int
  from' : Int
  size : Int
  tier : Int
  since : Int
  turn : Int
  state : Int
  until' : Int
  asked : Int
structure Entry where
  level : Int
  turn : Int
  id : Int
  size : Int
structure Pin where
  at' : Int
  id : Int
structure Wheel where
  spoke : List (List Pin)
structure Ledger where
  total : Int
  free : Int
  held : Int
  sold : Int
  tied : Int
structure Cabin where
  seats : Ledger
  row : List Entry
  wheel : Wheel
structure House where
  rules : Rules
  now : Int
  turn : Int
  parties : List Party
  cabins : List Cabin
  todo : List Int
  jobs : List Int
def partyE (p : Party) : List Value := [vi p.id, vi p.cabin, vi p.from', vi p.size, vi p.tier, vi p.since, vi p.turn, vi p.state, vi p.until', vi p.asked]
theorem partyH (p : Party) : (partyE p).length = 10 ∧ ∀ u ∈ partyE p, isCell u = true := ⟨rfl, by simp [partyE, isCell]⟩
def partyL : Lay Party := flat 10 partyE partyH
def entryE (p : Entry) : List Value := [vi p.level, vi p.turn, vi p.id, vi p.size]
theorem entryH (p : Entry) : (entryE p).length = 4 ∧ ∀ u ∈ entryE p, isCell u = true := ⟨rfl, by simp [entryE, isCell]⟩
def entryL : Lay Entry := flat 4 entryE entryH
def pinE (p : Pin) : List Value := [vi p.at', vi p.id]
theorem pinH (p : Pin) : (pinE p).length = 2 ∧ ∀ u ∈ pinE p, isCell u = true := ⟨rfl, by simp [pinE, isCell]⟩
def pinL : Lay Pin := flat 2 pinE pinH
def ledgerE (p : Ledger) : List Value := [vi p.total, vi p.free, vi p.held, vi p.sold, vi p.tied]
theorem ledgerH (p : Ledger) : (ledgerE p).length = 5 ∧ ∀ u ∈ ledgerE p, isCell u = true := ⟨rfl, by simp [ledgerE, isCell]⟩
def ledgerL : Lay Ledger := flat 5 ledgerE ledgerH
/-- a cabin; the numbers are those of the elements' types -/
def cabinLx (e1 e2 e3 : TypeId) : Lay Cabin := viaL (prodL ledgerL (prodL (sl e1 entryL) (sl e2 (sl e3 pinL)))) fun c => (c.seats, c.row, c.wheel.spoke)
theorem cabinRep {e1 e2 e3 : TypeId} {c : Cabin} {a1 a2 : Option Addr} {c1 c2 : Nat} : ∀ w fps, holds w [slA e1 entryL (.slice a1 c.row.length c1) c.row, slA e2 (sl e3 pinL) (.slice a2 c.wheel.spoke.length c2) c.wheel.spoke] fps →
    (cabinLx e1 e2 e3).rep true w [vi c.seats.total, vi c.seats.free, vi c.seats.held, vi c.seats.sold, vi c.seats.tied, .slice a1 c.row.length c1, .slice a2 c.wheel.spoke.length c2] c fps.flatten := by
  intro w fps h
  match fps, h with
  | [f1, f2], ⟨h1, h2, _⟩ =>
    refine ⟨[vi c.seats.total, vi c.seats.free, vi c.seats.held, vi c.seats.sold, vi c.seats.tied], [.slice a1 c.row.length c1, .slice a2 c.wheel.spoke.length c2], [], f1 ++ f2, rfl, by simp, ⟨rfl, rfl⟩, [.slice a1 c.row.length c1], [.slice a2 c.wheel.spoke.length c2], f1, f2, rfl, rfl, ⟨a1, c1, rfl, ?_⟩, ⟨a2, c2, rfl, ?_⟩⟩
    · simp only [if_true]; exact h1
    · simp only [if_true]; exact h2
theorem cabin_view {e1 e2 e3 : TypeId} {W : World} {a : Option Addr} {xs : List Cabin} (h : Rd (cabinLx e1 e2 e3) W a xs) {k : Nat} {c : Cabin} (hk : xs[k]? = some c) :
    ∃ (a1 : Option Addr) (c1 : Nat) (a2 : Option Addr) (c2 : Nat), ElemAt W a (k * 7) [vi c.seats.total, vi c.seats.free, vi c.seats.held, vi c.seats.sold, vi c.seats.tied, .slice a1 c.row.length c1, .slice a2 c.wheel.spoke.length c2] ∧
      Rd entryL W a1 c.row ∧ Rd (sl e3 pinL) W a2 c.wheel.spoke ∧ c.row.length ≤ c1 ∧ c.wheel.spoke.length ≤ c2 := by
  obtain ⟨cs, g, ⟨d1, d2, f1, f2, rfl, rfl, ⟨rfl, rfl⟩, d3, d4, f3, f4, rfl, rfl, ⟨a1, c1, rfl, h1⟩, ⟨a2, c2, rfl, h2⟩⟩, hel⟩ := h.elem hk
  simp only [Bool.false_eq_true, if_false] at h1 h2
  exact ⟨a1, c1, a2, c2, hel, ⟨_, h1.2⟩, ⟨_, h2.2⟩, h1.1, h2.1⟩
def pinLess (a b : Pin) : Bool := decide (a.at' < b.at') || (a.at' == b.at' && decide (a.id < b.id))
def entryLess (a b : Entry) : Bool := decide (a.level < b.level) || (a.level == b.level && decide (a.turn < b.turn))
theorem tmod_rng {a n : Int} (h0 : 0 ≤ a) (hn : 0 < n) : 0 ≤ Int.tmod a n ∧ (n ≤ 0 → Int.tmod a n = 0) ∧ (0 < n → Int.tmod a n < n) := by
  rw [Int.tmod_eq_emod_of_nonneg h0]
  have h1 := Int.emod_nonneg a (show n ≠ 0 by omega)
  have h2 := Int.emod_lt_of_pos a hn
  exact ⟨h1, fun h => by omega, fun _ => h2⟩
theorem four_bytes {x y z w : Int} (hx : 0 ≤ x ∧ x < 256) (hy : 0 ≤ y ∧ y < 256) (hz : 0 ≤ z ∧ z < 256) (hw : 0 ≤ w ∧ w < 256) : 0 ≤ wr (wr (wr (wr (x * 16777216) + wr (y * 65536)) + wr (z * 256)) + w) := by
  rw [wr_of (x := x * 16777216) (by omega) (by omega), wr_of (x := y * 65536) (by omega) (by omega), wr_of (x := z * 256) (by omega) (by omega), wr_of (x := x * 16777216 + y * 65536) (by omega) (by omega),
    wr_of (x := x * 16777216 + y * 65536 + z * 256) (by omega) (by omega), wr_of (by omega) (by omega)]
  omega
theorem flat_mem {α : Type} {xss : List (List α)} {k : Nat} {x : List α} (h : xss[k]? = some x) : x.length ≤ xss.flatten.length := by
  induction xss generalizing k with
  | nil => simp at h
  | cons y ys ih =>
    simp only [List.flatten_cons, List.length_append]
    cases k with
    | zero => simp only [List.getElem?_cons_zero, Option.some.injEq] at h; subst h; omega
    | succ k => have := ih (k := k) (by simpa using h); omega
end SX
end Go.Proofs.YtcbpmjfjdjpalaaGreat
/- The cells of a house, by a name. It imports no program. -/
namespace Go.Proofs.YtcbpmjfjdjpalaaGreat
namespace SX
open Go Go.RowKit
@[reducible] def hC (x : House) (a1 : Option Addr) (c1 : Nat) (a2 : Option Addr) (c2 : Nat) (a3 : Option Addr) (c3 : Nat) (a4 : Option Addr) (c4 : Nat) (a5 : Option Addr) (c5 : Nat) : List Value :=
  [.slice a1 x.rules.seats.length c1, vi x.rules.tiers, vi x.rules.room, vi x.rules.size, vi x.rules.period, vi x.rules.window, vi x.rules.rest, vi x.rules.tries, vi x.rules.crew, vi x.now, vi x.turn, .slice a2 x.parties.length c2, .slice a3 x.cabins.length c3, .slice a4 x.todo.length c4, .slice a5 x.jobs.length c5]
@[reducible] def hZ : List Value :=
  [.slice none 0 0, vi 0, vi 0, vi 0, vi 0, vi 0, vi 0, vi 0, vi 0, vi 0, vi 0, .slice none 0 0, .slice none 0 0, .slice none 0 0, .slice none 0 0]
end SX
end Go.Proofs.YtcbpmjfjdjpalaaGreat
/- What the functions on parties, queues and cabins come to, in plain Lean: the exact models. It imports no program. -/
namespace Go.Proofs.YtcbpmjfjdjpalaaGreat
namespace SX
set_option linter.unusedVariables false
set_option linter.unusedSimpArgs false
open Go Go.RowKit
def partyOk (r : Rules) (p : Party) (now : Int) : Bool :=
  rulesOk r && inB now 0 1000000 && inB p.id 1 999 && inB p.cabin 0 (wr (r.seats.length - 1)) && inB p.from' (-1) (wr (r.seats.length - 1)) && !(p.from' == p.cabin) &&
  inB p.size 1 r.size && inB p.tier 0 (wr (r.tiers - 1)) && inB p.since 0 now && inB p.turn 1 1000000 && inB p.asked 0 (wr (r.tries - 1)) &&
  ((p.state == 1 && inB p.until' 0 (wr (now + r.rest))) || (p.state == 2 && inB p.until' 1 (wr (now + r.window))))
def levelAt (r : Rules) (tier waited : Int) : Int := if 0 > wr (tier - wr (Int.tdiv waited r.period)) then 0 else wr (tier - wr (Int.tdiv waited r.period))
def levelOf (r : Rules) (p : Party) (now : Int) : Int := if partyOk r p now then levelAt r p.tier (wr (now - p.since)) else -1
def entryOk (r : Rules) (p : Party) (now : Int) : Bool := !(decide (levelOf r p now < 0)) && p.state == 1
def entryOf (r : Rules) (p : Party) (now : Int) : Entry := if entryOk r p now then ⟨levelOf r p now, p.turn, p.id, p.size⟩ else ⟨0, 0, 0, 0⟩
def ledgerOk (l : Ledger) : Bool := inB l.total 1 60 && inB l.free 0 l.total && inB l.held 0 l.total && inB l.sold 0 l.total && wr (wr (l.free + l.held) + l.sold) == l.total && inB l.tied 0 l.sold
theorem per_pos {r : Rules} {p : Party} {now : Int} (h : partyOk r p now = true) : 1 ≤ r.period := by
  have h9 : rulesOk r = true := by
    simp only [partyOk, Bool.and_eq_true] at h
    exact h.1.1.1.1.1.1.1.1.1.1.1
  simp [rulesOk, inB] at h9; omega
/-- an entry put into a row; a pin put into a list -/
def qIns : List Entry → Entry → List Entry
  | [], e => [e]
  | y :: ys, e => if entryLess y e then y :: qIns ys e else e :: y :: ys
def pIns : List Pin → Pin → List Pin
  | [], e => [e]
  | y :: ys, e => if pinLess y e then y :: pIns ys e else e :: y :: ys
theorem qIns_len : ∀ (l : List Entry) (e : Entry), (qIns l e).length = l.length + 1
  | [], e => rfl
  | y :: ys, e => by unfold qIns; split <;> simp [qIns_len ys e]
theorem pIns_len : ∀ (l : List Pin) (e : Pin), (pIns l e).length = l.length + 1
  | [], e => rfl
  | y :: ys, e => by unfold pIns; split <;> simp [pIns_len ys e]
def queueOf (r : Rules) : List Party → Int → Int → List Entry
  | [], _, _ => []
  | p :: ps, cabin, now => if entryOk r p now && p.cabin == cabin then qIns (queueOf r ps cabin now) (entryOf r p now) else queueOf r ps cabin now
def pinsGo : List Party → Int → List Pin → List Pin
  | [], _, out => out
  | p :: ps, cabin, out => pinsGo ps cabin (if p.state == 2 && p.cabin == cabin then pIns out ⟨p.until', p.id⟩ else out)
def heldGo : List Party → Int → Int → Int
  | [], _, n => n
  | p :: ps, cabin, n => heldGo ps cabin (if p.state == 2 && p.cabin == cabin && inB p.size 1 6 then wr (n + p.size) else n)
def tiedGo : List Party → Int → Int → Int
  | [], _, n => n
  | p :: ps, cabin, n => tiedGo ps cabin (if p.from' == cabin && inB p.size 1 6 then wr (n + p.size) else n)
def countGo : List Party → Int → Int → Int
  | [], _, n => n
  | p :: ps, cabin, n => countGo ps cabin (if p.cabin == cabin then wr (n + 1) else n)
end SX
end Go.Proofs.YtcbpmjfjdjpalaaGreat
/- A wheel that is right, in plain Lean. It imports no program. -/
namespace Go.Proofs.YtcbpmjfjdjpalaaGreat
namespace SX
set_option linter.unusedVariables false
set_option linter.unusedSimpArgs false
open Go Go.RowKit
def PinR (p : Pin) : Prop := inB p.at' 1 1000008 = true ∧ inB p.id 1 999 = true
def SpokeP (i : Nat) (l : List Pin) : Prop := ∀ (m : Nat) (x : Pin), l[m]? = some x → Int.tmod x.at' 9 = (i : Int) ∧ (0 < m → ∀ y, l[m - 1]? = some y → pinLess y x = true)
def WheelP (wh : Wheel) : Prop :=
  wh.spoke.length = 9 ∧ wh.spoke.flatten.length ≤ 10 ∧ (∀ p ∈ wh.spoke.flatten, PinR p) ∧ (wh.spoke.flatten.map (·.id)).Nodup ∧ ∀ (i : Nat) (l : List Pin), wh.spoke[i]? = some l → SpokeP i l
open Classical in
noncomputable def wheelOk (wh : Wheel) : Bool := decide (WheelP wh)
theorem wheelOk_t {wh : Wheel} (h : WheelP wh) : wheelOk wh = true := by simp [wheelOk, h]
theorem wheelOk_f {wh : Wheel} (h : ¬ WheelP wh) : wheelOk wh = false := by simp [wheelOk, h]
theorem wheelP_of {wh : Wheel} (h : wheelOk wh = true) : WheelP wh := by simpa [wheelOk] using h
/-- no two of the first have one number -/
def Ids (l : List Pin) (k : Nat) : Prop := ∀ (i j : Nat) (x y : Pin), i < j → j < k → l[i]? = some x → l[j]? = some y → x.id ≠ y.id
theorem ids_nodup {l : List Pin} (h : Ids l l.length) : (l.map (·.id)).Nodup := by
  rw [List.Nodup, List.pairwise_iff_getElem]
  intro i j hi hj hij
  simp only [List.length_map] at hi hj
  simp only [List.getElem_map]
  exact h i j l[i] l[j] hij hj (List.getElem?_eq_getElem hi) (List.getElem?_eq_getElem hj)
theorem ids_no {l : List Pin} {i j : Nat} {x y : Pin} (hij : i < j) (hx : l[i]? = some x) (hy : l[j]? = some y) (he : x.id = y.id) : ¬ (l.map (·.id)).Nodup := by
  intro h
  rw [List.Nodup, List.pairwise_iff_getElem] at h
  obtain ⟨h1, rfl⟩ := List.getElem?_eq_some_iff.1 hx
  obtain ⟨h2, rfl⟩ := List.getElem?_eq_some_iff.1 hy
  have := h i j (by simpa using h1) (by simpa using h2) hij
  simp only [List.getElem_map] at this
  exact this he
theorem ids_zero (l : List Pin) : Ids l 0 := fun i j x y _ h => absurd h (Nat.not_lt_zero _)
theorem ids_succ {l : List Pin} {k : Nat} {y : Pin} (h : Ids l k) (hy : l[k]? = some y) (hn : ∀ (i : Nat) (x : Pin), i < k → l[i]? = some x → x.id ≠ y.id) : Ids l (k + 1) := by
  intro i j x z hij hj hx hz
  by_cases hjk : j = k
  · subst hjk; rw [hy] at hz; injection hz with hz; subst hz; exact hn i x hij hx
  · exact h i j x z hij (by omega) hx hz
end SX
end Go.Proofs.YtcbpmjfjdjpalaaGreat
/- Rows, cabins and houses that are right, in plain Lean: the exact models. It imports no program. -/
namespace Go.Proofs.YtcbpmjfjdjpalaaGreat
namespace SX
set_option linter.unusedVariables false
set_option linter.unusedSimpArgs false
open Go Go.RowKit
def EntryR (e : Entry) : Prop := inB e.level 0 4 = true ∧ inB e.turn 1 1000000 = true ∧ inB e.id 1 999 = true ∧ inB e.size 1 6 = true
/-- a row that is right -/
def QueueP (l : List Entry) : Prop :=
  l.length ≤ 10 ∧ ∀ (i : Nat) (e : Entry), l[i]? = some e → EntryR e ∧ (0 < i → ∀ y, l[i - 1]? = some y → entryLess y e = true) ∧ ∀ (j : Nat) (y : Entry), j < i → l[j]? = some y → y.id ≠ e.id
open Classical in
noncomputable def queueOk (l : List Entry) : Bool := decide (QueueP l)
theorem queueOk_t {l : List Entry} (h : QueueP l) : queueOk l = true := by simp [queueOk, h]
theorem queueOk_f {l : List Entry} (h : ¬ QueueP l) : queueOk l = false := by simp [queueOk, h]
/-- where an entry of this number stands first -/
def queueAt : List Entry → Int → Nat → Int
  | [], _, _ => -1
  | e :: es, id, k => if e.id == id then (k : Int) else queueAt es id (k + 1)
theorem queueAt_spec : ∀ (l : List Entry) (id : Int) (k : Nat), (queueAt l id k = -1 ∧ ∀ e ∈ l, e.id ≠ id) ∨ (∃ (i : Nat) (e : Entry), l[i]? = some e ∧ e.id = id ∧ queueAt l id k = ((k + i : Nat) : Int) ∧ ∀ (j : Nat) (y : Entry), j < i → l[j]? = some y → y.id ≠ id)
  | [], id, k => .inl ⟨rfl, fun e h => absurd h (List.not_mem_nil)⟩
  | e :: es, id, k => by
    unfold queueAt
    by_cases he : e.id = id
    · rw [if_pos (by simpa using he)]
      exact .inr ⟨0, e, rfl, he, rfl, fun j y h => absurd h (Nat.not_lt_zero _)⟩
    · rw [if_neg (by simpa using he)]
      rcases queueAt_spec es id (k + 1) with ⟨h1, h2⟩ | ⟨i, y, h1, h2, h3, h4⟩
      · refine .inl ⟨h1, fun z hz => ?_⟩
        rcases List.mem_cons.1 hz with rfl | hz
        · exact he
        · exact h2 z hz
      · refine .inr ⟨i + 1, y, by simpa using h1, h2, by rw [h3]; congr 1; omega, fun j z hj hz => ?_⟩
        cases j with
        | zero => simp at hz; subst hz; exact he
        | succ j => exact h4 j z (by omega) (by simpa using hz)
/-- the pins of a wheel in their order -/
def pinsSort (l : List Pin) : List Pin := l.foldl pIns []
noncomputable def pinsOf (wh : Wheel) : List Pin := if wheelOk wh = true then pinsSort wh.spoke.flatten else []
noncomputable def cabinOk (c : Cabin) : Bool := ledgerOk c.seats && queueOk c.row && wheelOk c.wheel
def sameRow : List Entry → List Entry → Bool
  | [], [] => true
  | a :: as, b :: bs => a.level == b.level && (a.turn == b.turn && (a.id == b.id && (a.size == b.size && true))) && sameRow as bs
  | _, _ => false
def samePins : List Pin → List Pin → Bool
  | [], [] => true
  | a :: as, b :: bs => a.at' == b.at' && (a.id == b.id && true) && samePins as bs
  | _, _ => false
theorem sameRow_iff : ∀ (a b : List Entry), sameRow a b = true ↔ a = b
  | [], [] => by simp [sameRow]
  | [], _ :: _ => by simp [sameRow]
  | _ :: _, [] => by simp [sameRow]
  | ⟨l1, t1, i1, s1⟩ :: as, ⟨l2, t2, i2, s2⟩ :: bs => by
    simp only [sameRow, Bool.and_eq_true, beq_iff_eq, Bool.and_true, sameRow_iff as bs, List.cons.injEq, Entry.mk.injEq]
theorem samePins_iff : ∀ (a b : List Pin), samePins a b = true ↔ a = b
  | [], [] => by simp [samePins]
  | [], _ :: _ => by simp [samePins]
  | _ :: _, [] => by simp [samePins]
  | ⟨a1, i1⟩ :: as, ⟨a2, i2⟩ :: bs => by
    simp only [samePins, Bool.and_eq_true, beq_iff_eq, Bool.and_true, samePins_iff as bs, List.cons.injEq, Pin.mk.injEq]
noncomputable def agrees (r : Rules) (c : Cabin) (list : List Party) (cabin now : Int) : Bool :=
  cabinOk c && sameRow c.row (queueOf r list cabin now) && samePins (pinsOf c.wheel) (pinsGo list cabin []) && c.seats.held == heldGo list cabin 0 && c.seats.tied == tiedGo list cabin 0
/-- parties that are right -/
def PartiesP (h : House) : Prop :=
  ∀ (i : Nat) (p : Party), h.parties[i]? = some p → partyOk h.rules p h.now = true ∧ p.turn < h.turn ∧ (0 < i → ∀ q, h.parties[i - 1]? = some q → q.id < p.id) ∧
    ∀ (j : Nat) (q : Party), j < i → h.parties[j]? = some q → q.turn ≠ p.turn ∧ ¬ (q.turn < p.turn ∧ p.since < q.since) ∧ ¬ (p.turn < q.turn ∧ q.since < p.since)
def JobsP (h : House) : Prop :=
  (∀ (i : Nat) (x : Int), h.todo[i]? = some x → inB x 0 (wr (h.cabins.length - 1)) = true ∧ ∀ (j : Nat) (y : Int), j < i → h.todo[j]? = some y → y ≠ x) ∧
  (∀ x ∈ h.jobs, inB x (-1) (wr (h.cabins.length - 1)) = true) ∧ (h.jobs.length : Int) = h.rules.crew
def HouseP (h : House) : Prop :=
  rulesOk h.rules = true ∧ inB h.now 0 1000000 = true ∧ inB h.turn 1 1000001 = true ∧ h.parties.length ≤ 40 ∧ h.cabins.length = h.rules.seats.length ∧ PartiesP h ∧ JobsP h ∧
  ∀ (k : Nat) (c : Cabin), h.cabins[k]? = some c → h.rules.seats[k]? = some c.seats.total ∧ agrees h.rules c h.parties k h.now = true ∧ countGo h.parties k 0 ≤ h.rules.room
open Classical in
noncomputable def houseOk (h : House) : Bool := decide (HouseP h)
theorem houseOk_t {h : House} (hp : HouseP h) : houseOk h = true := by simp [houseOk, hp]
theorem houseOk_f {h : House} (hp : ¬ HouseP h) : houseOk h = false := by simp [houseOk, hp]
theorem houseP_of {h : House} (hp : houseOk h = true) : HouseP h := by simpa [houseOk] using hp
end SX
end Go.Proofs.YtcbpmjfjdjpalaaGreat
