/- What the functions on parties, queues and cabins come to, in plain Lean: the exact models. It imports no program. -/
import Derived.Test.YtcbpmjfjdjpalaaGreatMdl9
namespace Go.Proofs.YtcbpmjfjdjpalaaGreat
namespace SX
set_option linter.unusedVariables false
set_option linter.unusedSimpArgs false
open Go Go.RowKit
def partyOk (r : Rules) (p : Party) (now : Int) : Bool :=
  rulesOk r && inB now 0 1000000 && inB p.id 1 999 && inB p.cabin 0 (wr (r.seats.length - 1)) && inB p.from' (-1) (wr (r.seats.length - 1)) && !(p.from' == p.cabin) &&
  inB p.size 1 r.size && inB p.tier 0 (wr (r.tiers - 1)) && inB p.since 0 now && inB p.turn 1 1000000 && inB p.asked 0 (wr (r.tries - 1)) &&
  ((p.state == 1 && inB p.until' 0 (wr (now + r.rest))) || (p.state == 2 && inB p.until' 1 (wr (now + r.window))))
def levelAt (r : Rules) (tier waited : Int) : Int := if 0 > wr (tier - wr (Int.tdiv waited r.period)) then 0 else wr (tier - wr (Int.tdiv waited r.period))
def levelOf (r : Rules) (p : Party) (now : Int) : Int := if partyOk r p now then levelAt r p.tier (wr (now - p.since)) else -1
def entryOk (r : Rules) (p : Party) (now : Int) : Bool := !(decide (levelOf r p now < 0)) && p.state == 1
def entryOf (r : Rules) (p : Party) (now : Int) : Entry := if entryOk r p now then ⟨levelOf r p now, p.turn, p.id, p.size⟩ else ⟨0, 0, 0, 0⟩
def ledgerOk (l : Ledger) : Bool := inB l.total 1 60 && inB l.free 0 l.total && inB l.held 0 l.total && inB l.sold 0 l.total && wr (wr (l.free + l.held) + l.sold) == l.total && inB l.tied 0 l.sold
theorem per_pos {r : Rules} {p : Party} {now : Int} (h : partyOk r p now = true) : 1 ≤ r.period := by
  have h9 : rulesOk r = true := by
    simp only [partyOk, Bool.and_eq_true] at h
    exact h.1.1.1.1.1.1.1.1.1.1.1
  simp [rulesOk, inB] at h9; omega
/-- an entry put into a row; a pin put into a list -/
def qIns : List Entry → Entry → List Entry
  | [], e => [e]
  | y :: ys, e => if entryLess y e then y :: qIns ys e else e :: y :: ys
def pIns : List Pin → Pin → List Pin
  | [], e => [e]
  | y :: ys, e => if pinLess y e then y :: pIns ys e else e :: y :: ys
theorem qIns_len : ∀ (l : List Entry) (e : Entry), (qIns l e).length = l.length + 1
  | [], e => rfl
  | y :: ys, e => by unfold qIns; split <;> simp [qIns_len ys e]
theorem pIns_len : ∀ (l : List Pin) (e : Pin), (pIns l e).length = l.length + 1
  | [], e => rfl
  | y :: ys, e => by unfold pIns; split <;> simp [pIns_len ys e]
def queueOf (r : Rules) : List Party → Int → Int → List Entry
  | [], _, _ => []
  | p :: ps, cabin, now => if entryOk r p now && p.cabin == cabin then qIns (queueOf r ps cabin now) (entryOf r p now) else queueOf r ps cabin now
def pinsGo : List Party → Int → List Pin → List Pin
  | [], _, out => out
  | p :: ps, cabin, out => pinsGo ps cabin (if p.state == 2 && p.cabin == cabin then pIns out ⟨p.until', p.id⟩ else out)
def heldGo : List Party → Int → Int → Int
  | [], _, n => n
  | p :: ps, cabin, n => heldGo ps cabin (if p.state == 2 && p.cabin == cabin && inB p.size 1 6 then wr (n + p.size) else n)
def tiedGo : List Party → Int → Int → Int
  | [], _, n => n
  | p :: ps, cabin, n => tiedGo ps cabin (if p.from' == cabin && inB p.size 1 6 then wr (n + p.size) else n)
def countGo : List Party → Int → Int → Int
  | [], _, n => n
  | p :: ps, cabin, n => countGo ps cabin (if p.cabin == cabin then wr (n + 1) else n)
end SX
end Go.Proofs.YtcbpmjfjdjpalaaGreat
