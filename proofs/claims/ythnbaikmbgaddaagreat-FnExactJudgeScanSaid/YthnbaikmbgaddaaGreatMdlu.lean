/- The cells of a house, by a name. It imports no program. -/
import Derived.Test.YthnbaikmbgaddaaGreatMdl9
namespace Go.Proofs.YthnbaikmbgaddaaGreat
namespace SX
open Go Go.RowKit
@[reducible] def hC (x : House) (a1 : Option Addr) (c1 : Nat) (a2 : Option Addr) (c2 : Nat) (a3 : Option Addr) (c3 : Nat) (a4 : Option Addr) (c4 : Nat) (a5 : Option Addr) (c5 : Nat) : List Value :=
  [.slice a1 x.rules.seats.length c1, vi x.rules.tiers, vi x.rules.room, vi x.rules.size, vi x.rules.period, vi x.rules.window, vi x.rules.rest, vi x.rules.tries, vi x.rules.crew, vi x.now, vi x.turn, .slice a2 x.parties.length c2, .slice a3 x.cabins.length c3, .slice a4 x.todo.length c4, .slice a5 x.jobs.length c5]
@[reducible] def hZ : List Value :=
  [.slice none 0 0, vi 0, vi 0, vi 0, vi 0, vi 0, vi 0, vi 0, vi 0, vi 0, vi 0, .slice none 0 0, .slice none 0 0, .slice none 0 0, .slice none 0 0]
@[reducible] def hD (x : House) (a1 : Option Addr) (n1 c1 : Nat) (a2 : Option Addr) (n2 c2 : Nat) (a3 : Option Addr) (n3 c3 : Nat) (a4 : Option Addr) (n4 c4 : Nat) (a5 : Option Addr) (n5 c5 : Nat) : List Value :=
  [.slice a1 n1 c1, vi x.rules.tiers, vi x.rules.room, vi x.rules.size, vi x.rules.period, vi x.rules.window, vi x.rules.rest, vi x.rules.tries, vi x.rules.crew, vi x.now, vi x.turn, .slice a2 n2 c2, .slice a3 n3 c3, .slice a4 n4 c4, .slice a5 n5 c5]
/-- the rows that a house owns; the result that is a house -/
@[reducible] def hO (e1 e2 e3 e4 e5 e6 : TypeId) (x : House) (a1 : Option Addr) (n1 c1 : Nat) (a2 : Option Addr) (n2 c2 : Nat) (a3 : Option Addr) (n3 c3 : Nat) (a4 : Option Addr) (n4 c4 : Nat) (a5 : Option Addr) (n5 c5 : Nat) : List Ass :=
  [slA e1 intL (.slice a1 n1 c1) x.rules.seats, slA e2 partyL (.slice a2 n2 c2) x.parties, slA e3 (cabinLx e4 e5 e6) (.slice a3 n3 c3) x.cabins, slA e1 intL (.slice a4 n4 c4) x.todo, slA e1 intL (.slice a5 n5 c5) x.jobs]
@[reducible] def hR (e1 e2 e3 e4 e5 e6 : TypeId) (p : House → Prop) : Res :=
  ⟨{q : (HH × HH × HH × HH × HH) × House // p q.2}, fun q => .agg (hC q.1.2 q.1.1.1.1 q.1.1.1.2 q.1.1.2.1.1 q.1.1.2.1.2 q.1.1.2.2.1.1 q.1.1.2.2.1.2 q.1.1.2.2.2.1.1 q.1.1.2.2.2.1.2 q.1.1.2.2.2.2.1 q.1.1.2.2.2.2.2).toArray,
    fun q => hO e1 e2 e3 e4 e5 e6 q.1.2 q.1.1.1.1 q.1.2.rules.seats.length q.1.1.1.2 q.1.1.2.1.1 q.1.2.parties.length q.1.1.2.1.2 q.1.1.2.2.1.1 q.1.2.cabins.length q.1.1.2.2.1.2 q.1.1.2.2.2.1.1 q.1.2.todo.length q.1.1.2.2.2.1.2 q.1.1.2.2.2.2.1 q.1.2.jobs.length q.1.1.2.2.2.2.2⟩
end SX
end Go.Proofs.YthnbaikmbgaddaaGreat
