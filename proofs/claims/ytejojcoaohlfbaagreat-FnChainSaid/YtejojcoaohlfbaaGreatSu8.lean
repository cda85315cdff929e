/- Elements of owned rows that hold slices; houses that are owned. It imports no program. -/
import Derived.Test.YtejojcoaohlfbaaGreatMdlm
namespace Go.Proofs.YtejojcoaohlfbaaGreat
namespace SX
set_option linter.unusedVariables false
set_option linter.unusedSimpArgs false
open Go Go.RowKit
abbrev H5 := HH × HH × HH × HH × HH
@[reducible] def hV (x : House) (q : H5) : Value := .agg #[.slice q.1.1 x.rules.seats.length q.1.2, vi x.rules.tiers, vi x.rules.room, vi x.rules.size, vi x.rules.period, vi x.rules.window, vi x.rules.rest, vi x.rules.tries, vi x.rules.crew, vi x.now, vi x.turn, .slice q.2.1.1 x.parties.length q.2.1.2, .slice q.2.2.1.1 x.cabins.length q.2.2.1.2, .slice q.2.2.2.1.1 x.todo.length q.2.2.2.1.2, .slice q.2.2.2.2.1 x.jobs.length q.2.2.2.2.2]
@[reducible] def hOw (e1 e2 e3 e4 e5 e6 : TypeId) (x : House) (q : H5) : List Ass := [slA e1 intL (.slice q.1.1 x.rules.seats.length q.1.2) x.rules.seats, slA e2 partyL (.slice q.2.1.1 x.parties.length q.2.1.2) x.parties, slA e3 (cabinLx e4 e5 e6) (.slice q.2.2.1.1 x.cabins.length q.2.2.1.2) x.cabins, slA e1 intL (.slice q.2.2.2.1.1 x.todo.length q.2.2.2.1.2) x.todo, slA e1 intL (.slice q.2.2.2.2.1 x.jobs.length q.2.2.2.2.2) x.jobs]
abbrev RHo (e1 e2 e3 e4 e5 e6 : TypeId) (x : House) : Res := ⟨H5, fun q => hV x q, fun q => hOw e1 e2 e3 e4 e5 e6 x q⟩
theorem HouseR.own {e1 e2 e3 e4 e5 e6 : TypeId} {W w : World} {S0 : List Nat} {C : List Ass} {a1 a2 a3 a4 a5 : Option Addr} {n1 n2 n3 n4 n5 c1 c2 c3 c4 c5 j1 j2 j3 j4 j5 : Nat} {rs td js : List Int} {ps : List Party} {cs : List Cabin} {x1 x2 x3 x4 x5 x6 x7 x8 nw tu : Int} (hw : At W S0 C w)
 (h1 : C[j1]? = some (slA e1 intL (.slice a1 n1 c1) rs)) (h2 : C[j2]? = some (slA e2 partyL (.slice a2 n2 c2) ps)) (h3 : C[j3]? = some (slA e3 (cabinLx e4 e5 e6) (.slice a3 n3 c3) cs)) (h4 : C[j4]? = some (slA e1 intL (.slice a4 n4 c4) td)) (h5 : C[j5]? = some (slA e1 intL (.slice a5 n5 c5) js)) :
 HouseR e4 e5 e6 w [.slice a1 n1 c1, vi x1, vi x2, vi x3, vi x4, vi x5, vi x6, vi x7, vi x8, vi nw, vi tu, .slice a2 n2 c2, .slice a3 n3 c3, .slice a4 n4 c4, .slice a5 n5 c5] ⟨⟨rs, x1, x2, x3, x4, x5, x6, x7, x8⟩, nw, tu, ps, cs, td, js⟩ := by
 have l1 := (SlO.lenE (hw.own _ h1)).1; have l2 := (SlO.lenE (hw.own _ h2)).1; have l3 := (SlO.lenE (hw.own _ h3)).1; have l4 := (SlO.lenE (hw.own _ h4)).1; have l5 := (SlO.lenE (hw.own _ h5)).1
 subst l1 l2 l3 l4 l5
 exact ⟨a1, c1, a2, c2, a3, c3, a4, c4, a5, c5, rfl, SlO.capE (hw.own _ h1), SlO.capE (hw.own _ h2), SlO.capE (hw.own _ h3), SlO.capE (hw.own _ h4), SlO.capE (hw.own _ h5), hw.rdO _ h1, hw.rdO _ h2, hw.rdO _ h3, hw.rdO _ h4, hw.rdO _ h5⟩
theorem HouseR.ownE {e1 e2 e3 e4 e5 e6 : TypeId} {W w : World} {S0 : List Nat} {C : List Ass} {a1 a2 a3 a4 a5 : Option Addr} {c1 c2 c3 c4 c5 j1 j2 j3 j4 j5 : Nat} {x : House} (hw : At W S0 C w)
 (h1 : C[j1]? = some (slA e1 intL (.slice a1 x.rules.seats.length c1) x.rules.seats)) (h2 : C[j2]? = some (slA e2 partyL (.slice a2 x.parties.length c2) x.parties)) (h3 : C[j3]? = some (slA e3 (cabinLx e4 e5 e6) (.slice a3 x.cabins.length c3) x.cabins)) (h4 : C[j4]? = some (slA e1 intL (.slice a4 x.todo.length c4) x.todo)) (h5 : C[j5]? = some (slA e1 intL (.slice a5 x.jobs.length c5) x.jobs)) :
 HouseR e4 e5 e6 w [.slice a1 x.rules.seats.length c1, vi x.rules.tiers, vi x.rules.room, vi x.rules.size, vi x.rules.period, vi x.rules.window, vi x.rules.rest, vi x.rules.tries, vi x.rules.crew, vi x.now, vi x.turn, .slice a2 x.parties.length c2, .slice a3 x.cabins.length c3, .slice a4 x.todo.length c4, .slice a5 x.jobs.length c5] x :=
 ⟨a1, c1, a2, c2, a3, c3, a4, c4, a5, c5, rfl, SlO.capE (hw.own _ h1), SlO.capE (hw.own _ h2), SlO.capE (hw.own _ h3), SlO.capE (hw.own _ h4), SlO.capE (hw.own _ h5), hw.rdO _ h1, hw.rdO _ h2, hw.rdO _ h3, hw.rdO _ h4, hw.rdO _ h5⟩
theorem RulesR.own {e1 : TypeId} {W w : World} {S0 : List Nat} {C : List Ass} {a1 : Option Addr} {n1 c1 j1 : Nat} {rs : List Int} {x1 x2 x3 x4 x5 x6 x7 x8 : Int} (hw : At W S0 C w) (h1 : C[j1]? = some (slA e1 intL (.slice a1 n1 c1) rs)) :
 RulesR w [.slice a1 n1 c1, vi x1, vi x2, vi x3, vi x4, vi x5, vi x6, vi x7, vi x8] ⟨rs, x1, x2, x3, x4, x5, x6, x7, x8⟩ := by
 have l1 := (SlO.lenE (hw.own _ h1)).1
 subst l1
 exact ⟨a1, c1, rfl, SlO.capE (hw.own _ h1), hw.rdO _ h1⟩
theorem CabinR.own {e4 e5 e6 : TypeId} {W w : World} {S0 : List Nat} {C : List Ass} {a1 a2 : Option Addr} {n1 n2 c1 c2 j1 j2 : Nat} {row : List Entry} {sp : List (List Pin)} {x1 x2 x3 x4 x5 : Int} (hw : At W S0 C w) (h1 : C[j1]? = some (slA e4 entryL (.slice a1 n1 c1) row)) (h2 : C[j2]? = some (slA e5 (sl e6 pinL) (.slice a2 n2 c2) sp)) :
 CabinR e6 w [vi x1, vi x2, vi x3, vi x4, vi x5, .slice a1 n1 c1, .slice a2 n2 c2] ⟨⟨x1, x2, x3, x4, x5⟩, row, ⟨sp⟩⟩ := by
 have l1 := (SlO.lenE (hw.own _ h1)).1; have l2 := (SlO.lenE (hw.own _ h2)).1
 subst l1 l2
 exact ⟨a1, c1, a2, c2, rfl, SlO.capE (hw.own _ h1), SlO.capE (hw.own _ h2), hw.rdO _ h1, hw.rdO _ h2⟩
def HO9 (e1 e2 e3 e4 e5 e6 : TypeId) (cs : List Value) (x : House) (pre : List Ass) : Prop := ∃ q : H5, cs = [.slice q.1.1 x.rules.seats.length q.1.2, vi x.rules.tiers, vi x.rules.room, vi x.rules.size, vi x.rules.period, vi x.rules.window, vi x.rules.rest, vi x.rules.tries, vi x.rules.crew, vi x.now, vi x.turn, .slice q.2.1.1 x.parties.length q.2.1.2, .slice q.2.2.1.1 x.cabins.length q.2.2.1.2, .slice q.2.2.2.1.1 x.todo.length q.2.2.2.1.2, .slice q.2.2.2.2.1 x.jobs.length q.2.2.2.2.2] ∧ pre = hOw e1 e2 e3 e4 e5 e6 x q
theorem HO9.own {e1 e2 e3 e4 e5 e6 : TypeId} {W w : World} {S0 : List Nat} {C : List Ass} {a1 a2 a3 a4 a5 : Option Addr} {n1 n2 n3 n4 n5 c1 c2 c3 c4 c5 j1 j2 j3 j4 j5 : Nat} {rs td js : List Int} {ps : List Party} {cs : List Cabin} {x1 x2 x3 x4 x5 x6 x7 x8 nw tu : Int} (hw : At W S0 C w)
 (h1 : C[j1]? = some (slA e1 intL (.slice a1 n1 c1) rs)) (h2 : C[j2]? = some (slA e2 partyL (.slice a2 n2 c2) ps)) (h3 : C[j3]? = some (slA e3 (cabinLx e4 e5 e6) (.slice a3 n3 c3) cs)) (h4 : C[j4]? = some (slA e1 intL (.slice a4 n4 c4) td)) (h5 : C[j5]? = some (slA e1 intL (.slice a5 n5 c5) js)) :
 HO9 e1 e2 e3 e4 e5 e6 [.slice a1 n1 c1, vi x1, vi x2, vi x3, vi x4, vi x5, vi x6, vi x7, vi x8, vi nw, vi tu, .slice a2 n2 c2, .slice a3 n3 c3, .slice a4 n4 c4, .slice a5 n5 c5] ⟨⟨rs, x1, x2, x3, x4, x5, x6, x7, x8⟩, nw, tu, ps, cs, td, js⟩
  [slA e1 intL (.slice a1 n1 c1) rs, slA e2 partyL (.slice a2 n2 c2) ps, slA e3 (cabinLx e4 e5 e6) (.slice a3 n3 c3) cs, slA e1 intL (.slice a4 n4 c4) td, slA e1 intL (.slice a5 n5 c5) js] := by
 have l1 := (SlO.lenE (hw.own _ h1)).1; have l2 := (SlO.lenE (hw.own _ h2)).1; have l3 := (SlO.lenE (hw.own _ h3)).1; have l4 := (SlO.lenE (hw.own _ h4)).1; have l5 := (SlO.lenE (hw.own _ h5)).1
 subst l1 l2 l3 l4 l5
 exact ⟨((a1, c1), (a2, c2), (a3, c3), (a4, c4), (a5, c5)), rfl, rfl⟩
theorem HO9.ownE {e1 e2 e3 e4 e5 e6 : TypeId} {W w : World} {S0 : List Nat} {C : List Ass} {a1 a2 a3 a4 a5 : Option Addr} {c1 c2 c3 c4 c5 j1 j2 j3 j4 j5 : Nat} {x : House} (hw : At W S0 C w)
 (h1 : C[j1]? = some (slA e1 intL (.slice a1 x.rules.seats.length c1) x.rules.seats)) (h2 : C[j2]? = some (slA e2 partyL (.slice a2 x.parties.length c2) x.parties)) (h3 : C[j3]? = some (slA e3 (cabinLx e4 e5 e6) (.slice a3 x.cabins.length c3) x.cabins)) (h4 : C[j4]? = some (slA e1 intL (.slice a4 x.todo.length c4) x.todo)) (h5 : C[j5]? = some (slA e1 intL (.slice a5 x.jobs.length c5) x.jobs)) :
 HO9 e1 e2 e3 e4 e5 e6 [.slice a1 x.rules.seats.length c1, vi x.rules.tiers, vi x.rules.room, vi x.rules.size, vi x.rules.period, vi x.rules.window, vi x.rules.rest, vi x.rules.tries, vi x.rules.crew, vi x.now, vi x.turn, .slice a2 x.parties.length c2, .slice a3 x.cabins.length c3, .slice a4 x.todo.length c4, .slice a5 x.jobs.length c5] x
  [slA e1 intL (.slice a1 x.rules.seats.length c1) x.rules.seats, slA e2 partyL (.slice a2 x.parties.length c2) x.parties, slA e3 (cabinLx e4 e5 e6) (.slice a3 x.cabins.length c3) x.cabins, slA e1 intL (.slice a4 x.todo.length c4) x.todo, slA e1 intL (.slice a5 x.jobs.length c5) x.jobs] :=
 ⟨((a1, c1), (a2, c2), (a3, c3), (a4, c4), (a5, c5)), rfl, rfl⟩
def HO9q (e1 e2 e3 e4 e5 e6 : TypeId) (q : H5) (cs : List Value) (x : House) (pre : List Ass) : Prop := cs = [.slice q.1.1 x.rules.seats.length q.1.2, vi x.rules.tiers, vi x.rules.room, vi x.rules.size, vi x.rules.period, vi x.rules.window, vi x.rules.rest, vi x.rules.tries, vi x.rules.crew, vi x.now, vi x.turn, .slice q.2.1.1 x.parties.length q.2.1.2, .slice q.2.2.1.1 x.cabins.length q.2.2.1.2, .slice q.2.2.2.1.1 x.todo.length q.2.2.2.1.2, .slice q.2.2.2.2.1 x.jobs.length q.2.2.2.2.2] ∧ pre = hOw e1 e2 e3 e4 e5 e6 x q
theorem HO9q.own {e1 e2 e3 e4 e5 e6 : TypeId} {W w : World} {S0 : List Nat} {C : List Ass} {a1 a2 a3 a4 a5 : Option Addr} {n1 n2 n3 n4 n5 c1 c2 c3 c4 c5 j1 j2 j3 j4 j5 : Nat} {rs td js : List Int} {ps : List Party} {cs : List Cabin} {x1 x2 x3 x4 x5 x6 x7 x8 nw tu : Int} (hw : At W S0 C w)
 (h1 : C[j1]? = some (slA e1 intL (.slice a1 n1 c1) rs)) (h2 : C[j2]? = some (slA e2 partyL (.slice a2 n2 c2) ps)) (h3 : C[j3]? = some (slA e3 (cabinLx e4 e5 e6) (.slice a3 n3 c3) cs)) (h4 : C[j4]? = some (slA e1 intL (.slice a4 n4 c4) td)) (h5 : C[j5]? = some (slA e1 intL (.slice a5 n5 c5) js)) :
 HO9q e1 e2 e3 e4 e5 e6 ((a1, c1), (a2, c2), (a3, c3), (a4, c4), (a5, c5)) [.slice a1 n1 c1, vi x1, vi x2, vi x3, vi x4, vi x5, vi x6, vi x7, vi x8, vi nw, vi tu, .slice a2 n2 c2, .slice a3 n3 c3, .slice a4 n4 c4, .slice a5 n5 c5] ⟨⟨rs, x1, x2, x3, x4, x5, x6, x7, x8⟩, nw, tu, ps, cs, td, js⟩
  [slA e1 intL (.slice a1 n1 c1) rs, slA e2 partyL (.slice a2 n2 c2) ps, slA e3 (cabinLx e4 e5 e6) (.slice a3 n3 c3) cs, slA e1 intL (.slice a4 n4 c4) td, slA e1 intL (.slice a5 n5 c5) js] := by
 have l1 := (SlO.lenE (hw.own _ h1)).1; have l2 := (SlO.lenE (hw.own _ h2)).1; have l3 := (SlO.lenE (hw.own _ h3)).1; have l4 := (SlO.lenE (hw.own _ h4)).1; have l5 := (SlO.lenE (hw.own _ h5)).1
 subst l1 l2 l3 l4 l5
 exact ⟨rfl, rfl⟩
theorem HO9q.ownE {e1 e2 e3 e4 e5 e6 : TypeId} {W w : World} {S0 : List Nat} {C : List Ass} {a1 a2 a3 a4 a5 : Option Addr} {c1 c2 c3 c4 c5 j1 j2 j3 j4 j5 : Nat} {x : House} (hw : At W S0 C w)
 (h1 : C[j1]? = some (slA e1 intL (.slice a1 x.rules.seats.length c1) x.rules.seats)) (h2 : C[j2]? = some (slA e2 partyL (.slice a2 x.parties.length c2) x.parties)) (h3 : C[j3]? = some (slA e3 (cabinLx e4 e5 e6) (.slice a3 x.cabins.length c3) x.cabins)) (h4 : C[j4]? = some (slA e1 intL (.slice a4 x.todo.length c4) x.todo)) (h5 : C[j5]? = some (slA e1 intL (.slice a5 x.jobs.length c5) x.jobs)) :
 HO9q e1 e2 e3 e4 e5 e6 ((a1, c1), (a2, c2), (a3, c3), (a4, c4), (a5, c5)) [.slice a1 x.rules.seats.length c1, vi x.rules.tiers, vi x.rules.room, vi x.rules.size, vi x.rules.period, vi x.rules.window, vi x.rules.rest, vi x.rules.tries, vi x.rules.crew, vi x.now, vi x.turn, .slice a2 x.parties.length c2, .slice a3 x.cabins.length c3, .slice a4 x.todo.length c4, .slice a5 x.jobs.length c5] x
  [slA e1 intL (.slice a1 x.rules.seats.length c1) x.rules.seats, slA e2 partyL (.slice a2 x.parties.length c2) x.parties, slA e3 (cabinLx e4 e5 e6) (.slice a3 x.cabins.length c3) x.cabins, slA e1 intL (.slice a4 x.todo.length c4) x.todo, slA e1 intL (.slice a5 x.jobs.length c5) x.jobs] :=
 ⟨rfl, rfl⟩
def SO9 {α : Type} (e : TypeId) (La : Lay α) (v : Value) (xs : List α) (pre : List Ass) : Prop := ∃ a c, v = .slice a xs.length c ∧ pre = [slA e La (.slice a xs.length c) xs]
theorem SO9.own {α : Type} {e : TypeId} {La : Lay α} {W w : World} {S0 : List Nat} {C : List Ass} {a : Option Addr} {n c j : Nat} {xs : List α} (hw : At W S0 C w) (h : C[j]? = some (slA e La (.slice a n c) xs)) : SO9 e La (.slice a n c) xs [slA e La (.slice a n c) xs] := by
 have l1 := (SlO.lenE (hw.own _ h)).1
 subst l1
 exact ⟨a, c, rfl, rfl⟩
theorem Rs.ownN {α : Type} {e : TypeId} {La : Lay α} {W w : World} {S0 : List Nat} {C : List Ass} {a : Option Addr} {n c j : Nat} {xs : List α} (hw : At W S0 C w) (h : C[j]? = some (slA e La (.slice a n c) xs)) : Rs La w (.slice a n c) xs := by
 have l1 := (SlO.lenE (hw.own _ h)).1
 subst l1
 exact ⟨a, c, rfl, SlO.capE (hw.own j h), hw.rdO j h⟩
theorem slHo.some {α : Type} {e : TypeId} {L : Lay α} {w : World} {a : Option Addr} {n c k : Nat} {xs : List α} {cs : List Value} (h : ∃ f, (slHo e L (.slice a n c) xs k cs).φ w f) : a.isSome = true := by
 obtain ⟨f, cl, cr, gl, gr, h1, _, h3, h4, h5, h6, h7⟩ := h
 rcases h1.2 with ⟨hv, h0⟩ | ⟨b, ob, cap, cur, fz, hv, _⟩
 · omega
 · injection hv with e1 e2 e3
   subst e1; rfl
class HoR {α : Type} (La : Lay α) (ι : outParam Type) (cv : outParam (α → ι → List Value)) (pc : outParam (α → ι → List Ass)) : Prop where
 hun : ∀ (x : α) w cs f, La.rep true w cs x f → ∃ i fps, cs = cv x i ∧ holds w (pc x i) fps ∧ fps.flatten = f
instance {e1 e2 e3 : TypeId} : HoR (cabinLx e1 e2 e3) (HH × HH) (fun x i => [vi x.seats.total, vi x.seats.free, vi x.seats.held, vi x.seats.sold, vi x.seats.tied, .slice i.1.1 x.row.length i.1.2, .slice i.2.1 x.wheel.spoke.length i.2.2])
 (fun x i => [slA e1 entryL (.slice i.1.1 x.row.length i.1.2) x.row, slA e2 (sl e3 pinL) (.slice i.2.1 x.wheel.spoke.length i.2.2) x.wheel.spoke]) := ⟨fun x => cabinHun⟩
instance {α : Type} {e : TypeId} {La : Lay α} : HoR (sl e La) HH (fun x i => [.slice i.1 x.length i.2]) (fun x i => [slA e La (.slice i.1 x.length i.2) x]) := ⟨fun x => slHun⟩
section rules
variable {X : List Nat} {P : Program} {N : Nat} {W : World} {S0 : List Nat} {Q : Exit → Go.Act → World → Prop} {T : Tm} {L : Bx} {C : List Ass} {ops : Array Oper} {Kn : List (Nat × Nat)} {i : Nat}
theorem gENTO [TB P] {X : List Nat} {f : FuncId} {fn : Func} {c : Code} {vs : List Value} {pre : List Ass} {r : Res} (hf : P.funcs[f]? = some fn) (k : ∀ S0, CD X P N W S0 c (bodyPost P fn (RetM S0 r W)) (argsT 0 vs) [] pre) (hX : lkn (TB.D P).live f = some X := by conv => lhs; whnf) (hb : fn.body = some c := by rfl) (hn : fn.ntmps = N := by rfl) (hl : Nat.ble vs.length N = true := by rfl) : Spec P W pre f vs.toArray r := ENTER hf hb hn (Nat.le_of_ble_eq_true hl) k
theorem gHO {K : Go.Act → World → Prop} {e : TypeId} {α ι : Type} {La : Lay α} {v : Value} {xs : List α} {m j : Nat} {R : List Ass} {cv : α → ι → List Value} {pc : α → ι → List Ass} {y : α} (hp : pull j C = some (slA e La v xs, R)) (hk : xs[m]? = some y) (ho : HoR La ι cv pc)
 (k : ∀ i, G N W S0 K T L (R ++ (slHo e La v xs m (cv y i) :: pc y i))) : G N W S0 K T L C := HOLE (cv y) (pc y) j R (by simp [pulls, hp]) hk (ho.hun y) k
theorem aHL {t : TypeId} {x : Operand} {d : Option Nat} {ty : TypeId} {a : Option Addr} {m n cap sz off j : Nat} {e : TypeId} {α ι : Type} {La : Lay α} {xs : List α} {cv : α → ι → List Value} {pc : α → ι → List Ass} {R : List Ass} {y : α}
 (hx : evo T x = some (.e a (m * sz) off) := by conv => lhs; whnf) (hp : pull j C = some (slA e La (.slice a n cap) xs, R) := by exact PU) (ho : HoR La ι cv pc := by infer_instance) (hj : m < xs.length := by exact LEN) (hy : xs[m] = y := by rfl)
 (k : ∀ i9, AT (.op (.load t x) d ty) X P N W S0 ops Q Kn i T L (R ++ (slHo e La (.slice a n cap) xs m (cv y i9) :: pc y i9))) : AT (.op (.load t x) d ty) X P N W S0 ops Q Kn i T L C := by
 unfold AT OPL at *
 exact gHO hp (by rw [← hy]; exact List.getElem?_eq_getElem hj) ho k
theorem aHS {t : TypeId} {x z : Operand} {d : Option Nat} {ty : TypeId} {a : Option Addr} {m n cap sz off j : Nat} {e : TypeId} {α ι : Type} {La : Lay α} {xs : List α} {cv : α → ι → List Value} {pc : α → ι → List Ass} {R : List Ass} {y : α}
 (hx : evo T x = some (.e a (m * sz) off) := by conv => lhs; whnf) (hp : pull j C = some (slA e La (.slice a n cap) xs, R) := by exact PU) (ho : HoR La ι cv pc := by infer_instance) (hj : m < xs.length := by exact LEN) (hy : xs[m] = y := by rfl)
 (k : ∀ i9, AT (.op (.store t x z) d ty) X P N W S0 ops Q Kn i T L (R ++ (slHo e La (.slice a n cap) xs m (cv y i9) :: pc y i9))) : AT (.op (.store t x z) d ty) X P N W S0 ops Q Kn i T L C := by
 unfold AT OPL at *
 exact gHO hp (by rw [← hy]; exact List.getElem?_eq_getElem hj) ho k
theorem aLH {t : TypeId} {x : Operand} {d : Nat} {ty : TypeId} {a : Option Addr} {m n cap sz off j : Nat} {e : TypeId} {α : Type} {La : Lay α} {xs : List α} {cs : List Value} {v : Value} [TB P]
 (hx : evo T x = some (.e a (m * sz) off) := by conv => lhs; whnf) (hC : C[j]? = some (slHo e La (.slice a n cap) xs m cs) := by exact NT) (hv : ldB (TB.D P) t cs off some = some v := by conv => lhs; whnf) (k : OPL X P N W S0 ops Q Kn (i + 1) ((d, .v v) :: T) L C)
 (hsz : La.sz = sz := by rfl) (hi : Nat.blt i ops.size = true := by rfl) (ho : opAt ops T i = some (.load t x, some d, ty) := by kernel_rfl) (hd : d < N := by exact NL rfl) (hl : loadOf P t cs off = some v := by kernel_rfl) :
 AT (.op (.load t x) (some d) ty) X P N W S0 ops Q Kn i T L C := by
 subst hsz
 exact opsOne (lt_of_blt hi) (LOADE t x d ty ho hd a (m * La.sz) off cs v hx (fun w hw => slHo.elem (hw.own j hC)) hl k)
def stH (off : Nat) (cs : List Value) (v : Value) : Option (List Value) := cellsC v (fun vs => putC off cs vs some)
theorem aSH {t : TypeId} {x y : Operand} {ty : TypeId} {a : Option Addr} {m n cap sz off j e : Nat} {α : Type} {La : Lay α} {xs : List α} {cs cs' : List Value} {v : Value} {R : List Ass}
 (hx : evo T x = some (.e a (m * sz) off) := by conv => lhs; whnf) (hp : pull j C = some (slHo e La (.slice a n cap) xs m cs, R) := by exact PU) (hy : evv T y = some v := by conv => lhs; whnf) (hv : stH off cs v = some cs' := by conv => lhs; whnf)
 (k : OPL X P N W S0 ops Q Kn (i + 1) T L (R ++ [slHo e La (.slice a n cap) xs m cs'])) (hsz : La.sz = sz := by rfl)
 (hi : Nat.blt i ops.size = true := by rfl) (ho : opAt ops T i = some (.store t x y, none, ty) := by kernel_rfl) (hst : storeOf P t cs off v = some cs' := by kernel_rfl) :
 AT (.op (.store t x y) none ty) X P N W S0 ops Q Kn i T L C := by
 subst hsz
 exact opsOne (lt_of_blt hi) (STOREH t x y ty ho j R e La a n cap m off xs cs cs' (by simp [pulls, hp]) v hx hy hst k)
theorem oUNC {K : Go.Act → World → Prop} {e e4 e5 e6 : TypeId} {v : Value} {xs : List Cabin} {m j j1 j2 : Nat} {R R1 R2 : List Ass} {t f h s ti : Int} {a1 a2 : Option Addr} {n1 n2 c1 c2 : Nat} {row : List Entry} {sp : List (List Pin)}
 (hp : pull j C = some (slHo e (cabinLx e4 e5 e6) v xs m [vi t, vi f, vi h, vi s, vi ti, .slice a1 n1 c1, .slice a2 n2 c2], R)) (hp1 : pull j1 R = some (slA e4 entryL (.slice a1 n1 c1) row, R1)) (hp2 : pull j2 R1 = some (slA e5 (sl e6 pinL) (.slice a2 n2 c2) sp, R2))
 (k : G N W S0 K T L (R2 ++ [slA e (cabinLx e4 e5 e6) v (xs.set m ⟨⟨t, f, h, s, ti⟩, row, ⟨sp⟩⟩)])) : G N W S0 K T L C :=
 UNHOLE (e := e) (La := cabinLx e4 e5 e6) (v := v) (xs := xs) (k := m) (cs := [vi t, vi f, vi h, vi s, vi ti, .slice a1 n1 c1, .slice a2 n2 c2]) (⟨⟨t, f, h, s, ti⟩, row, ⟨sp⟩⟩ : Cabin) [j, j1, j2] [slA e4 entryL (.slice a1 n1 c1) row, slA e5 (sl e6 pinL) (.slice a2 n2 c2) sp] R2 (by simp [pulls, hp, hp1, hp2]) (cabinRepN (c := (⟨⟨t, f, h, s, ti⟩, row, ⟨sp⟩⟩ : Cabin))) k
theorem oUNS {K : Go.Act → World → Prop} {α : Type} {La : Lay α} {e e1 : TypeId} {v : Value} {xs : List (List α)} {m j j1 : Nat} {R R1 : List Ass} {a1 : Option Addr} {n1 c1 : Nat} {row : List α}
 (hp : pull j C = some (slHo e (sl e1 La) v xs m [.slice a1 n1 c1], R)) (hp1 : pull j1 R = some (slA e1 La (.slice a1 n1 c1) row, R1))
 (k : G N W S0 K T L (R1 ++ [slA e (sl e1 La) v (xs.set m row)])) : G N W S0 K T L C :=
 UNHOLE (e := e) (La := sl e1 La) (v := v) (xs := xs) (k := m) (cs := [.slice a1 n1 c1]) row [j, j1] [slA e1 La (.slice a1 n1 c1) row] R1 (by simp [pulls, hp, hp1]) (nestRepN (e' := 0)) k
theorem gUNC {c : Code} {e e4 e5 e6 : TypeId} {v : Value} {xs : List Cabin} {m j j1 j2 : Nat} {R R1 R2 : List Ass} {t f h s ti : Int} {a1 a2 : Option Addr} {n1 n2 c1 c2 : Nat} {row : List Entry} {sp : List (List Pin)}
 (hp : pull j C = some (slHo e (cabinLx e4 e5 e6) v xs m [vi t, vi f, vi h, vi s, vi ti, .slice a1 n1 c1, .slice a2 n2 c2], R) := by exact PU) (hp1 : pull j1 R = some (slA e4 entryL (.slice a1 n1 c1) row, R1) := by exact PU) (hp2 : pull j2 R1 = some (slA e5 (sl e6 pinL) (.slice a2 n2 c2) sp, R2) := by exact PU)
 (k : CD X P N W S0 c Q T L (R2 ++ [slA e (cabinLx e4 e5 e6) v (xs.set m ⟨⟨t, f, h, s, ti⟩, row, ⟨sp⟩⟩)])) : CD X P N W S0 c Q T L C := oUNC (K := c.wp P Q) hp hp1 hp2 k
theorem gUNS {c : Code} {α : Type} {La : Lay α} {e e1 : TypeId} {v : Value} {xs : List (List α)} {m j j1 : Nat} {R R1 : List Ass} {a1 : Option Addr} {n1 c1 : Nat} {row : List α}
 (hp : pull j C = some (slHo e (sl e1 La) v xs m [.slice a1 n1 c1], R) := by exact PU) (hp1 : pull j1 R = some (slA e1 La (.slice a1 n1 c1) row, R1) := by exact PU)
 (k : CD X P N W S0 c Q T L (R1 ++ [slA e (sl e1 La) v (xs.set m row)])) : CD X P N W S0 c Q T L C := oUNS (K := c.wp P Q) hp hp1 k
theorem dUNC {x : Exit} {e e4 e5 e6 : TypeId} {v : Value} {xs : List Cabin} {m j j1 j2 : Nat} {R R1 R2 : List Ass} {t f h s ti : Int} {a1 a2 : Option Addr} {n1 n2 c1 c2 : Nat} {row : List Entry} {sp : List (List Pin)}
 (hp : pull j C = some (slHo e (cabinLx e4 e5 e6) v xs m [vi t, vi f, vi h, vi s, vi ti, .slice a1 n1 c1, .slice a2 n2 c2], R) := by exact PU) (hp1 : pull j1 R = some (slA e4 entryL (.slice a1 n1 c1) row, R1) := by exact PU) (hp2 : pull j2 R1 = some (slA e5 (sl e6 pinL) (.slice a2 n2 c2) sp, R2) := by exact PU)
 (k : DN X N W S0 Q x T L (R2 ++ [slA e (cabinLx e4 e5 e6) v (xs.set m ⟨⟨t, f, h, s, ti⟩, row, ⟨sp⟩⟩)])) : DN X N W S0 Q x T L C := oUNC (K := Q x) hp hp1 hp2 k
class ElN (P : Program) (e : TypeId) {α : Type} (La : Lay α) where
 z : Value
 bytes : Nat
 info : (P.info? e).map (fun i => (i.zero, i.size, i.bytes)) = some (some z, La.sz, bytes)
 zs : z.cells.size = La.sz
 pos : 0 < La.sz
 small : bytes ≤ 1024
theorem oBUS {K : Go.Act → World → Prop} {t : TypeId} {x : Operand} {d : Nat} {ty : TypeId} {a : Option Addr} {n c j e e1 : Nat} {α : Type} {La : Lay α} {xs : List α} {R : List Ass}
 (hx : evv T x = some (.slice a n c) := by rfl) (hp : pull j C = some (slA e1 La (.slice a n c) xs, R) := by exact PU)
 (k : ∀ a9 : Option Addr, a9.isSome = true → G N W S0 K ((d, .v (.slice a9 1 1)) :: T) L (R ++ [slA e (sl e1 La) (.slice a9 1 1) [xs]]))
 (ho : opAt ops T i = some (.buildSlice t 1 #[(0, x)], some d, ty) := by kernel_rfl) (hd : d < N := by exact NL rfl) (hb : (partsOf T [(0, x)]).bind (bsOf P t 1) = some (e, [.slice a n c]) := by kernel_rfl) : OP P N W S0 ops Q i K T L C :=
 BUILDS t 1 #[(0, x)] d ty ho hd e [.slice a n c] hb (sl e1 La) [xs] rfl (by decide) [j] _ R (by simp [pulls, hp]) (oneRep (nestRepN (e' := 0))) k
theorem oBUC {K : Go.Act → World → Prop} {t : TypeId} {x : Operand} {d : Nat} {ty : TypeId} {a1 a2 : Option Addr} {n1 n2 c1 c2 j1 j2 e e4 e5 e6 : Nat} {row : List Entry} {sp : List (List Pin)} {x1 x2 x3 x4 x5 : Int} {R1 R : List Ass}
 (hx : evv T x = some (.agg ⟨[vi x1, vi x2, vi x3, vi x4, vi x5, .slice a1 n1 c1, .slice a2 n2 c2]⟩) := by rfl) (hp1 : pull j1 C = some (slA e4 entryL (.slice a1 n1 c1) row, R1) := by exact PU) (hp2 : pull j2 R1 = some (slA e5 (sl e6 pinL) (.slice a2 n2 c2) sp, R) := by exact PU)
 (k : ∀ a9 : Option Addr, a9.isSome = true → G N W S0 K ((d, .v (.slice a9 1 1)) :: T) L (R ++ [slA e (cabinLx e4 e5 e6) (.slice a9 1 1) [⟨⟨x1, x2, x3, x4, x5⟩, row, ⟨sp⟩⟩]]))
 (ho : opAt ops T i = some (.buildSlice t 1 #[(0, x)], some d, ty) := by kernel_rfl) (hd : d < N := by exact NL rfl) (hb : (partsOf T [(0, x)]).bind (bsOf P t 1) = some (e, [vi x1, vi x2, vi x3, vi x4, vi x5, .slice a1 n1 c1, .slice a2 n2 c2]) := by kernel_rfl) : OP P N W S0 ops Q i K T L C :=
 BUILDS t 1 #[(0, x)] d ty ho hd e _ hb (cabinLx e4 e5 e6) [⟨⟨x1, x2, x3, x4, x5⟩, row, ⟨sp⟩⟩] rfl (by decide) [j1, j2] _ R (by simp [pulls, hp1, hp2]) (oneRep (cabinRepN (c := ⟨⟨x1, x2, x3, x4, x5⟩, row, ⟨sp⟩⟩))) k
theorem oAPN {K : Go.Act → World → Prop} {t : TypeId} {s x : Operand} {d : Nat} {ty : TypeId} {v : Value} {a2 : Option Addr} {n2 c2 e : Nat} {α : Type} {La : Lay α} {xs ys : List α} {j1 j2 : Nat} {R1 R : List Ass}
 (hs : evv T s = some v := by conv => lhs; whnf) (hx : evv T x = some (.slice a2 n2 c2) := by conv => lhs; whnf)
 (hp2 : pull j2 C = some (slA e La (.slice a2 n2 c2) ys, R1) := by exact PU) (el : ElN P e La := by infer_instance) (hp1 : pull j1 R1 = some (slA e La v xs, R) := by exact PU) (ha2 : a2.isSome = true := by assumption) (hn2 : ys.length = n2 := by rfl) (hlen : xs.length + n2 ≤ 100000000000 := by exact LEN)
 (k : ∀ (a : Option Addr) (c : Nat), NNil a (xs ++ ys).length → G N W S0 K ((d, .v (.slice a (xs ++ ys).length c)) :: T) L (R ++ [slA e La (.slice a (xs ++ ys).length c) (xs ++ ys)]))
 (ho : opAt ops T i = some (.call { callee := .builtin .append, args := #[s, x], argTypes := #[t, t] }, some d, ty) := by kernel_rfl) (hd : d < N := by exact NL rfl) (hu : P.underlying t = some (.slice e) := by kernel_rfl) : OP P N W S0 ops Q i K T L C := by
 have hb := el.small
 have hm : (xs.length + n2) * el.bytes ≤ (xs.length + n2) * 1024 := Nat.mul_le_mul_left _ hb
 have h1 : C.Perm (slA e La (.slice a2 n2 c2) ys :: R1) := pull_perm hp2
 have h2 : R1.Perm (slA e La v xs :: R) := pull_perm hp1
 have h3 : C.Perm (slA e La v xs :: slA e La (.slice a2 n2 c2) ys :: R) := h1.trans ((h2.cons _).trans (List.Perm.swap _ _ _))
 have key : OP P N W S0 ops Q i K T L (slA e La v xs :: slA e La (.slice a2 n2 c2) ys :: R) := APPENDO t s x d ty ho hd v a2 n2 c2 hs hx ha2 e hu La el.z el.bytes el.info el.zs el.pos 0 0 xs ys R rfl hn2 (by omega) (by simp only [maxLen]; omega) k
 intro ac w hsat
 exact key ac w (hsat.turn (fun _ => rfl) id rfl h3)
theorem aBUS {t : TypeId} {x : Operand} {d : Nat} {ty : TypeId} {a : Option Addr} {n c j e e1 : Nat} {α : Type} {La : Lay α} {xs : List α} {R : List Ass}
 (hx : evv T x = some (.slice a n c) := by rfl) (hp : pull j C = some (slA e1 La (.slice a n c) xs, R) := by exact PU) {sz : Nat} [TB P] (hr : lkn (TB.D P).row t = some (e, sz) := by conv => lhs; whnf)
 (k : ∀ a9 : Option Addr, a9.isSome = true → OPL X P N W S0 ops Q Kn (i + 1) ((d, .v (.slice a9 1 1)) :: T) L (R ++ [slA e (sl e1 La) (.slice a9 1 1) [xs]])) (hi : Nat.blt i ops.size = true := by rfl)
 (ho : opAt ops T i = some (.buildSlice t 1 #[(0, x)], some d, ty) := by kernel_rfl) (hd : d < N := by exact NL rfl) (hb : (partsOf T [(0, x)]).bind (bsOf P t 1) = some (e, [.slice a n c]) := by kernel_rfl) : AT (.op (.buildSlice t 1 #[(0, x)]) (some d) ty) X P N W S0 ops Q Kn i T L C := opsOne (lt_of_blt hi) (oBUS hx hp k ho hd hb)
theorem aBUC {t : TypeId} {x : Operand} {d : Nat} {ty : TypeId} {a1 a2 : Option Addr} {n1 n2 c1 c2 j1 j2 e e4 e5 e6 : Nat} {row : List Entry} {sp : List (List Pin)} {x1 x2 x3 x4 x5 : Int} {R1 R : List Ass} {sz : Nat} [TB P]
 (hx : evv T x = some (.agg ⟨[vi x1, vi x2, vi x3, vi x4, vi x5, .slice a1 n1 c1, .slice a2 n2 c2]⟩) := by rfl) (hp1 : pull j1 C = some (slA e4 entryL (.slice a1 n1 c1) row, R1) := by exact PU) (hp2 : pull j2 R1 = some (slA e5 (sl e6 pinL) (.slice a2 n2 c2) sp, R) := by exact PU) (hr : lkn (TB.D P).row t = some (e, sz) := by conv => lhs; whnf)
 (k : ∀ a9 : Option Addr, a9.isSome = true → OPL X P N W S0 ops Q Kn (i + 1) ((d, .v (.slice a9 1 1)) :: T) L (R ++ [slA e (cabinLx e4 e5 e6) (.slice a9 1 1) [⟨⟨x1, x2, x3, x4, x5⟩, row, ⟨sp⟩⟩]])) (hi : Nat.blt i ops.size = true := by rfl)
 (ho : opAt ops T i = some (.buildSlice t 1 #[(0, x)], some d, ty) := by kernel_rfl) (hd : d < N := by exact NL rfl) (hb : (partsOf T [(0, x)]).bind (bsOf P t 1) = some (e, [vi x1, vi x2, vi x3, vi x4, vi x5, .slice a1 n1 c1, .slice a2 n2 c2]) := by kernel_rfl) : AT (.op (.buildSlice t 1 #[(0, x)]) (some d) ty) X P N W S0 ops Q Kn i T L C := opsOne (lt_of_blt hi) (oBUC hx hp1 hp2 k ho hd hb)
theorem aAPN {t : TypeId} {s x : Operand} {d : Nat} {ty : TypeId} {v : Value} {a2 : Option Addr} {n2 c2 e : Nat} {α : Type} {La : Lay α} {xs ys : List α} {j1 j2 : Nat} {R1 R : List Ass}
 (hs : evv T s = some v := by conv => lhs; whnf) (hx : evv T x = some (.slice a2 n2 c2) := by conv => lhs; whnf)
 (hp2 : pull j2 C = some (slA e La (.slice a2 n2 c2) ys, R1) := by exact PU) (el : ElN P e La := by infer_instance) (hp1 : pull j1 R1 = some (slA e La v xs, R) := by exact PU) (ha2 : a2.isSome = true := by assumption) (hn2 : ys.length = n2 := by rfl) (hlen : xs.length + n2 ≤ 100000000000 := by exact LEN)
 (k : ∀ (a : Option Addr) (c : Nat), NNil a (xs ++ ys).length → OPL X P N W S0 ops Q Kn (i + 1) ((d, .v (.slice a (xs ++ ys).length c)) :: T) L (R ++ [slA e La (.slice a (xs ++ ys).length c) (xs ++ ys)])) (hi : Nat.blt i ops.size = true := by rfl)
 (ho : opAt ops T i = some (.call { callee := .builtin .append, args := #[s, x], argTypes := #[t, t] }, some d, ty) := by kernel_rfl) (hd : d < N := by exact NL rfl) (hu : P.underlying t = some (.slice e) := by kernel_rfl) :
 AT (.op (.call { callee := .builtin .append, args := #[s, x], argTypes := #[t, t] }) (some d) ty) X P N W S0 ops Q Kn i T L C := opsOne (lt_of_blt hi) (oAPN hs hx hp2 el hp1 ha2 hn2 hlen k ho hd hu)
theorem gNILN {c : Code} (e : TypeId) {α : Type} (La : Lay α) (k : CD X P N W S0 c Q T L (C ++ [slA e La (.slice none 0 0) []])) : CD X P N W S0 c Q T L C := NIL (K := c.wp P Q) e La k
def cpB {R : Type} : Bx → (Bx → Option R) → Option R
 | [], k => k []
 | x :: L, k => cpB L (fun l => k (x :: l))
def setBs {R α : Type} (x : α) : List (Nat × (α → List Value)) → Bx → (Bx → Option R) → Option R
 | [], L, k => cpB L k
 | (b, f) :: r, L, k => putBx L b (f x) (fun L' => setBs x r L' k)
def tkB {R : Type} : Bx → Bx → (Bx → Option R) → Option R
 | [], _, k => k []
 | _ :: A, x :: L, k => tkB A L (fun l => k (x :: l))
 | _ :: _, [], k => none
def FGT {α : Type} (s : Nat) (U : α → Tm) (T : Tm) (q : Nat × α) : Tm := (s, I (q.1 : Int)) :: (U q.2 ++ T)
def FGL {α : Type} (Lf : α → Bx) (q : Nat × α) : Bx := Lf q.2
def FGC {α : Type} (O : α → List Ass) (C0 : List Ass) (q : Nat × α) : List Ass := C0 ++ O q.2
theorem gFORG {c : Code} {L : Bx} {α : Type} (s n : Nat) (U : α → Tm) (bs : List (Nat × (α → List Value))) (O : α → List Ass) (Inv : Nat → α → Prop) (x0 : α) {Lf : α → Bx} {js : List Nat} {C0 : List Ass}
 (hLf : ∀ x, setBs x bs L some = some (Lf x) := by intro x; conv => lhs; whnf) (hp : pulls js C = some (O x0, C0) := by first | exact pl0 | exact plS PU pl0 | exact plS PU (plS PU pl0) | exact plS PU (plS PU (plS PU (plS PU (plS PU pl0)))) | exact plS PU (plS PU (plS PU (plS PU (plS PU (plS PU pl0)))))) (h0 : Inv 0 x0)
 (body : ∀ k x, k ≤ n → Inv k x → CD X P N W S0 c (Exit.then (BKP N W S0 (FGT s U T) (FGL Lf) (FGC O C0) (FORIA n Inv) (FORM n) (k, x)) Q) ((s, I (k : Int)) :: (U x ++ T)) (Lf x) (C0 ++ O x))
 (hL : L = Lf x0 := by rfl) (hT : keep T ((FGT s U T (0, x0)).map (·.1)) = keep (FGT s U T (0, x0)) ((FGT s U T (0, x0)).map (·.1)) := by kernel_rfl) (hn : boundedB (Lf x0).length (FGT s U T (0, x0)) = true := by kernel_rfl) : CD X P N W S0 (.loop c) Q T L C := by
 have h := gLOOP (X := X) (P := P) (N := N) (W := W) (S0 := S0) (Q := Q) (T := T) (L := L) (C := C0 ++ O x0) (FGT s U T) (FGL Lf) (FGC O C0) (FORIA n Inv) (FORM n) (0, x0) ⟨Nat.zero_le _, h0⟩ (fun q hk => body q.1 q.2 hk.1 hk.2) hT hn hL rfl
 unfold CD at *
 intro a w hs
 exact h a w (hs.turn (fun _ => rfl) id rfl ((pulls_perm hp).trans List.perm_append_comm))
theorem gGBACK {α : Type} {n k s : Nat} {U : α → Tm} {O : α → List Ass} {Lf : α → Bx} {x : α} {Inv : Nat → α → Prop} {T1 : Tm} {L1 : Bx} {C0 C1 R R2 : List Ass} {js : List Nat} (x' : α) (hlt : k < n) (hU : keep T1 ((U x).map (·.1)) = some (U x') := by conv => lhs; whnf) (hLx : tkB (Lf x) L1 some = some (Lf x') := by conv => lhs; whnf)
 (hp : pulls js C1 = some (O x', R) := by first | exact pl0 | exact plS PU pl0 | exact plS PU (plS PU pl0) | exact plS PU (plS PU (plS PU (plS PU (plS PU pl0)))) | exact plS PU (plS PU (plS PU (plS PU (plS PU (plS PU pl0)))))) (h : Inv (k + 1) x') (hR : R = C0 ++ R2 := by rfl)
 (hT : keep T1 ((FGT s U T (k + 1, x')).map (·.1)) = keep (FGT s U T (k + 1, x')) ((FGT s U T (k + 1, x')).map (·.1)) := by kernel_rfl)
 (hn : boundedB (Lf x').length (FGT s U T (k + 1, x')) = true := by kernel_rfl) (hL : L1.take (Lf x').length = Lf x' := by kernel_rfl) : DN X N W S0 (Exit.then (BKP N W S0 (FGT s U T) (FGL Lf) (FGC O C0) (FORIA n Inv) (FORM n) (k, x)) Q) .normal T1 L1 C1 := by
 subst hR
 intro aa w hs
 have hperm : C1.Perm ((C0 ++ O x') ++ R2) := by
  refine (pulls_perm hp).trans ?_
  rw [← List.append_assoc]
  exact List.perm_append_comm.append_right R2
 have h1 := hs.turn (T1 := T1) (fun _ => rfl) id rfl hperm
 exact ⟨(k + 1, x'), ⟨by show k + 1 ≤ n; omega, h⟩, by show n - (k + 1) < n - k; omega, h1.into (js := zeros (C0 ++ O x')) (R := R2) hT hn hL (pulls_zeros _ _)⟩
theorem wrap_of {e : Int} (h0 : -9223372036854775808 ≤ e) (h1 : e ≤ 9223372036854775807) : IntKind.wrap .i64 e = e := wr_of h0 h1
theorem INT {A : Prop} (h : A := by first | omega | (rw [wr_of (by omega) (by omega)]; omega) | (rw [wrap_of (by omega) (by omega)]; omega)) : A := h
theorem cutLen {α : Type} {xs : List α} {z : Int} (h0 : 0 ≤ z) (hz : z ≤ xs.length) : (xs.take z.toNat).length = z.toNat := by rw [List.length_take]; omega
section cuts
variable {t : TypeId} {x lo : Operand} {d : Nat} {ty : TypeId} {a : Option Addr} {n cap : Nat} {kl : IntKind} {z : Int} {e sz : Nat} {α : Type} {La : Lay α} {xs : List α}
theorem aCHz [TB P] (hl : evv T lo = some (.int kl z) := by conv => lhs; whnf) (hx : evv T x = some (.slice a n cap) := by conv => lhs; whnf) (he : lkn (TB.D P).row t = some (e, sz) := by conv => lhs; whnf) (hr : Rd La W a xs) (hn : n = xs.length := by rfl) (hc : n ≤ cap) (h0 : 0 ≤ z) (hz : z ≤ n)
 (k : ∀ a' : Option Addr, Rd La W a' (xs.take z.toNat) → (xs.take z.toNat).length ≤ cap → OPL X P N W S0 ops Q Kn (i + 1) ((d, .v (.slice a' (xs.take z.toNat).length cap)) :: T) L C) (hi : Nat.blt i ops.size = true := by rfl)
 (ho : opAt ops T i = some (.slice t x none (some lo) none, some d, ty) := by kernel_rfl) (hd : d < N := by exact NL rfl) (hu : P.underlying t = some (.slice e) := by kernel_rfl) (hs : (P.info? e).map (·.size) = some La.sz := by kernel_rfl) :
 AT (.op (.slice t x none (some lo) none) (some d) ty) X P N W S0 ops Q Kn i T L C := by
 subst hn
 refine opsOne (lt_of_blt hi) (CUTH t x lo d ty ho hd a _ cap kl z hx hl e La xs hu hs h0 (by omega) rfl hc fun a' h => ?_)
 have e1 := cutLen h0 hz
 have := k a' (h W hr) (by omega)
 rw [e1] at this
 exact this
theorem aCLz [TB P] (hl : evv T lo = some (.int kl z) := by conv => lhs; whnf) (hx : evv T x = some (.slice a n cap) := by conv => lhs; whnf) (he : lkn (TB.D P).row t = some (e, sz) := by conv => lhs; whnf) (hr : Rd La W a xs) (hn : n = xs.length := by rfl) (hc : n ≤ cap) (h0 : 0 ≤ z) (hz : z ≤ n)
 (k : ∀ a' : Option Addr, Rd La W a' (xs.drop z.toNat) → (xs.drop z.toNat).length ≤ cap - z.toNat → OPL X P N W S0 ops Q Kn (i + 1) ((d, .v (.slice a' (xs.drop z.toNat).length (cap - z.toNat))) :: T) L C) (hi : Nat.blt i ops.size = true := by rfl)
 (ho : opAt ops T i = some (.slice t x (some lo) none none, some d, ty) := by kernel_rfl) (hd : d < N := by exact NL rfl) (hu : P.underlying t = some (.slice e) := by kernel_rfl) (hs : (P.info? e).map (·.size) = some La.sz := by kernel_rfl) :
 AT (.op (.slice t x (some lo) none none) (some d) ty) X P N W S0 ops Q Kn i T L C := by
 subst hn
 refine opsOne (lt_of_blt hi) (CUTL t x lo d ty ho hd a _ cap kl z hx hl e La xs hu hs h0 (by omega) rfl hc fun a' h => ?_)
 have e1 : (xs.drop z.toNat).length = xs.length - z.toNat := by rw [List.length_drop]
 have := k a' (h W hr) (by omega)
 rw [e1] at this
 exact this
end cuts
theorem aIOz {t : TypeId} {x ix : Operand} {d : Nat} {ty : TypeId} {a : Option Addr} {n cap : Nat} {kd : IntKind} {z : Int} {e sz j : Nat} {e' : TypeId} {α : Type} {La : Lay α} {xs : List α} [TB P]
 (hix : evv T ix = some (.int kd z) := by conv => lhs; whnf) (hx : evv T x = some (.slice a n cap) := by conv => lhs; whnf) (ho : lkn (TB.D P).row t = some (e, sz) := by conv => lhs; whnf)
 (hC : C[j]? = some (slA e' La (.slice a n cap) xs) := by exact NT) (h0 : 0 ≤ z := by omega) (hn : z < n := by exact LEN) (k : OPL X P N W S0 ops Q Kn (i + 1) ((d, .e a (z.toNat * sz) 0) :: T) L C)
 (hi : Nat.blt i ops.size = true := by rfl) (hoa : opAt ops T i = some (.indexAddr t x ix, some d, ty) := by kernel_rfl) (hd : d < N := by exact NL rfl) (hu : P.underlying t = some (.slice e) := by kernel_rfl) (hsz : (P.info? e).map (·.size) = some sz := by kernel_rfl) :
 AT (.op (.indexAddr t x ix) (some d) ty) X P N W S0 ops Q Kn i T L C := aIX k hx hix ho (fun w hw => SlO.isS (hw.own j hC) (by omega)) h0 hn hi hoa hd hu hsz
theorem aIH {t : TypeId} {x ix : Operand} {d : Nat} {ty : TypeId} {a : Option Addr} {n cap : Nat} {kd : IntKind} {z e sz j m : Nat} {e' : TypeId} {α : Type} {La : Lay α} {xs : List α} {cs : List Value} [TB P]
 (hix : evv T ix = some (.int kd (z : Int)) := by conv => lhs; whnf) (hx : evv T x = some (.slice a n cap) := by conv => lhs; whnf) (ho : lkn (TB.D P).row t = some (e, sz) := by conv => lhs; whnf)
 (hC : C[j]? = some (slHo e' La (.slice a n cap) xs m cs) := by exact NT) (hn : z < n := by exact LEN) (k : OPL X P N W S0 ops Q Kn (i + 1) ((d, .e a (z * sz) 0) :: T) L C)
 (hi : Nat.blt i ops.size = true := by rfl) (hoa : opAt ops T i = some (.indexAddr t x ix, some d, ty) := by kernel_rfl) (hd : d < N := by exact NL rfl) (hu : P.underlying t = some (.slice e) := by kernel_rfl) (hsz : (P.info? e).map (·.size) = some sz := by kernel_rfl) :
 AT (.op (.indexAddr t x ix) (some d) ty) X P N W S0 ops Q Kn i T L C := aIN k hix hx ho (fun w hw => slHo.some (hw.own j hC)) hn hi hoa hd hu hsz
theorem aIHz {t : TypeId} {x ix : Operand} {d : Nat} {ty : TypeId} {a : Option Addr} {n cap : Nat} {kd : IntKind} {z : Int} {e sz j m : Nat} {e' : TypeId} {α : Type} {La : Lay α} {xs : List α} {cs : List Value} [TB P]
 (hix : evv T ix = some (.int kd z) := by conv => lhs; whnf) (hx : evv T x = some (.slice a n cap) := by conv => lhs; whnf) (ho : lkn (TB.D P).row t = some (e, sz) := by conv => lhs; whnf)
 (hC : C[j]? = some (slHo e' La (.slice a n cap) xs m cs) := by exact NT) (h0 : 0 ≤ z := by omega) (hn : z < n := by exact LEN) (k : OPL X P N W S0 ops Q Kn (i + 1) ((d, .e a (z.toNat * sz) 0) :: T) L C)
 (hi : Nat.blt i ops.size = true := by rfl) (hoa : opAt ops T i = some (.indexAddr t x ix, some d, ty) := by kernel_rfl) (hd : d < N := by exact NL rfl) (hu : P.underlying t = some (.slice e) := by kernel_rfl) (hsz : (P.info? e).map (·.size) = some sz := by kernel_rfl) :
 AT (.op (.indexAddr t x ix) (some d) ty) X P N W S0 ops Q Kn i T L C := aIX k hx hix ho (fun w hw => slHo.some (hw.own j hC)) h0 hn hi hoa hd hu hsz
def RP (v : Value) (r : Res) (C R : List Ass) : Prop := ∃ (x : r.ι) (js : List Nat), v = r.val x ∧ pulls js C = some (r.own x, R)
abbrev RT2 (A B : Res) : Res := ⟨A.ι × B.ι, fun q => .tuple #[A.val q.1, B.val q.2], fun q => A.own q.1 ++ B.own q.2⟩
abbrev RT3 (A B D : Res) : Res := ⟨A.ι × B.ι × D.ι, fun q => .tuple #[A.val q.1, B.val q.2.1, D.val q.2.2], fun q => A.own q.1 ++ (B.own q.2.1 ++ D.own q.2.2)⟩
abbrev RBo : Res := ⟨Bool, fun b => .bool b, fun _ => []⟩
abbrev RWh (e1 e2 : TypeId) (x : Wheel) : Res := ⟨HH, fun p => .agg #[.slice p.1 x.spoke.length p.2], fun p => [slA e1 (sl e2 pinL) (.slice p.1 x.spoke.length p.2) x.spoke]⟩
abbrev RRu (e1 : TypeId) (x : Rules) : Res := ⟨HH, fun p => .agg #[.slice p.1 x.seats.length p.2, vi x.tiers, vi x.room, vi x.size, vi x.period, vi x.window, vi x.rest, vi x.tries, vi x.crew], fun p => [slA e1 intL (.slice p.1 x.seats.length p.2) x.seats]⟩
abbrev RCa (e4 e5 e6 : TypeId) (x : Cabin) : Res := ⟨HH × HH, fun q => .agg #[vi x.seats.total, vi x.seats.free, vi x.seats.held, vi x.seats.sold, vi x.seats.tied, .slice q.1.1 x.row.length q.1.2, .slice q.2.1 x.wheel.spoke.length q.2.2], fun q => [slA e4 entryL (.slice q.1.1 x.row.length q.1.2) x.row, slA e5 (sl e6 pinL) (.slice q.2.1 x.wheel.spoke.length q.2.2) x.wheel.spoke]⟩
theorem pulls_app : ∀ {js ks : List Nat} {C A R B R2 : List Ass}, pulls js C = some (A, R) → pulls ks R = some (B, R2) → pulls (js ++ ks) C = some (A ++ B, R2)
 | [], ks, C, A, R, B, R2, h, h2 => by
   simp only [pulls, Option.some.injEq, Prod.mk.injEq] at h
   obtain ⟨rfl, rfl⟩ := h
   simpa using h2
 | j :: js, ks, C, A, R, B, R2, h, h2 => by
   simp only [pulls] at h
   cases h1 : pull j C with
   | none => simp [h1] at h
   | some q =>
     obtain ⟨y, m⟩ := q
     simp only [h1] at h
     obtain ⟨⟨z, r'⟩, h3, h4⟩ := Option.map_eq_some_iff.1 h
     simp only [Prod.mk.injEq] at h4
     obtain ⟨rfl, rfl⟩ := h4
     have := pulls_app h3 h2
     simp [pulls, h1, this]
theorem pV {v v' : Value} (h : v = v') : RP v (RV v') C C := ⟨(), [], h, rfl⟩
theorem pVi {x y : Int} (h : x = y) : RP (.int .i64 x) (RV (.int .i64 y)) C C := pV (by rw [h])
theorem pVb {x y : Bool} (h : x = y) : RP (.bool x) (RV (.bool y)) C C := pV (by rw [h])
theorem pB {x : Bool} (h : True) : RP (.bool x) RBo C C := ⟨x, [], rfl, rfl⟩
theorem pOWN {e : TypeId} {α : Type} {La : Lay α} {a : Option Addr} {n c j : Nat} {xs xs' : List α} {R : List Ass} (hp : pull j C = some (slA e La (.slice a n c) xs, R) := by exact PU) (hn : n = xs.length := by first | rfl | exact LEN) (h : xs = xs') :
 RP (.slice a n c) ⟨HH, fun p => .slice p.1 xs'.length p.2, fun p => [slA e La (.slice p.1 xs'.length p.2) xs']⟩ C R := by
 subst h; subst hn
 exact ⟨(a, c), [j], rfl, by simp [pulls, hp]⟩
theorem pWh {e1 e2 : TypeId} {a : Option Addr} {n c j : Nat} {xs : List (List Pin)} {x : Wheel} {R : List Ass} (hp : pull j C = some (slA e1 (sl e2 pinL) (.slice a n c) xs, R) := by exact PU) (hn : n = xs.length := by first | rfl | exact LEN) (h : (⟨xs⟩ : Wheel) = x) :
 RP (.agg ⟨[.slice a n c]⟩) (RWh e1 e2 x) C R := by
 subst h; subst hn
 exact ⟨(a, c), [j], rfl, by simp [pulls, hp]⟩
theorem pRu {e1 : TypeId} {a : Option Addr} {n c j : Nat} {xs : List Int} {x1 x2 x3 x4 x5 x6 x7 x8 : Int} {x : Rules} {R : List Ass} (hp : pull j C = some (slA e1 intL (.slice a n c) xs, R) := by exact PU) (hn : n = xs.length := by first | rfl | exact LEN) (h : (⟨xs, x1, x2, x3, x4, x5, x6, x7, x8⟩ : Rules) = x) :
 RP (.agg ⟨[.slice a n c, vi x1, vi x2, vi x3, vi x4, vi x5, vi x6, vi x7, vi x8]⟩) (RRu e1 x) C R := by
 subst h; subst hn
 exact ⟨(a, c), [j], rfl, by simp [pulls, hp]⟩
theorem pCa {e4 e5 e6 : TypeId} {a1 a2 : Option Addr} {n1 n2 c1 c2 j1 j2 : Nat} {row : List Entry} {sp : List (List Pin)} {x1 x2 x3 x4 x5 : Int} {x : Cabin} {R1 R : List Ass} (hp : pull j1 C = some (slA e4 entryL (.slice a1 n1 c1) row, R1) := by exact PU) (hp2 : pull j2 R1 = some (slA e5 (sl e6 pinL) (.slice a2 n2 c2) sp, R) := by exact PU) (hn : n1 = row.length := by first | rfl | exact LEN) (hn2 : n2 = sp.length := by first | rfl | exact LEN)
 (h : (⟨⟨x1, x2, x3, x4, x5⟩, row, ⟨sp⟩⟩ : Cabin) = x) : RP (.agg ⟨[vi x1, vi x2, vi x3, vi x4, vi x5, .slice a1 n1 c1, .slice a2 n2 c2]⟩) (RCa e4 e5 e6 x) C R := by
 subst h; subst hn hn2
 exact ⟨((a1, c1), (a2, c2)), [j1, j2], rfl, by simp [pulls, hp, hp2]⟩
theorem pHO {e1 e2 e3 e4 e5 e6 : TypeId} {a1 a2 a3 a4 a5 : Option Addr} {n1 n2 n3 n4 n5 c1 c2 c3 c4 c5 j1 j2 j3 j4 j5 : Nat} {rs td js : List Int} {ps : List Party} {cs : List Cabin} {x1 x2 x3 x4 x5 x6 x7 x8 nw tu : Int} {R1 R2 R3 R4 R5 : List Ass} {x : House}
 (hp1 : pull j1 C = some (slA e1 intL (.slice a1 n1 c1) rs, R1) := by exact PU) (hp2 : pull j2 R1 = some (slA e2 partyL (.slice a2 n2 c2) ps, R2) := by exact PU) (hp3 : pull j3 R2 = some (slA e3 (cabinLx e4 e5 e6) (.slice a3 n3 c3) cs, R3) := by exact PU) (hp4 : pull j4 R3 = some (slA e1 intL (.slice a4 n4 c4) td, R4) := by exact PU) (hp5 : pull j5 R4 = some (slA e1 intL (.slice a5 n5 c5) js, R5) := by exact PU)
 (h1 : n1 = rs.length := by first | rfl | exact LEN) (h2 : n2 = ps.length := by first | rfl | exact LEN) (h3 : n3 = cs.length := by first | rfl | exact LEN) (h4 : n4 = td.length := by first | rfl | exact LEN) (h5 : n5 = js.length := by first | rfl | exact LEN)
 (h : (⟨⟨rs, x1, x2, x3, x4, x5, x6, x7, x8⟩, nw, tu, ps, cs, td, js⟩ : House) = x) :
 RP (.agg ⟨[.slice a1 n1 c1, vi x1, vi x2, vi x3, vi x4, vi x5, vi x6, vi x7, vi x8, vi nw, vi tu, .slice a2 n2 c2, .slice a3 n3 c3, .slice a4 n4 c4, .slice a5 n5 c5]⟩) (RHo e1 e2 e3 e4 e5 e6 x) C R5 := by
 subst h h1 h2 h3 h4 h5
 exact ⟨((a1, c1), (a2, c2), (a3, c3), (a4, c4), (a5, c5)), [j1, j2, j3, j4, j5], rfl, by simp [pulls, hp1, hp2, hp3, hp4, hp5]⟩
theorem r1 {v : Value} {r : Res} {R : List Ass} (h : RP v r C R) : RETG v r C := by
 obtain ⟨x, js, hx, hp⟩ := h
 exact ⟨x, js, hx, by rw [hp]; rfl⟩
theorem RPQ {v : Value} {r : Res} {R : List Ass} {p : Prop} (h : p → RP v r C R := by
 intro k
 first
 | exact pVi k
 | exact pVb k
 | exact pB k
 | exact pOWN (h := k)
 | exact pHO (h := k)
 | exact pWh (h := k)
 | exact pRu (h := k)
 | exact pCa (h := k)
 | exact pV k) : p → RP v r C R := h
theorem rT2 {v1 v2 : Value} {A B : Res} {R R2 : List Ass} {p1 p2 : Prop} (k : p1 ∧ p2) (h1 : p1 → RP v1 A C R := by exact RPQ) (h2 : p2 → RP v2 B R R2 := by exact RPQ) : RETG (.tuple ⟨[v1, v2]⟩) (RT2 A B) C := by
 obtain ⟨x, js, hx, hp⟩ := h1 k.1
 obtain ⟨y, ks, hy, hq⟩ := h2 k.2
 exact ⟨(x, y), js ++ ks, by rw [hx, hy], by rw [pulls_app hp hq]; rfl⟩
theorem rT3 {v1 v2 v3 : Value} {A B D : Res} {R R2 R3 : List Ass} {p1 p2 p3 : Prop} (k : p1 ∧ p2 ∧ p3) (h1 : p1 → RP v1 A C R := by exact RPQ) (h2 : p2 → RP v2 B R R2 := by exact RPQ) (h3 : p3 → RP v3 D R2 R3 := by exact RPQ) : RETG (.tuple ⟨[v1, v2, v3]⟩) (RT3 A B D) C := by
 obtain ⟨x, js, hx, hp⟩ := h1 k.1
 obtain ⟨y, ks, hy, hq⟩ := h2 k.2.1
 obtain ⟨z, ls, hz, hr⟩ := h3 k.2.2
 exact ⟨(x, y, z), js ++ (ks ++ ls), by rw [hx, hy, hz], by rw [pulls_app hp (pulls_app hq hr)]; rfl⟩
variable {bs : List Nat} {L0 : Bx} {Ks : Keys} {T0 : Tm} {f : Nat} {Ls : List Nat} {la : Array Bool}
def hLookN (n : Nat) (T : Tm) (ops : List Oper) (Kn : List (Nat × Nat)) (Ls : List Nat) : List Oper → Nat → (List Nat → Option Hx) → Option Hx
 | [], _, k => k []
 | ⟨dst, op, ty, pos, after, guard⟩ :: os, i, k => match memN Ls i, depsB after.toList Ls with
   | false, true => wantC ops Kn ⟨dst, op, ty, pos, after, guard⟩
     (fun _ => match Nat.ble n i with
       | true => match op with
         | .load _ x => match evo T x with
           | some (.e _ _ _) => some (.op i op dst ty)
           | _ => hLookN n T ops Kn Ls os (i + 1) (fun l => k (i :: l))
         | .indexAddr _ _ _ | .slice _ _ _ _ _ | .binOp _ _ _ _ _ | .index _ _ _ | .convert _ _ _ => some (.op i op dst ty)
         | _ => hLookN n T ops Kn Ls os (i + 1) (fun l => k (i :: l))
       | false => hLookN n T ops Kn Ls os (i + 1) (fun l => k (i :: l)))
     (fun _ => hLookN n T ops Kn Ls os (i + 1) k)
     (fun d => some (.ask d))
   | _, _ => hLookN n T ops Kn Ls os (i + 1) k
theorem hLD [TB P] {x : Hx} {o : Op} {d : Option Nat} {ty : TypeId} (h : hLookN (i + 1) T ops.toList Kn Ls ops.toList 0 (fun l => some (.loud l)) = some x := by conv => lhs; whnf) (k : HT x X P N W S0 ops Q bs L0 Ks T0 f Ls la Kn T L C) : HT (.op i o d ty) X P N W S0 ops Q bs L0 Ks T0 f Ls la Kn T L C := k
theorem hPAR (ths : List TS) (tail : List Nat) (f0 : Nat) (stops : List (List (List Nat))) (Lc : List (List Nat) → List Nat) (hth : ThsOk P N W S0 ops Q ths) (k : FinAll ths (fun c T1 Lb C' => HL X P N W S0 ops Q bs L0 [] T0 (c.flatten.length + f0) (Lc c) (listedOf ops.size (c.flatten ++ tail)) Kn (T1 ++ T) Lb (C ++ C')) stops) {R : List Ass}
 (hf : f = (cI ths).length + f0 := by rfl) (hla : la = listedOf ops.size (cI ths ++ tail) := by kernel_rfl) (hsub : sub (cT ths) T := by repeat' (first | exact trivial | refine ⟨by kernel_rfl, ?_⟩)) (hin : initB ths := by repeat' (first | exact trivial | exact rfl | apply And.intro)) (hB : parB ops ops.size tail stops ths = true := by kernel_rfl) (hC : C = frz bs L0 ++ R := by rfl) :
 HL X P N W S0 ops Q bs L0 [] T0 f Ls la Kn T [] C := by
 refine HD_of_H (PAR (js := zeros (frz bs L0)) f0 ops.size ths tail stops (zer hC) hf hla hsub hin hB hth ?_)
 have mono : ∀ (ths : List TS) (c : List (List Nat)) (K K' : Tm → Bx → List Ass → Prop), (∀ T L C, K T L C → K' T L C) → FinK ths c K → FinK ths c K' := by
  intro ths
  induction ths with
  | nil => intro c K K' h hk; cases c <;> exact h _ _ _ hk
  | cons t ts ih =>
    intro c K K' h hk
    match c with
    | [] => exact h _ _ _ hk
    | [] :: c => exact fun T L C hF => ih c _ _ (fun T' L' C' => h _ _ _) (hk T L C hF)
    | (_ :: _) :: c => exact ih c _ _ (fun T' L' C' => h _ _ _) hk
 have all : ∀ stops, FinAll ths (fun c T1 Lb C' => HL X P N W S0 ops Q bs L0 [] T0 (c.flatten.length + f0) (Lc c) (listedOf ops.size (c.flatten ++ tail)) Kn (T1 ++ T) Lb (C ++ C')) stops → FinAll ths (fun c T1 Lb C' => H P N W S0 ops Q (frz bs L0) (c.flatten.length + f0) (listedOf ops.size (c.flatten ++ tail)) (T1 ++ T) Lb (C' ++ C)) stops := by
  intro stops
  induction stops with
  | nil => intro h; exact h
  | cons c cs ih =>
    intro h
    refine ⟨⟨h.1.1, mono ths _ _ _ (fun T' L' C' hk => ?_) h.1.2⟩, ih h.2⟩
    have hk2 := H_of_HD hk
    intro a w hs
    exact hk2 a w (hs.turn (T1 := T' ++ T) (fun _ => rfl) (fun h => h) rfl (List.perm_append_comm))
 exact all stops k
theorem thC {ks : List Nat} {Tin : Tm} {d : Nat} {fn : FuncId} {vs : Array Value} {ι : Type} {val : ι → Value} {own : ι → List Ass} {S : Prop} [inst : HasC P fn S] (hcon : S → ∀ Cr w, At W S0 Cr w → Spec P w [] fn vs ⟨ι, val, own⟩) (hk : ∀ p ∈ Tin, p.1 ∈ ks) (hd9 : d ∈ ks)
 (hc : ∀ Tr, callOf P ops (Tin ++ Tr) i = some (fn, vs, some d)) (hd : ∀ k, some d = some k → k < N) : Th P N W S0 ops Q false ks [i] (fun T Lp C => ∃ x, T = (d, .v (val x)) :: Tin ∧ Lp = [] ∧ C = own x) Tin [] [] := by
 intro K Tr Lo Cr _ k
 refine CALL fn vs (some d) (hc Tr) [] [] _ rfl ⟨ι, val, own⟩ (fun w hw => hcon inst.pf _ w hw) hd (fun x => ?_)
 exact k ((d, .v (val x)) :: Tin) [] (own x) (fun p hp => by
  rcases List.mem_cons.1 hp with rfl | hp
  · exact hd9
  · exact hk p hp) (fun _ => rfl) ⟨x, rfl, rfl, rfl⟩
theorem thB {ks : List Nat} {i2 d1 d2 : Nat} {Tin : Tm} {t ty ty2 : TypeId} {x : Operand} {a2 : Option Addr} {n2 c2 e sz : Nat} {α : Type} {enc : α → List Value} {hh : ∀ x, (enc x).length = sz ∧ ∀ u ∈ enc x, isCell u = true} {ys : List α} (el : ElT P e α sz enc hh)
 (hr : Rd (flat sz enc hh) W a2 ys) (hn2 : ys.length = n2) (hlen : n2 ≤ 100000000000) (hk : ∀ p ∈ Tin, p.1 ∈ ks) (hk1 : d1 ∈ ks) (hk2 : d2 ∈ ks)
 (ho : ∀ Tr, opAt ops (Tin ++ Tr) i = some (.buildSlice t 0 #[], some d1, ty)) (hb : ∀ Tr, (partsOf (Tin ++ Tr) []).bind (bsOf P t 0) = some (e, [])) (hd1 : d1 < N) (hd2 : d2 < N) (hu : P.underlying t = some (.slice e))
 (ho2 : ∀ a0 Tr, opAt ops ((d1, .v (.slice a0 0 0)) :: (Tin ++ Tr)) i2 = some (.call { callee := .builtin .append, args := #[.tmp d1, x], argTypes := #[t, t] }, some d2, ty2)) (hx : ∀ a0 Tr, evv ((d1, .v (.slice a0 0 0)) :: (Tin ++ Tr)) x = some (.slice a2 n2 c2)) :
 Th P N W [] ops Q false ks [i, i2] (fun T Lp C => ∃ (a0 a : Option Addr) (c : Nat), T = (d2, .v (.slice a ys.length c)) :: (d1, .v (.slice a0 0 0)) :: Tin ∧ Lp = [] ∧ C = [slA e (flat sz enc hh) (.slice a ys.length c) ys]) Tin [] [] := by
 intro K Tr Lo Cr _ k
 refine BUILDS t 0 #[] d1 ty (ho Tr) hd1 e [] (hb Tr) (flat sz enc hh) [] rfl (Nat.zero_le _) [] [] _ rfl (flatRep rfl) (fun a0 ha0 => ?_)
 refine k ((d1, .v (.slice a0 0 0)) :: Tin) [] [slA e (flat sz enc hh) (.slice a0 0 0) []] (fun p hp => by
  rcases List.mem_cons.1 hp with rfl | hp
  · exact hk1
  · exact hk p hp) (fun _ => rfl) ?_
 intro K2 Tr2 Lo2 Cr2 _ k2
 have hbs := el.small
 have hm : (0 + n2) * el.bytes ≤ (0 + n2) * 1024 := Nat.mul_le_mul_left _ hbs
 have hz : el.z.cells.size = sz := by
  have h1 := congrArg List.length el.zc
  rw [(hh el.x0).1] at h1
  simpa using h1
 refine APPENDR t (.tmp d1) x d2 ty2 (ho2 a0 Tr2) hd2 (.slice a0 0 0) a2 n2 c2 (by simp [evv, evo, lk]) (hx a0 Tr2) e hu el.z el.bytes el.info hz el.pos 0 [] ys _ rfl hn2 (fun w hw => hr.fr hw.fr) (by simp only [List.length_nil]; omega) (by simp only [maxLen, List.length_nil]; omega) (fun a c h => ?_)
 exact k2 ((d2, .v (.slice a ys.length c)) :: (d1, .v (.slice a0 0 0)) :: Tin) [] [slA e (flat sz enc hh) (.slice a ys.length c) ys] (fun p hp => by
  rcases List.mem_cons.1 hp with rfl | hp
  · exact hk2
  · rcases List.mem_cons.1 hp with rfl | hp
    · exact hk1
    · exact hk p hp) (fun _ => rfl) ⟨a0, a, c, rfl, rfl, rfl⟩
theorem thN {ks : List Nat} {d2 : Nat} {Tin : Tm} {t ty2 : TypeId} {s x : Operand} {a2 : Option Addr} {n2 c2 e sz : Nat} {α : Type} {enc : α → List Value} {hh : ∀ x, (enc x).length = sz ∧ ∀ u ∈ enc x, isCell u = true} {ys : List α} (el : ElT P e α sz enc hh)
 (hr : Rd (flat sz enc hh) W a2 ys) (hn2 : ys.length = n2) (hlen : n2 ≤ 100000000000) (hk : ∀ p ∈ Tin, p.1 ∈ ks) (hk2 : d2 ∈ ks) (hd2 : d2 < N) (hu : P.underlying t = some (.slice e))
 (ho2 : ∀ Tr, opAt ops (Tin ++ Tr) i = some (.call { callee := .builtin .append, args := #[s, x], argTypes := #[t, t] }, some d2, ty2)) (hs : ∀ Tr, evv (Tin ++ Tr) s = some (.slice none 0 0)) (hx : ∀ Tr, evv (Tin ++ Tr) x = some (.slice a2 n2 c2)) :
 Th P N W [] ops Q false ks [i] (fun T Lp C => ∃ (a : Option Addr) (c : Nat), T = (d2, .v (.slice a ys.length c)) :: Tin ∧ Lp = [] ∧ C = [slA e (flat sz enc hh) (.slice a ys.length c) ys]) Tin [] [] := by
 intro K2 Tr2 Lo2 Cr2 _ k2
 have hbs := el.small
 have hm : (0 + n2) * el.bytes ≤ (0 + n2) * 1024 := Nat.mul_le_mul_left _ hbs
 have hz : el.z.cells.size = sz := by
  have h1 := congrArg List.length el.zc
  rw [(hh el.x0).1] at h1
  simpa using h1
 refine NILF e (flat sz enc hh) ?_
 refine APPENDR t s x d2 ty2 (ho2 Tr2) hd2 (.slice none 0 0) a2 n2 c2 (hs Tr2) (hx Tr2) e hu el.z el.bytes el.info hz el.pos 0 [] ys _ rfl hn2 (fun w hw => hr.fr hw.fr) (by simp only [List.length_nil]; omega) (by simp only [maxLen, List.length_nil]; omega) (fun a c h => ?_)
 exact k2 ((d2, .v (.slice a ys.length c)) :: Tin) [] [slA e (flat sz enc hh) (.slice a ys.length c) ys] (fun p hp => by
  rcases List.mem_cons.1 hp with rfl | hp
  · exact hk2
  · exact hk p hp) (fun _ => rfl) ⟨a, c, rfl, rfl, rfl⟩
theorem thA {ks : List Nat} {d t : Nat} {cs : List Value} {Tin : Tm} (hk : ∀ p ∈ Tin, p.1 ∈ ks) (hk2 : d ∈ ks) (h : ∀ Tr, runP P N ops 1 [i] (Tin ++ Tr) [] = some ((d, .p 0 0) :: (Tin ++ Tr), [(t, cs)])) :
 Th P N W S0 ops Q true ks [i] (fun T Lp C => T = (d, .p 0 0) :: Tin ∧ Lp = [(t, cs)] ∧ C = []) Tin [] [] := by
 intro K Tr Lo Cr hLo k
 have e := hLo rfl
 subst e
 refine oRUN1 (h Tr) ?_
 have := k ((d, .p 0 0) :: Tin) [(t, cs)] [] (fun p hp => by
  rcases List.mem_cons.1 hp with rfl | hp
  · exact hk2
  · exact hk p hp) (fun h => by cases h) ⟨rfl, rfl, rfl⟩
 simpa using this
theorem hHL {t : TypeId} {x : Operand} {d : Option Nat} {ty : TypeId} {a : Option Addr} {m n cap sz off j : Nat} {e : TypeId} {α ι : Type} {La : Lay α} {xs : List α} {cv : α → ι → List Value} {pc : α → ι → List Ass} {R : List Ass} {y : α}
 (hx : evo T x = some (.e a (m * sz) off) := by conv => lhs; whnf) (hp : pull j C = some (slA e La (.slice a n cap) xs, R) := by exact PU) (ho : HoR La ι cv pc := by infer_instance) (hj : m < xs.length := by exact LEN) (hy : xs[m] = y := by rfl)
 (k : ∀ i9, HO (.op (.load t x) d ty) i X P N W S0 ops Q bs L0 Ks T0 f Ls la Kn T L (R ++ (slHo e La (.slice a n cap) xs m (cv y i9) :: pc y i9))) : HO (.op (.load t x) d ty) i X P N W S0 ops Q bs L0 Ks T0 f Ls la Kn T L C := by
 unfold HO OP at *
 exact gHO hp (by rw [← hy]; exact List.getElem?_eq_getElem hj) ho k
theorem hLH {t : TypeId} {x : Operand} {d : Nat} {ty : TypeId} {a : Option Addr} {m n cap sz off j : Nat} {e : TypeId} {α : Type} {La : Lay α} {xs : List α} {cs : List Value} {v : Value}  [TB P]
 (hx : evo T x = some (.e a (m * sz) off) := by conv => lhs; whnf) (hC : C[j]? = some (slHo e La (.slice a n cap) xs m cs) := by exact NT) (hv : ldB (TB.D P) t cs off some = some v := by conv => lhs; whnf)
 (k : HL X P N W S0 ops Q bs L0 Ks T0 f (i :: Ls) (la.setIfInBounds i true) Kn ((d, .v v) :: T) L C) (hR : KP (frz bs L0) Ks (i :: Ls) (la.setIfInBounds i true) C := by exact KP.mk)
 (hsz : La.sz = sz := by rfl) (ho : opAt ops T i = some (.load t x, some d, ty) := by kernel_rfl) (hd : d < N := by exact NL rfl) (hl : loadOf P t cs off = some v := by kernel_rfl) :
 HO (.op (.load t x) (some d) ty) i X P N W S0 ops Q bs L0 Ks T0 f Ls la Kn T L C := by
 subst hsz
 exact LOADE t x d ty ho hd a (m * La.sz) off cs v hx (fun w hw => slHo.elem (hw.own j hC)) hl (hKEEP hR k)
theorem hSH {t : TypeId} {x y : Operand} {ty : TypeId} {a : Option Addr} {m n cap sz off j e : Nat} {α : Type} {La : Lay α} {xs : List α} {cs cs' : List Value} {v : Value} {R : List Ass}
 (hx : evo T x = some (.e a (m * sz) off) := by conv => lhs; whnf) (hp : pull j C = some (slHo e La (.slice a n cap) xs m cs, R) := by exact PU) (hy : evv T y = some v := by conv => lhs; whnf) (hv : stH off cs v = some cs' := by conv => lhs; whnf)
 (k : HL X P N W S0 ops Q bs L0 Ks T0 f (i :: Ls) (la.setIfInBounds i true) Kn T L (R ++ [slHo e La (.slice a n cap) xs m cs'])) (hR : KP (frz bs L0) Ks (i :: Ls) (la.setIfInBounds i true) R := by exact KP.mk) (hsz : La.sz = sz := by rfl)
 (ho : opAt ops T i = some (.store t x y, none, ty) := by kernel_rfl) (hst : storeOf P t cs off v = some cs' := by kernel_rfl) :
 HO (.op (.store t x y) none ty) i X P N W S0 ops Q bs L0 Ks T0 f Ls la Kn T L C := by
 subst hsz
 exact STOREH t x y ty ho j R e La a n cap m off xs cs cs' (by simp [pulls, hp]) v hx hy hst (hKEEP hR.app k)
theorem hBUS {t : TypeId} {x : Operand} {d : Nat} {ty : TypeId} {a : Option Addr} {n c j e e1 : Nat} {α : Type} {La : Lay α} {xs : List α} {R : List Ass} {sz : Nat} [TB P]
 (hx : evv T x = some (.slice a n c) := by rfl) (hp : pull j C = some (slA e1 La (.slice a n c) xs, R) := by exact PU) (hr : lkn (TB.D P).row t = some (e, sz) := by conv => lhs; whnf)
 (k : ∀ a9 : Option Addr, a9.isSome = true → HL X P N W S0 ops Q bs L0 Ks T0 f (i :: Ls) (la.setIfInBounds i true) Kn ((d, .v (.slice a9 1 1)) :: T) L (R ++ [slA e (sl e1 La) (.slice a9 1 1) [xs]])) (hR : KP (frz bs L0) Ks (i :: Ls) (la.setIfInBounds i true) R := by exact KP.mk)
 (ho : opAt ops T i = some (.buildSlice t 1 #[(0, x)], some d, ty) := by kernel_rfl) (hd : d < N := by exact NL rfl) (hb : (partsOf T [(0, x)]).bind (bsOf P t 1) = some (e, [.slice a n c]) := by kernel_rfl) : HO (.op (.buildSlice t 1 #[(0, x)]) (some d) ty) i X P N W S0 ops Q bs L0 Ks T0 f Ls la Kn T L C :=
 oBUS hx hp (fun a9 ha => hKEEP hR.app (k a9 ha)) ho hd hb
theorem hBUC {t : TypeId} {x : Operand} {d : Nat} {ty : TypeId} {a1 a2 : Option Addr} {n1 n2 c1 c2 j1 j2 e e4 e5 e6 : Nat} {row : List Entry} {sp : List (List Pin)} {x1 x2 x3 x4 x5 : Int} {R1 R : List Ass} {sz : Nat} [TB P]
 (hx : evv T x = some (.agg ⟨[vi x1, vi x2, vi x3, vi x4, vi x5, .slice a1 n1 c1, .slice a2 n2 c2]⟩) := by rfl) (hp1 : pull j1 C = some (slA e4 entryL (.slice a1 n1 c1) row, R1) := by exact PU) (hp2 : pull j2 R1 = some (slA e5 (sl e6 pinL) (.slice a2 n2 c2) sp, R) := by exact PU) (hr : lkn (TB.D P).row t = some (e, sz) := by conv => lhs; whnf)
 (k : ∀ a9 : Option Addr, a9.isSome = true → HL X P N W S0 ops Q bs L0 Ks T0 f (i :: Ls) (la.setIfInBounds i true) Kn ((d, .v (.slice a9 1 1)) :: T) L (R ++ [slA e (cabinLx e4 e5 e6) (.slice a9 1 1) [⟨⟨x1, x2, x3, x4, x5⟩, row, ⟨sp⟩⟩]])) (hR : KP (frz bs L0) Ks (i :: Ls) (la.setIfInBounds i true) R := by exact KP.mk)
 (ho : opAt ops T i = some (.buildSlice t 1 #[(0, x)], some d, ty) := by kernel_rfl) (hd : d < N := by exact NL rfl) (hb : (partsOf T [(0, x)]).bind (bsOf P t 1) = some (e, [vi x1, vi x2, vi x3, vi x4, vi x5, .slice a1 n1 c1, .slice a2 n2 c2]) := by kernel_rfl) : HO (.op (.buildSlice t 1 #[(0, x)]) (some d) ty) i X P N W S0 ops Q bs L0 Ks T0 f Ls la Kn T L C :=
 oBUC hx hp1 hp2 (fun a9 ha => hKEEP hR.app (k a9 ha)) ho hd hb
theorem hAPN {t : TypeId} {s x : Operand} {d : Nat} {ty : TypeId} {v : Value} {a2 : Option Addr} {n2 c2 e : Nat} {α : Type} {La : Lay α} {xs ys : List α} {j1 j2 : Nat} {R1 R : List Ass}
 (hs : evv T s = some v := by conv => lhs; whnf) (hx : evv T x = some (.slice a2 n2 c2) := by conv => lhs; whnf)
 (hp2 : pull j2 C = some (slA e La (.slice a2 n2 c2) ys, R1) := by exact PU) (el : ElN P e La := by infer_instance) (hp1 : pull j1 R1 = some (slA e La v xs, R) := by exact PU) (ha2 : a2.isSome = true := by assumption) (hn2 : ys.length = n2 := by rfl) (hlen : xs.length + n2 ≤ 100000000000 := by exact LEN)
 (k : ∀ (a : Option Addr) (c : Nat), NNil a (xs ++ ys).length → HL X P N W S0 ops Q bs L0 Ks T0 f (i :: Ls) (la.setIfInBounds i true) Kn ((d, .v (.slice a (xs ++ ys).length c)) :: T) L (R ++ [slA e La (.slice a (xs ++ ys).length c) (xs ++ ys)])) (hR : KP (frz bs L0) Ks (i :: Ls) (la.setIfInBounds i true) R := by exact KP.mk)
 (ho : opAt ops T i = some (.call { callee := .builtin .append, args := #[s, x], argTypes := #[t, t] }, some d, ty) := by kernel_rfl) (hd : d < N := by exact NL rfl) (hu : P.underlying t = some (.slice e) := by kernel_rfl) :
 HO (.op (.call { callee := .builtin .append, args := #[s, x], argTypes := #[t, t] }) (some d) ty) i X P N W S0 ops Q bs L0 Ks T0 f Ls la Kn T L C :=
 oAPN hs hx hp2 el hp1 ha2 hn2 hlen (fun a c h => hKEEP hR.app (k a c h)) ho hd hu
theorem hAPR {t : TypeId} {s x : Operand} {d : Nat} {ty : TypeId} {v : Value} {a2 : Option Addr} {n2 c2 e sz : Nat} {α : Type} {enc : α → List Value} {hh : ∀ x, (enc x).length = sz ∧ ∀ u ∈ enc x, isCell u = true} {xs ys : List α} {j1 : Nat} {R : List Ass} [TB P]
 (he : lkn (TB.D P).row t = some (e, sz) := by conv => lhs; whnf) (el : ElT P e α sz enc hh := by infer_instance) (hs : evv T s = some v := by conv => lhs; whnf) (hx : evv T x = some (.slice a2 n2 c2) := by conv => lhs; whnf)
 (hp1 : pull j1 C = some (slA e (flat sz enc hh) v xs, R) := by exact PU) (hr : Rd (flat sz enc hh) W a2 ys) (hn2 : ys.length = n2 := by rfl) (hlen : xs.length + n2 ≤ 100000000000 := by exact LEN)
 (k : ∀ (a : Option Addr) (c : Nat), NNil a (xs ++ ys).length → HL X P N W [] ops Q bs L0 Ks T0 f (i :: Ls) (la.setIfInBounds i true) Kn ((d, .v (.slice a (xs ++ ys).length c)) :: T) L (R ++ [slA e (flat sz enc hh) (.slice a (xs ++ ys).length c) (xs ++ ys)])) (hR : KP (frz bs L0) Ks (i :: Ls) (la.setIfInBounds i true) R := by exact KP.mk)
 (ho : opAt ops T i = some (.call { callee := .builtin .append, args := #[s, x], argTypes := #[t, t] }, some d, ty) := by kernel_rfl) (hd : d < N := by exact NL rfl) (hu : P.underlying t = some (.slice e) := by kernel_rfl) :
 HO (.op (.call { callee := .builtin .append, args := #[s, x], argTypes := #[t, t] }) (some d) ty) i X P N W [] ops Q bs L0 Ks T0 f Ls la Kn T L C := by
 have hb := el.small
 have hm : (xs.length + n2) * el.bytes ≤ (xs.length + n2) * 1024 := Nat.mul_le_mul_left _ hb
 have hz : el.z.cells.size = sz := by
  have h1 := congrArg List.length el.zc
  rw [(hh el.x0).1] at h1
  simpa using h1
 exact APPENDR t s x d ty ho hd v a2 n2 c2 hs hx e hu el.z el.bytes el.info hz el.pos j1 xs ys R (by simp [pulls, hp1]) hn2 (fun w hw => hr.fr hw.fr) (by omega) (by simp only [maxLen]; omega) (fun a c h => hKEEP hR.app (k a c h))
theorem hNIL {x : Nx} {e : TypeId} {α : Type} {La : Lay α} (k : HO x i X P N W S0 ops Q bs L0 Ks T0 f Ls la Kn T L (C ++ [slA e La (.slice none 0 0) []])) : HO x i X P N W S0 ops Q bs L0 Ks T0 f Ls la Kn T L C := NIL e La k
theorem hLF2 {t : TypeId} {x : Operand} {d : Nat} {ty : TypeId} {a : Option Addr} {j sz off : Nat} {α ι : Type} {La : Lay α} {enc : α → ι → List Value} {imp : World → α → ι → Prop → Prop} {xs : List α} {y : α} {v : ι → Value}  [TB P]
 (hx : evo T x = some (.e a (j * sz) off) := by conv => lhs; whnf) (hr : Rd La W a xs) (hj : j < xs.length) (hy : xs[j] = y := by rfl) (op : OpR La ι enc imp := by infer_instance) (hv : ∀ q, ldB (TB.D P) t (enc y q) off some = some (v q) := by intro q; conv => lhs; whnf)
 (k : ∀ q, imp W y q (HL X P N W [] ops Q bs L0 Ks T0 f (i :: Ls) (la.setIfInBounds i true) Kn ((d, .v (v q)) :: T) L C)) (hC : KP (frz bs L0) Ks Ls la C := by exact KP.mk) (hsz : La.sz = sz := by rfl)
 (hk : takeB ops la Ks i = true := by kernel_rfl) (ho : opAt ops T i = some (.load t x, some d, ty) := by kernel_rfl) (hd : d < N := by exact NL rfl) (hl : ∀ q, loadOf P t (enc y q) off = some (v q) := by intro q; kernel_rfl) :
 HT (.op i (.load t x) (some d) ty) X P N W [] ops Q bs L0 Ks T0 (f + 1) Ls la Kn T L C := by
 subst hsz
 obtain ⟨q, h1, h2⟩ := op.ex hr (show xs[j]? = some y by rw [← hy]; exact List.getElem?_eq_getElem hj)
 obtain ⟨js9, h9⟩ := hC.pulls
 exact HDLOADE t x d ty ho hd a (j * La.sz) off (enc y q) (v q) hx (fun w hw j hj => ElemAt.fr h1 hw.fr j hj) (hl q) hk h9 (h2 _ (k q))
section hcuts
variable {t : TypeId} {x lo : Operand} {d : Nat} {ty : TypeId} {a : Option Addr} {n cap : Nat} {kl : IntKind} {z : Int} {e sz : Nat} {α : Type} {La : Lay α} {xs : List α} {R : List Ass}
theorem hCHz [TB P] (hl : evv T lo = some (.int kl z) := by conv => lhs; whnf) (hx : evv T x = some (.slice a n cap) := by conv => lhs; whnf) (he : lkn (TB.D P).row t = some (e, sz) := by conv => lhs; whnf) (hr : Rd La W a xs) (hn : n = xs.length := by rfl) (hc : n ≤ cap) (h0 : 0 ≤ z) (hz : z ≤ n)
 (k : ∀ a' : Option Addr, Rd La W a' (xs.take z.toNat) → (xs.take z.toNat).length ≤ cap → HL X P N W S0 ops Q bs L0 Ks T0 f (i :: Ls) (la.setIfInBounds i true) Kn ((d, .v (.slice a' (xs.take z.toNat).length cap)) :: T) L C) (hC : KP (frz bs L0) Ks Ls la C := by exact KP.mk)
 (hk : takeB ops la Ks i = true := by kernel_rfl)
 (ho : opAt ops T i = some (.slice t x none (some lo) none, some d, ty) := by kernel_rfl) (hd : d < N := by exact NL rfl) (hu : P.underlying t = some (.slice e) := by kernel_rfl) (hs : (P.info? e).map (·.size) = some La.sz := by kernel_rfl) :
 HT (.op i (.slice t x none (some lo) none) (some d) ty) X P N W S0 ops Q bs L0 Ks T0 (f + 1) Ls la Kn T L C := by
 subst hn
 obtain ⟨js9, h9⟩ := hC.pulls
 refine HDCUTH t x lo d ty ho hd a _ cap kl z hx hl e La xs hu hs h0 (by omega) rfl hc hk h9 fun a' h => ?_
 have e1 := cutLen h0 hz
 have := k a' (h W hr) (by omega)
 rw [e1] at this
 exact this
theorem hCLz [TB P] (hl : evv T lo = some (.int kl z) := by conv => lhs; whnf) (hx : evv T x = some (.slice a n cap) := by conv => lhs; whnf) (he : lkn (TB.D P).row t = some (e, sz) := by conv => lhs; whnf) (hr : Rd La W a xs) (hn : n = xs.length := by rfl) (hc : n ≤ cap) (h0 : 0 ≤ z) (hz : z ≤ n)
 (k : ∀ a' : Option Addr, Rd La W a' (xs.drop z.toNat) → (xs.drop z.toNat).length ≤ cap - z.toNat → HL X P N W S0 ops Q bs L0 Ks T0 f (i :: Ls) (la.setIfInBounds i true) Kn ((d, .v (.slice a' (xs.drop z.toNat).length (cap - z.toNat))) :: T) L C) (hC : KP (frz bs L0) Ks Ls la C := by exact KP.mk)
 (hk : takeB ops la Ks i = true := by kernel_rfl)
 (ho : opAt ops T i = some (.slice t x (some lo) none none, some d, ty) := by kernel_rfl) (hd : d < N := by exact NL rfl) (hu : P.underlying t = some (.slice e) := by kernel_rfl) (hs : (P.info? e).map (·.size) = some La.sz := by kernel_rfl) :
 HT (.op i (.slice t x (some lo) none none) (some d) ty) X P N W S0 ops Q bs L0 Ks T0 (f + 1) Ls la Kn T L C := by
 subst hn
 obtain ⟨js9, h9⟩ := hC.pulls
 refine HDCUTL t x lo d ty ho hd a _ cap kl z hx hl e La xs hu hs h0 (by omega) rfl hc hk h9 fun a' h => ?_
 have e1 : (xs.drop z.toNat).length = xs.length - z.toNat := by rw [List.length_drop]
 have := k a' (h W hr) (by omega)
 rw [e1] at this
 exact this
end hcuts
theorem hFACT (p : Prop) (h : ∀ w, At W S0 C w → p) (k : p → HL X P N W S0 ops Q bs L0 Ks T0 f Ls la Kn T L C) : HL X P N W S0 ops Q bs L0 Ks T0 f Ls la Kn T L C := fun a w hs => by
 obtain ⟨bs9, fps, ht, hb, hm⟩ := id hs
 exact k (h w hm.at_) a w hs
theorem hION {t : TypeId} {x ix : Operand} {d : Nat} {ty : TypeId} {a : Option Addr} {n cap : Nat} {kd : IntKind} {z e sz j : Nat} {e' : TypeId} {α : Type} {La : Lay α} {xs : List α}  [TB P]
 (hix : evv T ix = some (.int kd (z : Int)) := by conv => lhs; whnf) (hx : evv T x = some (.slice a n cap) := by conv => lhs; whnf) (ho : lkn (TB.D P).row t = some (e, sz) := by conv => lhs; whnf) (hC9 : C[j]? = some (slA e' La (.slice a n cap) xs) := by exact NT) (hn : z < n := by exact LEN)
 (k : HL X P N W S0 ops Q bs L0 Ks T0 f (i :: Ls) (la.setIfInBounds i true) Kn ((d, .e a (z * sz) 0) :: T) L C) (hC : KP (frz bs L0) Ks Ls la C := by exact KP.mk)
 (hk : takeB ops la Ks i = true := by kernel_rfl) (hoa : opAt ops T i = some (.indexAddr t x ix, some d, ty) := by kernel_rfl) (hd : d < N := by exact NL rfl) (hu : P.underlying t = some (.slice e) := by kernel_rfl) (hsz : (P.info? e).map (·.size) = some sz := by kernel_rfl) :
 HT (.op i (.indexAddr t x ix) (some d) ty) X P N W S0 ops Q bs L0 Ks T0 (f + 1) Ls la Kn T L C :=
 hFACT (a.isSome = true) (fun w hw => SlO.isS (hw.own j hC9) (by omega)) fun ha => hC.pulls.elim fun _ h9 => HDINDEX t x ix d ty hoa hd a n cap kd z e sz hx hix hu hsz ha (by omega) (by omega) hk h9 k
theorem hIO {t : TypeId} {x ix : Operand} {d : Nat} {ty : TypeId} {a : Option Addr} {n cap : Nat} {kd : IntKind} {z : Int} {e sz j : Nat} {e' : TypeId} {α : Type} {La : Lay α} {xs : List α}  [TB P]
 (hix : evv T ix = some (.int kd z) := by conv => lhs; whnf) (hx : evv T x = some (.slice a n cap) := by conv => lhs; whnf) (ho : lkn (TB.D P).row t = some (e, sz) := by conv => lhs; whnf) (hC9 : C[j]? = some (slA e' La (.slice a n cap) xs) := by exact NT) (h0 : 0 ≤ z := by omega) (hn : z < n := by exact LEN)
 (k : HL X P N W S0 ops Q bs L0 Ks T0 f (i :: Ls) (la.setIfInBounds i true) Kn ((d, .e a (z.toNat * sz) 0) :: T) L C) (hC : KP (frz bs L0) Ks Ls la C := by exact KP.mk)
 (hk : takeB ops la Ks i = true := by kernel_rfl) (hoa : opAt ops T i = some (.indexAddr t x ix, some d, ty) := by kernel_rfl) (hd : d < N := by exact NL rfl) (hu : P.underlying t = some (.slice e) := by kernel_rfl) (hsz : (P.info? e).map (·.size) = some sz := by kernel_rfl) :
 HT (.op i (.indexAddr t x ix) (some d) ty) X P N W S0 ops Q bs L0 Ks T0 (f + 1) Ls la Kn T L C :=
 hFACT (a.isSome = true) (fun w hw => SlO.isS (hw.own j hC9) (by omega)) fun ha => hC.pulls.elim fun _ h9 => HDINDEX t x ix d ty hoa hd a n cap kd z e sz hx hix hu hsz ha h0 hn hk h9 k
theorem hIH {t : TypeId} {x ix : Operand} {d : Nat} {ty : TypeId} {a : Option Addr} {n cap : Nat} {kd : IntKind} {z : Int} {e sz j m : Nat} {e' : TypeId} {α : Type} {La : Lay α} {xs : List α} {cs : List Value}  [TB P]
 (hix : evv T ix = some (.int kd z) := by conv => lhs; whnf) (hx : evv T x = some (.slice a n cap) := by conv => lhs; whnf) (ho : lkn (TB.D P).row t = some (e, sz) := by conv => lhs; whnf) (hC9 : C[j]? = some (slHo e' La (.slice a n cap) xs m cs) := by exact NT) (h0 : 0 ≤ z := by omega) (hn : z < n := by exact LEN)
 (k : HL X P N W S0 ops Q bs L0 Ks T0 f (i :: Ls) (la.setIfInBounds i true) Kn ((d, .e a (z.toNat * sz) 0) :: T) L C) (hC : KP (frz bs L0) Ks Ls la C := by exact KP.mk)
 (hk : takeB ops la Ks i = true := by kernel_rfl) (hoa : opAt ops T i = some (.indexAddr t x ix, some d, ty) := by kernel_rfl) (hd : d < N := by exact NL rfl) (hu : P.underlying t = some (.slice e) := by kernel_rfl) (hsz : (P.info? e).map (·.size) = some sz := by kernel_rfl) :
 HT (.op i (.indexAddr t x ix) (some d) ty) X P N W S0 ops Q bs L0 Ks T0 (f + 1) Ls la Kn T L C :=
 hFACT (a.isSome = true) (fun w hw => slHo.some (hw.own j hC9)) fun ha => hC.pulls.elim fun _ h9 => HDINDEX t x ix d ty hoa hd a n cap kd z e sz hx hix hu hsz ha h0 hn hk h9 k
theorem hHS {t : TypeId} {x z : Operand} {d : Option Nat} {ty : TypeId} {a : Option Addr} {m n cap sz off j : Nat} {e : TypeId} {α ι : Type} {La : Lay α} {xs : List α} {cv : α → ι → List Value} {pc : α → ι → List Ass} {R : List Ass} {y : α}
 (hx : evo T x = some (.e a (m * sz) off) := by conv => lhs; whnf) (hp : pull j C = some (slA e La (.slice a n cap) xs, R) := by exact PU) (ho : HoR La ι cv pc := by infer_instance) (hj : m < xs.length := by exact LEN) (hy : xs[m] = y := by rfl)
 (k : ∀ i9, HO (.op (.store t x z) d ty) i X P N W S0 ops Q bs L0 Ks T0 f Ls la Kn T L (R ++ (slHo e La (.slice a n cap) xs m (cv y i9) :: pc y i9))) : HO (.op (.store t x z) d ty) i X P N W S0 ops Q bs L0 Ks T0 f Ls la Kn T L C := by
 unfold HO OP at *
 exact gHO hp (by rw [← hy]; exact List.getElem?_eq_getElem hj) ho k
theorem hIXz {t : TypeId} {x ix : Operand} {d : Nat} {ty : TypeId} {a : Option Addr} {n cap : Nat} {kd : IntKind} {z : Int} {e sz : Nat}  [TB P]
 (hix : evv T ix = some (.int kd z) := by conv => lhs; whnf) (hx : evv T x = some (.slice a n cap) := by conv => lhs; whnf) (ho : lkn (TB.D P).row t = some (e, sz) := by conv => lhs; whnf) (ha : a.isSome = true) (h0 : 0 ≤ z) (hn : z < n)
 (k : HL X P N W S0 ops Q bs L0 Ks T0 f (i :: Ls) (la.setIfInBounds i true) Kn ((d, .e a (z.toNat * sz) 0) :: T) L C) (hC : KP (frz bs L0) Ks Ls la C := by exact KP.mk)
 (hk : takeB ops la Ks i = true := by kernel_rfl) (hoa : opAt ops T i = some (.indexAddr t x ix, some d, ty) := by kernel_rfl) (hd : d < N := by exact NL rfl) (hu : P.underlying t = some (.slice e) := by kernel_rfl) (hsz : (P.info? e).map (·.size) = some sz := by kernel_rfl) :
 HT (.op i (.indexAddr t x ix) (some d) ty) X P N W S0 ops Q bs L0 Ks T0 (f + 1) Ls la Kn T L C := hC.pulls.elim fun _ h9 => HDINDEX t x ix d ty hoa hd a n cap kd z e sz hx hix hu hsz ha h0 hn hk h9 k
theorem hLO {t : TypeId} {x : Operand} {d : Nat} {ty : TypeId} {a : Option Addr} {m n cap sz off j : Nat} {e' : TypeId} {α : Type} {enc : α → List Value} {hh : ∀ x, (enc x).length = sz ∧ ∀ u ∈ enc x, isCell u = true} {xs : List α} {v : Value}  [TB P]
 (hx : evo T x = some (.e a (m * sz) off) := by conv => lhs; whnf) (hC : C[j]? = some (slA e' (flat sz enc hh) (.slice a n cap) xs) := by exact NT) (hj : m < xs.length := by exact LEN) (hv : ldB (TB.D P) t (enc xs[m]) off some = some v := by conv => lhs; whnf) (k : HL X P N W S0 ops Q bs L0 Ks T0 f (i :: Ls) (la.setIfInBounds i true) Kn ((d, .v v) :: T) L C) (hR : KP (frz bs L0) Ks (i :: Ls) (la.setIfInBounds i true) C := by exact KP.mk)
 (ho : opAt ops T i = some (.load t x, some d, ty) := by kernel_rfl) (hd : d < N := by exact NL rfl) (hl : loadOf P t (enc xs[m]) off = some v := by kernel_rfl) :
 HO (.op (.load t x) (some d) ty) i X P N W S0 ops Q bs L0 Ks T0 f Ls la Kn T L C := LOADE t x d ty ho hd a (m * sz) off (enc xs[m]) v hx (fun w hw => Rd.flat (hw.rdO j hC) (List.getElem?_eq_getElem hj)) hl (hKEEP hR k)
theorem hTL {x : Hx} (k : HL X P N W S0 ops Q bs L0 Ks T0 f Ls la Kn T L C) : HT x X P N W S0 ops Q bs L0 Ks T0 f Ls la Kn T L C := k
theorem INTD {A : Prop} (h : A := by first | (dsimp only; omega) | (simp only [Int.toNat_natCast]; omega)) : A := h
end rules
end SX
end Go.Proofs.YtejojcoaohlfbaaGreat
