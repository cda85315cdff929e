/- Texts of this claim, put together by program. -/
import Derived.Test.YthnbaikmbgaddaaGreatBB
import Derived.Test.YthnbaikmbgaddaaGreatR2
import Derived.Test.YthnbaikmbgaddaaGreatMdlj
/- The program's side: contracts of the printed walks, in the engine's form; insertions and removals. -/
namespace Go.Proofs.YthnbaikmbgaddaaGreat
namespace SX
open Go Go.RowKit
set_option linter.unusedVariables false
set_option linter.unusedSimpArgs false
set_option maxRecDepth 10000
set_option maxHeartbeats 1000000
attribute [local irreducible] CD DN OPL AT QL QT CND RETG BKP HL HT HO slA slHo slP ptC pull pulls
instance hQueueOk_c : HC 329 (∀ (W : World) (list : List Entry) (v : Value), Rs entryL W v list →Sp W [] 329 #[v] (RV (.bool (queueOk list)))) := by
 refine ⟨fun W list v ⟨a, c, e, hc, hr⟩ => ?_⟩
 subst e
 exact iQueueOk_c W list a c hr hc
instance hWheelOk_c : HC 264 (∀ (W : World) (w : Wheel) (v : Value), Rs (sl 167 pinL) W v w.spoke → w.spoke.flatten.length ≤ 4194304 →Sp W [] 264 #[.agg #[v]] (RV (.bool (wheelOk w)))) := by
 refine ⟨fun W w v ⟨a, c, e, hc, hr⟩ hb => ?_⟩
 subst e
 exact iWheelOk_c W w a c hr hb
instance hPinsOf_c : HC 258 (∀ (W : World) (w : Wheel) (v : Value), Rs (sl 167 pinL) W v w.spoke → w.spoke.flatten.length ≤ 4194304 →Sp W [] 258 #[.agg #[v]] (RO 167 pinL (pinsOf w))) := by
 refine ⟨fun W w v ⟨a, c, e, hc, hr⟩ hb => ?_⟩
 subst e
 exact iPinsOf_c W w a c hr hb
instance hPinOk_c : HC 265 (∀ (W : World) (p : Pin),Sp W [] 265 #[.agg (pinE p).toArray] (RV (.bool (pinRB p)))) := by
 exact ⟨fun W p => pinOk_c W p⟩
instance hEntryLess_c : HC 337 (∀ (W : World) (a b : Entry),Sp W [] 337 #[.agg (entryE a).toArray, .agg (entryE b).toArray] (RV (.bool (entryLess a b)))) := by
 exact ⟨fun W a b => iEntryLess_c W a b⟩
instance hHouseOk_c : HC 91 (∀ (W : World) (cs : List Value) (h : House), HsR W cs h → HouseSz h →Sp W [] 91 #[.agg cs.toArray] (RV (.bool (houseOk h)))) := by
 refine ⟨fun W cs h hh hsz => ?_⟩
 obtain ⟨a1, c1, a2, c2, a3, c3, a4, c4, a5, c5, rfl, h1, h2, h3, h4, h5, h6, h7, h8, h9, h10⟩ := hh
 exact iHouseOk_c W h a1 c1 h6 a2 c2 h7 a3 c3 h8 a4 c4 h9 a5 c5 h10 hsz h2 h4
instance hpartyAt_c : HC 202 (∀ (W : World) (list : List Party) (v : Value) (id : Int), Rs partyL W v list →Sp W [] 202 #[v, vi id] (RV (vi (atId list id)))) := by
 refine ⟨fun W list v id ⟨a, c, e, hc, hr⟩ => ?_⟩
 subst e
 exact ipartyAt_c W list a c hr id
instance hPartyAt_c : HC 104 (∀ (W : World) (cs : List Value) (h : House) (id : Int), HsR W cs h →Sp W [] 104 #[.agg cs.toArray, vi id] (RV (vi (atId h.parties id)))) := by
 refine ⟨fun W cs h id hh => ?_⟩
 obtain ⟨a1, c1, a2, c2, a3, c3, a4, c4, a5, c5, rfl, h1, h2, h3, h4, h5, h6, h7, h8, h9, h10⟩ := hh
 exact iPartyAt_c W h a1 c1 h6 a2 c2 h7 a3 c3 h8 a4 c4 h9 a5 c5 h10 id
def SP9 {α : Type} (e : TypeId) (La : Lay α) (v : Value) (xs : List α) (pre : List Ass) : Prop := ∃ a n c, v = .slice a n c ∧ pre = [slP e La (.slice a n c) xs]
theorem SP9.mk {α : Type} {e : TypeId} {La : Lay α} {a : Option Addr} {n c : Nat} {xs : List α} : SP9 e La (.slice a n c) xs [slP e La (.slice a n c) xs] := ⟨a, n, c, rfl, rfl⟩
instance hDelParty_c : HC 268 (∀ (W : World) (s : List Party) (a : Option Addr) (n c : Nat) (i j : Int), 0 ≤ i → i < (s.length : Int) → j = i + 1 → s.length ≤ 1048576 →Sp W [slA 56 partyL (.slice a n c) s] 268 #[.slice a n c, vi i, vi j] (RO 56 partyL (cutAt s i.toNat))) := by
 exact ⟨fun W s a n c i j h1 h2 h3 h4 => delParty_c W s a n c i j h1 h2 h3 h4⟩
instance hDelPin_c : HC 267 (∀ (W : World) (s : List Pin) (a : Option Addr) (n c : Nat) (i j : Int), 0 ≤ i → i < (s.length : Int) → j = i + 1 → s.length ≤ 1048576 →Sp W [slA 167 pinL (.slice a n c) s] 267 #[.slice a n c, vi i, vi j] (RO 167 pinL (cutAt s i.toNat))) := by
 exact ⟨fun W s a n c i j h1 h2 h3 h4 => delPin_c W s a n c i j h1 h2 h3 h4⟩
end SX
end Go.Proofs.YthnbaikmbgaddaaGreat
/- The program's side: rows, wheels and parties that change. -/
namespace Go.Proofs.YthnbaikmbgaddaaGreat
namespace SX
open Go Go.RowKit
set_option linter.unusedVariables false
set_option linter.unusedSimpArgs false
set_option maxRecDepth 10000
set_option maxHeartbeats 1000000
attribute [local irreducible] CD DN OPL AT QL QT CND RETG BKP HL HT HO slA slHo slP ptC pull pulls
instance iPartyCut_c : HC 192 (∀ (W : World) (list : List Party) (v : Value) (id : Int), Rs partyL W v list → list.length ≤ 1048576 →Sp W [] 192 #[v, vi id] (RO 56 partyL (partyCut list id))) := by
 refine ⟨fun W list v id ⟨a, c, e, hc, hr⟩ hb => ?_⟩
 subst e; have hl := hr.len; have hat := atId_lt list id
 have hb2 : ([] ++ list).length ≤ 1048576 := hb
 have hb3 : atId list id < (([] ++ list).length : Int) := hat.1
 have w1 : wr (atId list id + 1) = atId list id + 1 := wr_of (by omega) (by omega)
 have w2 : IntKind.wrap .i64 (atId list id + 1) = atId list id + 1 := wrap_of (by omega) (by omega)
 refine gENT (vs := [_, _]) Tryz.func192 ?_
 repeat' first | refine ST ?_ | intro _ | apply And.intro
 all_goals first | (rw [partyCut_at (by omega)]; rfl) | (rw [partyCut_no (by omega)]; rfl) | trace_state
end SX
end Go.Proofs.YthnbaikmbgaddaaGreat
/- The program's side: a pin out of a wheel; a party put in. -/
namespace Go.Proofs.YthnbaikmbgaddaaGreat
namespace SX
open Go Go.RowKit
set_option linter.unusedVariables false
set_option linter.unusedSimpArgs false
set_option maxRecDepth 10000
set_option maxHeartbeats 1000000
attribute [local irreducible] CD DN OPL AT QL QT CND RETG BKP HL HT HO slA slHo slP ptC pull pulls
theorem wheelCut_bad {w : Wheel} {p : Pin} (h : pinRB p = false) : wheelCut w p = w := by
  by_cases h1 : wheelOk w = true
  · by_cases h2 : p.at' < 1
    · exact wheelCut_no (.inr h2)
    · cases hl : w.spoke[(Int.tmod p.at' 9).toNat]? with
      | none => unfold wheelCut; rw [if_pos (by simp [h1, h2]), hl]
      | some l =>
        by_cases hn : pinAt l p < 0
        · exact wheelCut_none hl hn
        · obtain ⟨i, e, e1, e2, e3, _⟩ := idxF_at l 0 (by show 0 ≤ pinAt l p; omega)
          simp only [Bool.and_eq_true, beq_iff_eq] at e3
          have hm := (wheelP_of h1).2.2.1 e (List.mem_flatten.2 ⟨l, List.mem_of_getElem? hl, List.mem_of_getElem? e2⟩)
          have h9 : pinRB e = true := by simp only [pinRB, hm.1, hm.2, Bool.and_self]
          have h8 : pinRB e = pinRB p := by simp only [pinRB, e3.1, e3.2]
          rw [h8, h] at h9; cases h9
  · exact wheelCut_no (.inl (by simpa using h1))
theorem pinAt_lt (l : List Pin) (p : Pin) : pinAt l p < (l.length : Int) ∧ -1 ≤ pinAt l p := by
  rcases idxF_lt (q := fun x : Pin => x.at' == p.at' && x.id == p.id) l 0 with h | h <;> rcases (idxF_none (q := fun x : Pin => x.at' == p.at' && x.id == p.id) l 0).2 with g | g <;> (unfold pinAt; omega)
theorem pinRB_rng {p : Pin} (h : pinRB p = true) : 1 ≤ p.at' ∧ p.at' ≤ 1000008 := by
  simp only [pinRB, inB, Bool.and_eq_true, decide_eq_true_eq] at h
  omega
instance iWheelCut_c : HC 191 (∀ (W : World) (w : Wheel) (v : Value) (p : Pin), Rs (sl 167 pinL) W v w.spoke → w.spoke.flatten.length ≤ 1048576 → w.spoke.length ≤ 1048576 →Sp W [] 191 #[.agg #[v], .agg (pinE p).toArray] (RT2 (RWh 155 167 (wheelCut w p)) RBo)) := by
 refine ⟨fun W w v p hv0 hb hn => ?_⟩
 have hv1 := hv0; obtain ⟨a, c, rfl, hc, hr⟩ := hv0
 have hb4 : w.spoke.flatten.length ≤ 4194304 := by omega
 refine gENT (vs := [_, _]) Tryz.func191 ?_
 repeat' first | refine ST ?_ | intro _ | apply And.intro
 all_goals first | trivial | (rw [wheelCut_no (.inl ‹_›)]; done) | (rw [wheelCut_bad ‹_›]; done) | skip
 have hwo : wheelOk w = true := ‹_›
 have hw9 : w.spoke.length = 9 := (wheelP_of hwo).1
 obtain ⟨pr1, pr2⟩ := pinRB_rng ‹_›
 have hrem := tmod_rng (a := p.at') (n := 9) (by omega) (by omega)
 have hsp : w.spoke[(Int.tmod p.at' 9).toNat]? = some (w.spoke[(Int.tmod p.at' 9).toNat]'(by omega)) := List.getElem?_eq_getElem (by omega)
 have hfm := flat_mem hsp
 obtain ⟨pa1, pa2⟩ := pinAt_lt (w.spoke[(Int.tmod p.at' 9).toNat]'(by omega)) p
 have w2 : IntKind.wrap .i64 (pinAt (w.spoke[(Int.tmod p.at' 9).toNat]'(by omega)) p + 1) = pinAt (w.spoke[(Int.tmod p.at' 9).toNat]'(by omega)) p + 1 := wrap_of (by omega) (by omega)
 have w1 : wr (pinAt (w.spoke[(Int.tmod p.at' 9).toNat]'(by omega)) p + 1) = pinAt (w.spoke[(Int.tmod p.at' 9).toNat]'(by omega)) p + 1 := wr_of (by omega) (by omega)
 repeat' first | refine ST ?_ | refine ST2 ?_ | intro _ | apply And.intro
 all_goals first | trivial | (rw [wheelCut_none hsp ‹_›, List.set_getElem_self]) | (rw [wheelCut_at hwo (by omega) hsp (k := (pinAt (w.spoke[(Int.tmod p.at' 9).toNat]'(by omega)) p).toNat) (by omega)]) | trace_state
end SX
end Go.Proofs.YthnbaikmbgaddaaGreat
/- The program's side: offers that are taken back. -/
namespace Go.Proofs.YthnbaikmbgaddaaGreat
namespace SX
open Go Go.RowKit
set_option linter.unusedVariables false
set_option linter.unusedSimpArgs false
set_option maxRecDepth 10000
set_option maxHeartbeats 1000000
attribute [local irreducible] CD DN OPL AT QL QT CND RETG BKP HL HT HO slA slHo slP ptC pull pulls
end SX
end Go.Proofs.YthnbaikmbgaddaaGreat
/- The program's side: an offer that is taken back. -/
namespace Go.Proofs.YthnbaikmbgaddaaGreat
namespace SX
open Go Go.RowKit
set_option linter.unusedVariables false
set_option linter.unusedSimpArgs false
set_option maxRecDepth 10000
set_option maxHeartbeats 1000000
attribute [local irreducible] CD DN OPL AT QL QT CND RETG BKP HL HT HO slA slHo slP ptC pull pulls
theorem NT9 {C : List Ass} {A : Ass} {j : Nat} (h : C[j]? = some A := by first | exact nt0 | (apply ntS; first | exact nt0 | (apply ntS; first | exact nt0 | (apply ntS; first | exact nt0 | (apply ntS; first | exact nt0 | (apply ntS; first | exact nt0 | (apply ntS; first | exact nt0 | (apply ntS; first | exact nt0 | (apply ntS; first | exact nt0 | (apply ntS; first | exact nt0 | (apply ntS; first | exact nt0 | (apply ntS; first | exact nt0 | (apply ntS; first | exact nt0 | (apply ntS; first | exact nt0 | (apply ntS; first | exact nt0 | (apply ntS; first | exact nt0 | (apply ntS; first | exact nt0 | (apply ntS; first | exact nt0 | (apply ntS; first | exact nt0 | (apply ntS; first | exact nt0 | (apply ntS; first | exact nt0 | (apply ntS; first | exact nt0 | (apply ntS; exact nt0))))))))))))))))))))))) : C[j]? = some A := h
theorem goLd {X : List Nat} {P : Program} {N : Nat} {W : World} {S0 : List Nat} {Q : Exit → Go.Act → World → Prop} {T : Tm} {L : Bx} {C : List Ass} {ops : Array Oper} {Kn : List (Nat × Nat)} {bs : List Nat} {L0 : Bx} {Ks : Keys} {T0 : Tm} {f : Nat} {Ls : List Nat} {la : Array Bool} {i : Nat} {t : TypeId} {x : Operand} {d : Option Nat} {ty : TypeId} (k : HO (.op (.load t x) d ty) i X P N W S0 ops Q bs L0 Ks T0 f Ls la Kn T L C) : HO (.op (.load t x) d ty) i X P N W S0 ops Q bs L0 Ks T0 f Ls la Kn T L C := k
theorem PU9 {C R : List Ass} {A : Ass} {j : Nat} (h : pull j C = some (A, R) := by first | exact pu0 | (apply puS; first | exact pu0 | (apply puS; first | exact pu0 | (apply puS; first | exact pu0 | (apply puS; first | exact pu0 | (apply puS; first | exact pu0 | (apply puS; first | exact pu0 | (apply puS; first | exact pu0 | (apply puS; first | exact pu0 | (apply puS; first | exact pu0 | (apply puS; first | exact pu0 | (apply puS; first | exact pu0 | (apply puS; first | exact pu0 | (apply puS; first | exact pu0 | (apply puS; first | exact pu0 | (apply puS; first | exact pu0 | (apply puS; first | exact pu0 | (apply puS; first | exact pu0 | (apply puS; first | exact pu0 | (apply puS; first | exact pu0 | (apply puS; first | exact pu0 | (apply puS; first | exact pu0 | (apply puS; exact pu0))))))))))))))))))))))) : pull j C = some (A, R) := h
end SX
end Go.Proofs.YthnbaikmbgaddaaGreat
/- The program's side: offers that run out. -/
namespace Go.Proofs.YthnbaikmbgaddaaGreat
namespace SX
open Go Go.RowKit
set_option linter.unusedVariables false
set_option linter.unusedSimpArgs false
set_option maxRecDepth 10000
set_option maxHeartbeats 1000000
attribute [local irreducible] CD DN OPL AT QL QT CND RETG BKP HL HT HO slA slHo slP ptC pull pulls
end SX
end Go.Proofs.YthnbaikmbgaddaaGreat
/- A cabin's offers that are due. -/
namespace Go.Proofs.YthnbaikmbgaddaaGreat
namespace SX
open Go Go.RowKit
set_option linter.unusedVariables false
set_option linter.unusedSimpArgs false
set_option maxRecDepth 10000
set_option maxHeartbeats 1000000
attribute [local irreducible] CD DN OPL AT QL QT CND RETG BKP HL HT HO slA slHo slP ptC pull pulls
end SX
end Go.Proofs.YthnbaikmbgaddaaGreat
/- The reference's side: a cabin that there is; seats that move; jobs to do. -/
namespace Go.Proofs.YthnbaikmbgaddaaGreat
namespace SX
open Go Go.RowKit
set_option linter.unusedVariables false
set_option linter.unusedSimpArgs false
set_option maxRecDepth 10000
set_option maxHeartbeats 1000000
attribute [local irreducible] CD DN OPL AT QL QT CND RETG BKP HL HT HO slA slHo slP ptC pull pulls
instance sSeatsFree_c : HC 273 (∀ (W : World) (l : Ledger) (n : Int),Sp W [] 273 #[.agg (ledgerE l).toArray, vi n] (RT2 (RV (.agg (ledgerE (lFree l n)).toArray)) RBo)) := by
 refine ⟨fun W l n => gENT (vs := [_, _]) Tryz.func273 ?_⟩
 repeat' first | refine ST ?_ | intro _ | apply And.intro
 all_goals first | trivial | (rw [turn_free]; rfl)
instance sSeatsSell_c : HC 194 (∀ (W : World) (l : Ledger) (n : Int),Sp W [] 194 #[.agg (ledgerE l).toArray, vi n] (RT2 (RV (.agg (ledgerE (lSell l n)).toArray)) RBo)) := by
 refine ⟨fun W l n => gENT (vs := [_, _]) Tryz.func194 ?_⟩
 repeat' first | refine ST ?_ | intro _ | apply And.intro
 all_goals first | trivial | (rw [turn_sell]; rfl)
instance sTodoPut_c : HC 150 (∀ (W : World) (list : List Int) (v : Value) (x : Int), Rs intL W v list → list.length ≤ 1048576 →Sp W [] 150 #[v, vi x] (RO 3 intL (todoPut list x))) := by
 refine ⟨fun W list v x ⟨a, c, e, hc, hr⟩ hb => ?_⟩
 subst e
 refine gENT (vs := [_, _]) Tryz.func150 ?_
 repeat' first | refine ST ?_ | intro _ | apply And.intro
 all_goals simp [todoPut, *]
end SX
end Go.Proofs.YthnbaikmbgaddaaGreat
/- The reference's side: offers that run out in a copy; a chance. -/
namespace Go.Proofs.YthnbaikmbgaddaaGreat
namespace SX
open Go Go.RowKit
set_option linter.unusedVariables false
set_option linter.unusedSimpArgs false
set_option maxRecDepth 10000
set_option maxHeartbeats 1000000
attribute [local irreducible] CD DN OPL AT QL QT CND RETG BKP HL HT HO slA slHo slP ptC pull pulls
end SX
end Go.Proofs.YthnbaikmbgaddaaGreat
/- The program's side: a chance. -/
namespace Go.Proofs.YthnbaikmbgaddaaGreat
namespace SX
open Go Go.RowKit
set_option linter.unusedVariables false
set_option linter.unusedSimpArgs false
set_option maxRecDepth 10000
set_option maxHeartbeats 1000000
attribute [local irreducible] CD DN OPL AT QL QT CND RETG BKP HL HT HO slA slHo slP ptC pull pulls
end SX
end Go.Proofs.YthnbaikmbgaddaaGreat
/- The program's side: requests that are right. -/
namespace Go.Proofs.YthnbaikmbgaddaaGreat
namespace SX
open Go Go.RowKit
set_option linter.unusedVariables false
set_option linter.unusedSimpArgs false
set_option maxRecDepth 10000
set_option maxHeartbeats 1000000
attribute [local irreducible] CD DN OPL AT QL QT CND RETG BKP HL HT HO slA slHo slP ptC pull pulls
instance hasInt_c : HC 189 (∀ (W : World) (list : List Int) (v : Value) (x : Int), Rs intL W v list →Sp W [] 189 #[v, vi x] (RV (.bool (list.any (fun e => e == x))))) := by
 refine ⟨fun W list v x ⟨a, c, e, hc, hr⟩ => ?_⟩
 subst e
 refine gENT (vs := [_, _]) Tryz.func189 ?_
 repeat' first | refine ST ?_ | intro _ | apply And.intro
 all_goals exact idxF_any (fun e : Int => e == x) list
instance iTodoPut_c : HC 147 (∀ (W : World) (list : List Int) (v : Value) (x : Int), Rs intL W v list → list.length ≤ 1048576 →Sp W [] 147 #[v, vi x] (RO 3 intL (todoPut list x))) := by
 refine ⟨fun W list v x ⟨a, c, e, hc, hr⟩ hb => ?_⟩
 subst e
 refine gENT (vs := [_, _]) Tryz.func147 ?_
 repeat' first | refine ST ?_ | intro _ | apply And.intro
 all_goals simp [todoPut, *]
instance iUsed_c : HC 317 (∀ (W : World) (n : Int),Sp W [] 317 #[vi n] (RV (.bool (usedB n)))) := by
 refine ⟨fun W n => gENT (vs := [_]) Tryz.func317 ?_⟩
 repeat' first | refine ST ?_ | intro _ | apply And.intro
 all_goals rfl
instance iReqOk_c : HC 227 (∀ (W : World) (q : Req),Sp W [] 227 #[.agg (reqE q).toArray] (RV (.bool (reqOk q)))) := by
 refine ⟨fun W q => gENT (vs := [_]) Tryz.func227 ?_⟩
 repeat' first | refine ST ?_ | intro _ | apply And.intro
 all_goals first | (simp_all [reqOk, reqEq]; done) | grind [reqOk, reqEq]
instance iLoose_c : HC 228 (∀ (W : World) (cs : List Value) (h : House) (cabin : Int), HsR W cs h → 0 ≤ cabin → cabin < (h.cabins.length : Int) →Sp W [] 228 #[.agg cs.toArray, vi cabin] (RV (vi (looseAt h cabin)))) := by
 refine ⟨fun W cs h cabin hh hc0 hc1 => ?_⟩
 have hh1 := hh; obtain ⟨a1, c1, a2, c2, a3, c3, a4, c4, a5, c5, rfl, h1, h2, h3, h4, h5, h6, h7, h8, h9, h10⟩ := hh
 have hk : cabin.toNat < h.cabins.length := by omega
 have hx := List.getElem?_eq_getElem hk
 refine gENT (vs := [_, _]) Tryz.func228 ?_
 repeat' first | refine ST ?_ | intro _ | apply And.intro
 all_goals first | (simp only [looseAt, hx]; done) | (simp only [looseAt, hx]; rfl)
instance iVerdict_c : HC 152 (∀ (W : World) (cs : List Value) (h : House) (q : Req), HsR W cs h → HouseSz h →Sp W [] 152 #[.agg cs.toArray, .agg (reqE q).toArray] (RV (vi (verdict h q)))) := by
 refine ⟨fun W cs h q hh hsz => ?_⟩
 have hh1 := hh; obtain ⟨a1, c1, a2, c2, a3, c3, a4, c4, a5, c5, rfl, h1, h2, h3, h4, h5, h6, h7, h8, h9, h10⟩ := hh
 have hl := h8.len; have hp9 := hsz.2.1
 refine gENT (vs := [_, _]) Tryz.func152 ?_
 by_cases hho : houseOk h = true
 · have hR := houseP_iff.1 (houseP_of hho)
   by_cases hro : reqOk q = true
   · obtain ⟨r1, r2, r3, r4, r5, r6⟩ := reqOk_form hro
     have hjb := (JobsP.iff.1 hR.jobs).2.2.2
     have hal := atId_lt h.parties q.id; have hnw := hR.now
     have hl1 : wr ((h.cabins.length : Int) - 1) = (h.cabins.length : Int) - 1 := wr_of (by omega) (by omega)
     have hif : ∀ x : Int, inB x (-1) (wr ((h.cabins.length : Int) - 1)) = true → x < (h.cabins.length : Int) := fun x hx => by
       simp only [inB, hl1, Bool.and_eq_true, decide_eq_true_eq] at hx; omega
     have hic : ∀ x : Int, inB x 0 (wr ((h.cabins.length : Int) - 1)) = true → x < (h.cabins.length : Int) := fun x hx => by
       simp only [inB, hl1, Bool.and_eq_true, decide_eq_true_eq] at hx; omega
     repeat' first | refine ST ?_ | intro _ | apply And.intro
     all_goals first
      | (exfalso; simp_all; done)
      | (clear hif hic; simp_all [verdict, vKind]; done)
      | (clear hif hic; simp_all [verdict, vKind, vJoin, inB]; done)
      | (clear hif hic; simp_all [verdict, vKind, vJoin, inB]; omega)
      | (clear hif hic; simp_all [verdict, vKind, vFree, inB]; done)
      | (clear hif hic; simp_all [verdict, vKind, vFree, inB]; omega)
      | (clear hif hic; simp_all [verdict, vKind]; omega)
      | (clear hif hic; simp_all [verdict, vKind, vAns]; done)
      | (clear hif hic; simp_all [verdict, vKind, vPick]; done)
      | (have hpo : partyOf h.parties q.id = h.parties[(atId h.parties q.id).toNat]'(by omega) := partyOf_of (List.getElem?_eq_getElem (by omega))
         clear hif hic; simp_all [verdict, vKind, vAns, dueB]; done)
      | (have hj9 : h.jobs[q.id.toNat]? = some (h.jobs[q.id.toNat]'(by omega)) := List.getElem?_eq_getElem (by omega)
         have hj8 : jobAt h q.id = h.jobs[q.id.toNat]'(by omega) := by simp only [jobAt, hj9]
         have hj7 := hR.jobRng (List.getElem_mem (show q.id.toNat < h.jobs.length by omega))
         clear hif hic; simp_all [verdict, vKind, vPick]; done)
      | (have hj9 : h.jobs[q.id.toNat]? = some (h.jobs[q.id.toNat]'(by omega)) := List.getElem?_eq_getElem (by omega)
         have hj8 : jobAt h q.id = h.jobs[q.id.toNat]'(by omega) := by simp only [jobAt, hj9]
         have hj7 := hR.jobRng (List.getElem_mem (show q.id.toNat < h.jobs.length by omega))
         clear hif hic; simp_all [verdict, vKind, vPick]; omega)
      | trace_state
   · repeat' first | refine ST ?_ | intro _ | apply And.intro
     all_goals first | (simp_all [verdict]; done) | trace_state
 · repeat' first | refine ST ?_ | intro _ | apply And.intro
   all_goals first | (simp_all [verdict]; done) | trace_state
end SX
end Go.Proofs.YthnbaikmbgaddaaGreat
/- The reference's side: seats that are freed; entries in and out of rows; the first that fits. -/
namespace Go.Proofs.YthnbaikmbgaddaaGreat
namespace SX
open Go Go.RowKit
set_option linter.unusedVariables false
set_option linter.unusedSimpArgs false
set_option maxRecDepth 10000
set_option maxHeartbeats 1000000
attribute [local irreducible] CD DN OPL AT QL QT CND RETG BKP HL HT HO slA slHo slP ptC pull pulls
instance s14Free_c : HC 197 (∀ (W : World) (cs : List Value) (h : House) (pre : List Ass) (cabin n : Int), HsO cs h pre → HouseSz h → 0 ≤ cabin → cabin < (h.cabins.length : Int) →Sp W pre 197 #[.agg cs.toArray, vi cabin, vi n] (RHs (freeM h cabin n))) := by
 refine ⟨fun W cs h pre cabin n ⟨⟨⟨a1, c1⟩, ⟨a2, c2⟩, ⟨a3, c3⟩, ⟨a4, c4⟩, a5, c5⟩, e1, e2⟩ hsz hc0 hc1 => ?_⟩
 subst e1 e2
 have hk : cabin.toNat < h.cabins.length := by omega
 have hx := List.getElem?_eq_getElem hk
 have hs4 := hsz.2.2.2.1
 refine gENTO (vs := [_, _, _]) Tryz.func197 (fun S0 => ?_)
 repeat' first | refine ST ?_ | intro _ | apply And.intro
 all_goals (rw [freeM, modC_of _ hx]; rfl)
end SX
end Go.Proofs.YthnbaikmbgaddaaGreat
/- The reference's side: the first entry that fits. -/
namespace Go.Proofs.YthnbaikmbgaddaaGreat
namespace SX
open Go Go.RowKit
set_option linter.unusedVariables false
set_option linter.unusedSimpArgs false
set_option maxRecDepth 10000
set_option maxHeartbeats 1000000
attribute [local irreducible] CD DN OPL AT QL QT CND RETG BKP HL HT HO slA slHo slP ptC pull pulls
end SX
end Go.Proofs.YthnbaikmbgaddaaGreat
