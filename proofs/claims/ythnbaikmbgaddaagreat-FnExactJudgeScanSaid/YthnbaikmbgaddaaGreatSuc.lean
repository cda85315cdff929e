/- Texts of this claim, put together by program. -/
import Derived.Test.YthnbaikmbgaddaaGreatAE
import Derived.Test.YthnbaikmbgaddaaGreatMdlu
import Derived.Test.YthnbaikmbgaddaaGreatSue
/- The program's side: copies, small ones. -/
namespace Go.Proofs.YthnbaikmbgaddaaGreat
namespace SX
open Go Go.RowKit
set_option linter.unusedVariables false
set_option linter.unusedSimpArgs false
set_option maxRecDepth 10000
set_option maxHeartbeats 1000000
attribute [local irreducible] CD DN OPL AT QL QT CND RETG BKP HL HT HO slA slHo slP ptC pull pulls
instance iInts_c : HC 182 (∀ (W : World) (list : List Int) (v : Value), Rs intL W v list → list.length ≤ 1048576 →Sp W [] 182 #[v] (RO 3 intL list)) := by
 refine ⟨fun W list v ⟨a, c, e, hc, hr⟩ hb => ?_⟩
 subst e
 refine gENT (vs := [_]) Tryz.func182 ?_
 repeat' first | refine ST ?_ | intro _ | apply And.intro
 all_goals rfl
instance iEntries_c : HC 253 (∀ (W : World) (list : List Entry) (v : Value), Rs entryL W v list → list.length ≤ 1048576 →Sp W [] 253 #[v] (RO 142 entryL list)) := by
 refine ⟨fun W list v ⟨a, c, e, hc, hr⟩ hb => ?_⟩
 subst e
 refine gENT (vs := [_]) Tryz.func253 ?_
 repeat' first | refine ST ?_ | intro _ | apply And.intro
 all_goals rfl
instance iRules_c : HC 181 (∀ (W : World) (cs : List Value) (r : Rules), RulesR W cs r → r.seats.length ≤ 1048576 →Sp W [] 181 #[.agg cs.toArray] (RRu 3 r)) := by
 refine ⟨fun W cs r ⟨a, c, e, hc, hr⟩ hb => ?_⟩
 subst e
 refine gENT (vs := [_]) Tryz.func181 ?_
 repeat' first | refine ST ?_ | intro _ | apply And.intro
 all_goals rfl
instance iResting_c : HC 105 (∀ (W : World) (p : Party) (now : Int),Sp W [] 105 #[.agg (partyE p).toArray, vi now] (RV (.bool (restingB p now)))) := by
 refine ⟨fun W p now => gENT (vs := [_, _]) Tryz.func105 ?_⟩
 repeat' first | refine ST ?_ | intro _ | apply And.intro
 all_goals grind [restingB]
instance iWheel_c : HC 254 (∀ (W : World) (w : Wheel) (v : Value), Rs (sl 167 pinL) W v w.spoke → w.spoke.flatten.length ≤ 1048576 → w.spoke.length ≤ 1048576 →Sp W [] 254 #[.agg #[v]] (RWh 155 167 w)) := by
 refine ⟨fun W w v hv0 hb hn => ?_⟩
 obtain ⟨a, c, rfl, hc, hr⟩ := hv0; have hl := hr.len
 refine gENT (vs := [_]) Tryz.func254 ?_
 repeat' first | refine ST ?_ | intro _ | apply And.intro
 refine gNILN 155 (sl 167 pinL) ?_
 refine gFORG 9 w.spoke.length (fun _ => []) [(2, fun q : HH × List (List Pin) => [.slice q.1.1 q.2.length q.1.2])] (fun q => [slA 155 (sl 167 pinL) (.slice q.1.1 q.2.length q.1.2) q.2]) (fun k q => q.2 = w.spoke.take k) ((none, 0), []) (h0 := rfl) (body := fun k q hk hv => ?_)
 have hql : q.2.length = k := by rw [hv, List.length_take]; omega
 by_cases hkl : k < w.spoke.length
 · have hf := flat_mem (List.getElem?_eq_getElem hkl)
   repeat' first | refine ST ?_ | intro _ | apply And.intro
   all_goals first | (exfalso; omega) | refine gGBACK ((_, _), _) (by omega) (h := ?_)
   all_goals (rw [hv, ← List.take_append_getElem hkl]; rfl)
 · repeat' first | refine ST ?_ | intro _ | apply And.intro
   all_goals first | (exfalso; omega) | (rw [hv, List.take_of_length_le (by omega)])
instance iCabin_c : HC 183 (∀ (W : World) (cs : List Value) (x : Cabin), CabinR 167 W cs x → CabinSz x →Sp W [] 183 #[.agg cs.toArray] (RCa 142 155 167 x)) := by
 refine ⟨fun W cs x hx hs => ?_⟩
 obtain ⟨hs1, hs2, hs3⟩ := hs; obtain ⟨a1, c1, a2, c2, rfl, h1, h2, h3, h4⟩ := hx
 refine gENT (vs := [_]) Tryz.func183 ?_
 repeat' first | refine ST ?_ | intro _ | apply And.intro
 all_goals rfl
end SX
end Go.Proofs.YthnbaikmbgaddaaGreat
/- The program's side: rules, parties, ledgers, counts. -/
namespace Go.Proofs.YthnbaikmbgaddaaGreat
namespace SX
open Go Go.RowKit
set_option linter.unusedVariables false
set_option linter.unusedSimpArgs false
set_option maxRecDepth 10000
set_option maxHeartbeats 1000000
attribute [local irreducible] CD DN OPL AT QL QT CND RETG BKP HL HT HO slA slHo slP ptC pull pulls
instance iIndex_c : HC 188 (∀ (W : World) (n size : Int),Sp W [] 188 #[vi n, vi size] (RV (.bool (inB n 0 (wr (size - 1)))))) := by
 refine ⟨fun W n size => gENT (vs := [_, _]) Tryz.func188 ?_⟩
 repeat' first | refine ST ?_ | intro _ | apply And.intro
 all_goals rfl
instance iRulesOk_c : HC 184 (∀ (W : World) (cs : List Value) (r : Rules), RulesR W cs r →Sp W [] 184 #[.agg cs.toArray] (RV (.bool (rulesOk r)))) := by
 refine ⟨fun W cs r ⟨a, c, e, hc, hr⟩ => ?_⟩
 subst e; have hl := hr.len
 refine gENT (vs := [_]) Tryz.func184 ?_
 repeat' first | refine ST ?_ | intro _ | apply And.intro
 all_goals try (simp [rulesOk, *]; done)
 refine gFOR 13 r.seats.length (fun k => allSeats r.seats = allSeats (r.seats.drop k)) rfl fun k hk hv => ?_
 repeat' first | refine ST ?_ | intro _ | apply And.intro
 all_goals grind [rulesOk, allSeats, List.drop_eq_getElem_cons]
instance iPartyOk_c : HC 185 (∀ (W : World) (cs : List Value) (r : Rules) (p : Party) (now : Int), RulesR W cs r →Sp W [] 185 #[.agg cs.toArray, .agg (partyE p).toArray, vi now] (RV (.bool (partyOk r p now)))) := by
 refine ⟨fun W cs r p now hr => gENT (vs := [_, _, _]) Tryz.func185 ?_⟩
 obtain ⟨a, c, rfl, hc, h⟩ := id hr
 repeat' first | refine ST ?_ | intro _ | apply And.intro
 all_goals grind [partyOk]
instance iLedgerOk_c : HC 318 (∀ (W : World) (l : Ledger),Sp W [] 318 #[.agg (ledgerE l).toArray] (RV (.bool (ledgerOk l)))) := by
 refine ⟨fun W l => gENT (vs := [_]) Tryz.func318 ?_⟩
 repeat' first | refine ST ?_ | intro _ | apply And.intro
 all_goals grind [ledgerOk]
instance iCountIn_c : HC 186 (∀ (W : World) (list : List Party) (v : Value) (cabin : Int), Rs partyL W v list →Sp W [] 186 #[v, vi cabin] (RV (vi (countGo list cabin 0)))) := by
 refine ⟨fun W list v cabin ⟨a, c, e, hc, hr⟩ => ?_⟩
 subst e; have hl := hr.len
 refine gENT (vs := [_, _]) Tryz.func186 ?_
 repeat' first | refine ST ?_ | intro _ | apply And.intro
 refine gFORA 10 list.length (fun n => [(5, I n)]) (fun k n => countGo list cabin 0 = countGo (list.drop k) cabin n) 0 rfl fun k n hk hv => ?_
 repeat' first | refine ST ?_ | intro _ | apply And.intro
 all_goals grind [countGo, List.drop_eq_getElem_cons]
instance iHeldIn_c : HC 260 (∀ (W : World) (list : List Party) (v : Value) (cabin : Int), Rs partyL W v list →Sp W [] 260 #[v, vi cabin] (RV (vi (heldGo list cabin 0)))) := by
 refine ⟨fun W list v cabin ⟨a, c, e, hc, hr⟩ => ?_⟩
 subst e; have hl := hr.len
 refine gENT (vs := [_, _]) Tryz.func260 ?_
 repeat' first | refine ST ?_ | intro _ | apply And.intro
 refine gFORA 10 list.length (fun n => [(5, I n)]) (fun k n => heldGo list cabin 0 = heldGo (list.drop k) cabin n) 0 rfl fun k n hk hv => ?_
 repeat' first | refine ST ?_ | intro _ | apply And.intro
 all_goals grind [heldGo, List.drop_eq_getElem_cons]
instance iTiedIn_c : HC 261 (∀ (W : World) (list : List Party) (v : Value) (cabin : Int), Rs partyL W v list →Sp W [] 261 #[v, vi cabin] (RV (vi (tiedGo list cabin 0)))) := by
 refine ⟨fun W list v cabin ⟨a, c, e, hc, hr⟩ => ?_⟩
 subst e; have hl := hr.len
 refine gENT (vs := [_, _]) Tryz.func261 ?_
 repeat' first | refine ST ?_ | intro _ | apply And.intro
 refine gFORA 10 list.length (fun n => [(5, I n)]) (fun k n => tiedGo list cabin 0 = tiedGo (list.drop k) cabin n) 0 rfl fun k n hk hv => ?_
 repeat' first | refine ST ?_ | intro _ | apply And.intro
 all_goals grind [tiedGo, List.drop_eq_getElem_cons]
end SX
end Go.Proofs.YthnbaikmbgaddaaGreat
/- The program's side: comparisons, rows that are equal, places of elements. -/
namespace Go.Proofs.YthnbaikmbgaddaaGreat
namespace SX
open Go Go.RowKit
set_option linter.unusedVariables false
set_option linter.unusedSimpArgs false
set_option maxRecDepth 10000
set_option maxHeartbeats 1000000
attribute [local irreducible] CD DN OPL AT QL QT CND RETG BKP HL HT HO slA slHo slP ptC pull pulls
instance isNaN_c : HC 358 (∀ (W : World) (x : Int),Sp W [] 358 #[vi x] (RV (.bool false))) := by
 refine ⟨fun W x => gENT (vs := [_]) Tryz.func358 ?_⟩
 repeat' first | refine ST ?_ | intro _ | apply And.intro
 all_goals simp
instance cmpI_c : HC 347 (∀ (W : World) (x y : Int),Sp W [] 347 #[vi x, vi y] (RV (vi (cmpI x y)))) := by
 refine ⟨fun W x y => gENT (vs := [_, _]) Tryz.func347 ?_⟩
 repeat' first | refine ST ?_ | intro _ | apply And.intro
 all_goals first | (simp [cmpI, *]; done) | (simp only [cmpI]; split <;> first | omega | rfl | (split <;> omega))
instance cmpEntry_c : HC 302 (∀ (W : World) (a b : Entry),Sp W [] 302 #[.agg (entryE a).toArray, .agg (entryE b).toArray] (RV (vi (cmpEntry a b)))) := by
 refine ⟨fun W a b => gENT (vs := [_, _]) Tryz.func302 ?_⟩
 repeat' first | refine ST ?_ | intro _ | apply And.intro
 all_goals simp [cmpEntry, *]
instance cmpPin_c : HC 298 (∀ (W : World) (a b : Pin),Sp W [] 298 #[.agg (pinE a).toArray, .agg (pinE b).toArray] (RV (vi (cmpPin a b)))) := by
 refine ⟨fun W a b => gENT (vs := [_, _]) Tryz.func298 ?_⟩
 repeat' first | refine ST ?_ | intro _ | apply And.intro
 all_goals simp [cmpPin, *]
instance eqRow_c : HC 256 (∀ (W : World) (x y : List Entry) (v u : Value), Rs entryL W v x → Rs entryL W u y →Sp W [] 256 #[v, u] (RV (.bool (sameRow x y)))) := by
 refine ⟨fun W x y v u ⟨a, c, e, hc, hr⟩ ⟨a2, c2, e2, hc2, hr2⟩ => ?_⟩
 subst e e2; have hl := hr.len; have hl2 := hr2.len
 refine gENT (vs := [_, _]) Tryz.func256 ?_
 repeat' first | refine ST ?_ | intro _ | apply And.intro
 all_goals try (exact (sameRow_ne (by omega)).symm)
 refine gFOR 13 x.length (fun k => sameRow x y = sameRow (x.drop k) (y.drop k)) rfl fun k hk hv => ?_
 repeat' first | refine ST ?_ | intro _ | apply And.intro
 all_goals grind [sameRow, List.drop_eq_getElem_cons]
instance eqPins_c : HC 257 (∀ (W : World) (x y : List Pin) (v u : Value), Rs pinL W v x → Rs pinL W u y →Sp W [] 257 #[v, u] (RV (.bool (samePins x y)))) := by
 refine ⟨fun W x y v u ⟨a, c, e, hc, hr⟩ ⟨a2, c2, e2, hc2, hr2⟩ => ?_⟩
 subst e e2; have hl := hr.len; have hl2 := hr2.len
 refine gENT (vs := [_, _]) Tryz.func257 ?_
 repeat' first | refine ST ?_ | intro _ | apply And.intro
 all_goals try (exact (samePins_ne (by omega)).symm)
 refine gFOR 13 x.length (fun k => samePins x y = samePins (x.drop k) (y.drop k)) rfl fun k hk hv => ?_
 repeat' first | refine ST ?_ | intro _ | apply And.intro
 all_goals grind [samePins, List.drop_eq_getElem_cons]
instance idxPin_c : HC 266 (∀ (W : World) (list : List Pin) (v : Value) (p : Pin), Rs pinL W v list →Sp W [] 266 #[v, .agg (pinE p).toArray] (RV (vi (pinAt list p)))) := by
 refine ⟨fun W list v p ⟨a, c, e, hc, hr⟩ => ?_⟩
 subst e; have hl := hr.len
 refine gENT (vs := [_, _]) Tryz.func266 ?_
 repeat' first | refine ST ?_ | intro _ | apply And.intro
 refine gFOR 8 list.length (fun k => pinAt list p = idxF (fun x : Pin => x.at' == p.at' && x.id == p.id) (list.drop k) k) rfl fun k hk hv => ?_
 repeat' first | refine ST ?_ | intro _ | apply And.intro
 all_goals grind [idxF, List.drop_eq_getElem_cons]
instance idxInt_c : HC 262 (∀ (W : World) (list : List Int) (v : Value) (x : Int), Rs intL W v list →Sp W [] 262 #[v, vi x] (RV (vi (idxF (fun e : Int => e == x) list 0)))) := by
 refine ⟨fun W list v x ⟨a, c, e, hc, hr⟩ => ?_⟩
 subst e; have hl := hr.len
 refine gENT (vs := [_, _]) Tryz.func262 ?_
 repeat' first | refine ST ?_ | intro _ | apply And.intro
 refine gFOR 8 list.length (fun k => idxF (fun e : Int => e == x) list 0 = idxF (fun e : Int => e == x) (list.drop k) k) rfl fun k hk hv => ?_
 repeat' first | refine ST ?_ | intro _ | apply And.intro
 all_goals grind [idxF, List.drop_eq_getElem_cons]
end SX
end Go.Proofs.YthnbaikmbgaddaaGreat
/- The program's side: levels, entries. -/
namespace Go.Proofs.YthnbaikmbgaddaaGreat
namespace SX
open Go Go.RowKit
set_option linter.unusedVariables false
set_option linter.unusedSimpArgs false
set_option maxRecDepth 10000
set_option maxHeartbeats 1000000
attribute [local irreducible] CD DN OPL AT QL QT CND RETG BKP HL HT HO slA slHo slP ptC pull pulls
instance iLevel_c : HC 350 (∀ (W : World) (cs : List Value) (r : Rules) (tier waited : Int), RulesR W cs r →Sp W [] 350 #[.agg cs.toArray, vi tier, vi waited] (RV (vi (levelI r tier waited)))) := by
 refine ⟨fun W cs r t u hr => gENT (vs := [_, _, _]) Tryz.func350 ?_⟩
 obtain ⟨a, c, rfl, hc, h⟩ := id hr
 by_cases h0 : rulesOk r = true
 · have hper := (rr_of h0).period.1
   repeat' first | refine ST ?_ | intro _ | apply And.intro
   all_goals first | (simp_all [levelI]; done) | (simp_all [levelI, levelAt_max]; done)
 · repeat' first | refine ST ?_ | intro _ | apply And.intro
   all_goals first | exact absurd ‹rulesOk r = true› h0 | (simp_all [levelI]; done)
instance iLevelOf_c : HC 300 (∀ (W : World) (cs : List Value) (r : Rules) (p : Party) (now : Int), RulesR W cs r →Sp W [] 300 #[.agg cs.toArray, .agg (partyE p).toArray, vi now] (RV (vi (levelOf r p now)))) := by
 refine ⟨fun W cs r p now hr => gENT (vs := [_, _, _]) Tryz.func300 ?_⟩
 obtain ⟨a, c, rfl, hc, h⟩ := id hr
 repeat' first | refine ST ?_ | intro _ | apply And.intro
 all_goals first | (simp_all [levelOf]; done) | (rw [levelOf, if_pos ‹partyOk r p now = true›]; exact levelI_of ‹_›)
theorem entryOk_eq (r : Rules) (p : Party) (now : Int) : entryOk r p now = (partyOk r p now && p.state == 1) := by
  have h1 := levelAt_nn r p.tier (wr (now - p.since))
  unfold entryOk levelOf
  by_cases h : partyOk r p now = true
  · rw [if_pos h, h, decide_eq_false (by omega)]; rfl
  · rw [if_neg h, decide_eq_true (by omega), Bool.eq_false_iff.2 h]; rfl
instance iEntryOf_c : HC 284 (∀ (W : World) (cs : List Value) (r : Rules) (p : Party) (now : Int), RulesR W cs r →Sp W [] 284 #[.agg cs.toArray, .agg (partyE p).toArray, vi now] (RV (.tuple #[.agg (entryE (entryOf r p now)).toArray, .bool (entryOk r p now)]))) := by
 refine ⟨fun W cs r p now hr => gENT (vs := [_, _, _]) Tryz.func284 ?_⟩
 obtain ⟨a, c, rfl, hc, h⟩ := id hr
 repeat' first | refine ST ?_ | intro _ | apply And.intro
 all_goals (have e := entryOk_eq r p now; simp_all [entryOf, entryE])
end SX
end Go.Proofs.YthnbaikmbgaddaaGreat
/- The program's side: parties that fail. -/
namespace Go.Proofs.YthnbaikmbgaddaaGreat
namespace SX
open Go Go.RowKit
set_option linter.unusedVariables false
set_option linter.unusedSimpArgs false
set_option maxRecDepth 10000
set_option maxHeartbeats 1000000
attribute [local irreducible] CD DN OPL AT QL QT CND RETG BKP HL HT HO slA slHo slP ptC pull pulls
theorem asked9 {r : Rules} {p : Party} {now : Int} (h : partyOk r p now = true) : (wr (p.asked + 1) = r.tries ↔ wr (p.asked + 1) ≥ r.tries) := by
  obtain ⟨h1, h2, h3⟩ := partyOk_iff.1 h
  have ht := (rr_of h1).tries; have ha := h3.asked
  rw [wr_of (by omega) (by omega)]; omega
instance iFailed_c : HC 283 (∀ (W : World) (cs : List Value) (r : Rules) (p : Party) (now : Int), RulesR W cs r →Sp W [] 283 #[.agg cs.toArray, .agg (partyE p).toArray, vi now] (RV (.tuple #[.agg (partyE (failedX r p now)).toArray, .bool (failedB r p now)]))) := by
 refine ⟨fun W cs r p now hr => gENT (vs := [_, _, _]) Tryz.func283 ?_⟩
 obtain ⟨a, c, rfl, hc, h⟩ := id hr
 repeat' first | refine ST ?_ | intro _ | apply And.intro
 all_goals first | (simp_all [failedX, failedP, failedB, partyZ, partyE]; done) | (have e := asked9 ‹partyOk r p now = true›; simp_all [failedX, failedP, failedB, partyZ, partyE]; done)
end SX
end Go.Proofs.YthnbaikmbgaddaaGreat
/- Boxes whose addresses are named; closures. It imports no program. -/
namespace Go.Proofs.YthnbaikmbgaddaaGreat
namespace SX
set_option linter.unusedVariables false
set_option linter.unusedSimpArgs false
open Go Go.RowKit
section rules
variable {X : List Nat} {P : Program} {N : Nat} {W : World} {S0 : List Nat} {Q : Exit → Go.Act → World → Prop} {T : Tm} {L : Bx} {C : List Ass} {ops : Array Oper} {Kn : List (Nat × Nat)} {i : Nat}
/-- a load out of a box that is named; a store -/
theorem aLP {t : TypeId} {x : Operand} {d b bt : Nat} {ty : TypeId} {j off : Nat} {cs : List Value} {v : Value} [TB P]
    (hx : evo T x = some (.e (some ⟨b, 0, none⟩) 0 off) := by conv => lhs; whnf) (hC : C[j]? = some (ptC b bt cs) := by exact NT) (hv : ldB (TB.D P) t cs off some = some v := by conv => lhs; whnf) (k : OPL X P N W S0 ops Q Kn (i + 1) ((d, .v v) :: T) L C)
    (hi : Nat.blt i ops.size = true := by rfl) (ho : opAt ops T i = some (.load t x, some d, ty) := by kernel_rfl) (hd : d < N := by exact NL rfl) (hl : loadOf P t cs off = some v := by kernel_rfl) :
    AT (.op (.load t x) (some d) ty) X P N W S0 ops Q Kn i T L C := opsOne (lt_of_blt hi) (LOADE t x d ty ho hd (some ⟨b, 0, none⟩) 0 off cs v hx (fun w hw => ptC_elem (hw.own j hC)) hl k)
theorem qLP {t : TypeId} {x : Operand} {d b bt : Nat} {ty : TypeId} {j off : Nat} {cs : List Value} {v : Value} [TB P]
    (hx : evo T x = some (.e (some ⟨b, 0, none⟩) 0 off) := by conv => lhs; whnf) (hC : C[j]? = some (ptC b bt cs) := by exact NT) (hv : ldB (TB.D P) t cs off some = some v := by conv => lhs; whnf) (k : QL X P N W S0 ops Q Kn (i + 1) ((d, .v v) :: T) L C)
    (ho : opAt ops T i = some (.load t x, some d, ty) := by kernel_rfl) (hd : d < N := by exact NL rfl) (hl : loadOf P t cs off = some v := by kernel_rfl) :
    QT (.op (.load t x) (some d) ty) X P N W S0 ops Q Kn i T L C := QLOADE t x d ty ho hd (some ⟨b, 0, none⟩) 0 off cs v hx (fun w hw => ptC_elem (hw.own j hC)) hl k
theorem aSP {t : TypeId} {x y : Operand} {b bt : Nat} {ty : TypeId} {j off : Nat} {cs cs' : List Value} {v : Value} {R : List Ass} [TB P]
    (hx : evo T x = some (.e (some ⟨b, 0, none⟩) 0 off) := by conv => lhs; whnf) (hp : pull j C = some (ptC b bt cs, R) := by exact PU) (hy : evv T y = some v := by conv => lhs; whnf) (hv : stB (TB.D P) t bt cs off v = some cs' := by conv => lhs; whnf)
    (k : OPL X P N W S0 ops Q Kn (i + 1) T L (R ++ [ptC b bt cs'])) (hi : Nat.blt i ops.size = true := by rfl) (ho : opAt ops T i = some (.store t x y, none, ty) := by kernel_rfl) (hst : storeOf P t cs off v = some cs' := by kernel_rfl) :
    AT (.op (.store t x y) none ty) X P N W S0 ops Q Kn i T L C := opsOne (lt_of_blt hi) (STOREC t x y ty ho j R b off bt cs cs' (by simp [pulls, hp]) v hx hy hst k)
/-- what lies in the caller's memory is read -/
theorem aLW {t : TypeId} {x : Operand} {d b : Nat} {ty : TypeId} {off : Nat} {cs : List Value} {v : Value} [TB P]
    (hx : evo T x = some (.e (some ⟨b, 0, none⟩) 0 off) := by conv => lhs; whnf) (he : ElemAt W (some ⟨b, 0, none⟩) 0 cs) (hv : ldB (TB.D P) t cs off some = some v := by conv => lhs; whnf) (k : OPL X P N W [] ops Q Kn (i + 1) ((d, .v v) :: T) L C)
    (hi : Nat.blt i ops.size = true := by rfl) (ho : opAt ops T i = some (.load t x, some d, ty) := by kernel_rfl) (hd : d < N := by exact NL rfl) (hl : loadOf P t cs off = some v := by kernel_rfl) :
    AT (.op (.load t x) (some d) ty) X P N W [] ops Q Kn i T L C := opsOne (lt_of_blt hi) (LOADE t x d ty ho hd (some ⟨b, 0, none⟩) 0 off cs v hx (fun w hw j hj => ElemAt.fr he hw.fr j hj) hl k)
variable {bs : List Nat} {L0 : Bx} {Ks : Keys} {T0 : Tm} {f : Nat} {Ls : List Nat} {la : Array Bool}
theorem hLWd {t : TypeId} {x : Operand} {d b : Nat} {ty : TypeId} {off : Nat} {cs : List Value} {v : Value} [TB P]
    (hx : evo T x = some (.e (some ⟨b, 0, none⟩) 0 off) := by conv => lhs; whnf) (he : ∀ w, At W S0 (frz bs L0) w → ElemAt w (some ⟨b, 0, none⟩) 0 cs) (hv : ldB (TB.D P) t cs off some = some v := by conv => lhs; whnf)
    (k : HL X P N W S0 ops Q bs L0 Ks T0 f (i :: Ls) (la.setIfInBounds i true) Kn ((d, .v v) :: T) L C) (hC : KP (frz bs L0) Ks Ls la C := by exact KP.mk)
    (hk : takeB ops la Ks i = true := by kernel_rfl) (ho : opAt ops T i = some (.load t x, some d, ty) := by kernel_rfl) (hd : d < N := by exact NL rfl) (hl : loadOf P t cs off = some v := by kernel_rfl) :
    HT (.op i (.load t x) (some d) ty) X P N W S0 ops Q bs L0 Ks T0 (f + 1) Ls la Kn T L C := hC.pulls.elim fun _ h9 => HDLOADE t x d ty ho hd (some ⟨b, 0, none⟩) 0 off cs v hx he hl hk h9 k
/-- a closure is made, over boxes that are named -/
def capO {R : Type} (T : Tm) : List Operand → (List Value → Option R) → Option R
  | [], k => k []
  | x :: xs, k => match evo T x with
    | some (.e (some ⟨b, 0, none⟩) 0 0) => capO T xs (fun l => k (.pointer (some ⟨b, 0, none⟩) :: l))
    | some (.v v) => capO T xs (fun l => k (v :: l))
    | _ => none
theorem capO_ok {T : Tm} {a : Go.Act} {bs : List Nat} (hev : ∀ x s, evo T x = some s → a.eval x = den bs s) : ∀ (xs : List Operand) (k : List Value → Option (List Value)) (vs : List Value), capO T xs k = some vs → ∃ l, k l = some vs ∧ xs.map a.eval = l
  | [], k, vs, h => ⟨[], h, rfl⟩
  | x :: xs, k, vs, h => by
    simp only [capO] at h
    split at h
    · rename_i b hx
      obtain ⟨l, h1, h2⟩ := capO_ok hev xs _ vs h
      refine ⟨_, h1, ?_⟩
      rw [List.map_cons, h2, hev _ _ hx]
      simp [den, addrOf, add_lit]
    · rename_i v hx
      obtain ⟨l, h1, h2⟩ := capO_ok hev xs _ vs h
      refine ⟨_, h1, ?_⟩
      rw [List.map_cons, h2, hev _ _ hx]
      rfl
    · cases h
theorem aMF {fn : FuncId} {caps : Array Operand} {d : Nat} {ty : TypeId} {vs : List Value} (hv : capO T caps.toList some = some vs := by conv => lhs; whnf) (k : OPL X P N W S0 ops Q Kn (i + 1) ((d, .v (.func (.func fn) #[] vs.toArray)) :: T) L C)
    (hv' : capO T caps.toList some = some vs := by rfl) (hi : Nat.blt i ops.size = true := by rfl) (ho : opAt ops T i = some (.makeFunc (.func fn) #[] caps, some d, ty) := by kernel_rfl) (hd : d < N := by exact NL rfl) :
    AT (.op (.makeFunc (.func fn) #[] caps) (some d) ty) X P N W S0 ops Q Kn i T L C :=
  opsOne (lt_of_blt hi) (RUNV _ d ty ho hd _ (by
    intro a o bs w hev hop _ _
    obtain ⟨l, h1, h2⟩ := capO_ok hev _ _ _ hv'
    simp only [Option.some.injEq] at h1
    subst h1
    have h3 : caps.map a.eval = l.toArray := by
      apply Array.toList_inj.1
      rw [Array.toList_map, h2]
    simp [execOp, hop, Instr.makeFunc, Sem.run_pure, h3, den]) k)
theorem oOP (k : ∀ bs : List Nat, bs.length = L.length → OPL X P N W S0 ops Q Kn i (expT bs T) [] (expC bs L ++ C)) : OPL X P N W S0 ops Q Kn i T L C := EXPORT k
theorem tOP {x : Nx} (k : ∀ bs : List Nat, bs.length = L.length → AT x X P N W S0 ops Q Kn i (expT bs T) [] (expC bs L ++ C)) : AT x X P N W S0 ops Q Kn i T L C := EXPORT k
/-- a pointer to a box that is named, as a value -/
theorem oPV {d b : Nat} (hd : lk T d = some (.e (some ⟨b, 0, none⟩) 0 0)) (k : OPL X P N W S0 ops Q Kn i ((d, .v (.pointer (some ⟨b, 0, none⟩))) :: T) L C) : OPL X P N W S0 ops Q Kn i T L C := ASV hd k
theorem gVP {K : Go.Act → World → Prop} {d b : Nat} (hd : lk T d = some (.v (.pointer (some ⟨b, 0, none⟩)))) (k : G N W S0 K ((d, .e (some ⟨b, 0, none⟩) 0 0) :: T) L C) : G N W S0 K T L C := by
  rintro a w ⟨bs, fps, ht, hb, hm⟩
  refine k a w ⟨bs, fps, ⟨ht.1, ht.2.1, fun i x hx => ?_⟩, hb, hm⟩
  simp only [lk] at hx
  by_cases hk : d = i
  · subst hk
    simp at hx; subst hx
    have := ht.2.2 d _ hd
    rw [this]
    simp [den, addrOf, add_lit]
  · have : (d == i) = false := by simpa using hk
    simp only [this, Bool.false_eq_true, if_false] at hx
    exact ht.2.2 i x hx
theorem oVP {d b : Nat} (hd : lk T d = some (.v (.pointer (some ⟨b, 0, none⟩)))) (k : OPL X P N W S0 ops Q Kn i ((d, .e (some ⟨b, 0, none⟩) 0 0) :: T) L C) : OPL X P N W S0 ops Q Kn i T L C := gVP hd k
theorem cVP {c : Code} {d b : Nat} (hd : lk T d = some (.v (.pointer (some ⟨b, 0, none⟩)))) (k : CD X P N W S0 c Q ((d, .e (some ⟨b, 0, none⟩) 0 0) :: T) L C) : CD X P N W S0 c Q T L C := gVP (K := c.wp P Q) hd k
/-- a result's box is closed again -/
def cellE (T : Tm) : List ResultVar → Option Nat
  | [] => none
  | .cell t _ :: r => match lk T t with
    | some (.e _ _ _) => some t
    | _ => cellE T r
  | _ :: r => cellE T r
theorem gCB {K : Go.Act → World → Prop} {d b t : Nat} {cs : List Value} {j : Nat} {R : List Ass} (hl : lk T d = some (.e (some ⟨b, 0, none⟩) 0 0)) (hp : pull j C = some (ptC b t cs, R)) (k : G N W S0 K ((d, .p L.length 0) :: T) (L ++ [(t, cs)]) R) : G N W S0 K T L C := by
  rintro a w ⟨bs, fps, ht, hb, hm⟩
  obtain ⟨fp, gps, ha, hr, hperm⟩ := holds.pull j hm.ch hp
  have hfp : fp = [b] := ha.1
  subst hfp
  have hbl := boxes_len hm.bx
  have hfl : (b :: gps.flatten).Perm fps.flatten := by simpa using flat_perm hperm
  have hall : ((bs ++ [b]) ++ gps.flatten).Perm (bs ++ fps.flatten) := by
    rw [List.append_assoc]
    exact hfl.append_left bs
  refine k a w ⟨bs ++ [b], gps, ⟨ht.1, ht.2.1, fun i x hx => ?_⟩, ?_, ⟨hm.fr, boxes_append hm.bx ⟨ha.2, trivial⟩, hr, hall.nodup_iff.2 hm.nd, fun c hc => hm.new c (hall.subset hc)⟩⟩
  · simp only [lk] at hx
    by_cases hk : d = i
    · subst hk
      simp at hx; subst hx
      have := ht.2.2 d _ hl
      rw [this]
      simp [den, addrOf, add_lit, hbl, List.getD_eq_getElem?_getD]
    · have h9 : (d == i) = false := by simpa using hk
      simp only [h9, Bool.false_eq_true, if_false] at hx
      have := ht.2.2 i x hx
      rw [this]
      cases x with
      | v _ => rfl
      | e _ _ _ => rfl
      | p m off =>
        have hlt := hb.lk hx
        simp only [den, List.getD_eq_getElem?_getD]
        rw [List.getElem?_append_left (by rw [← hbl] at hlt; exact hlt)]
  · refine ⟨by simp, hb.mono (by simp)⟩
theorem gRTC {fn : Func} {d b t : Nat} {cs : List Value} {j : Nat} {R : List Ass} {r : Res} {n : Nat} {L1 : Bx} (hq : Q .ret = bodyPost P fn (RetM S0 r W) .ret := by rfl) (hd : cellE T fn.results.toList = some d := by conv => lhs; whnf) (hl : lk T d = some (.e (some ⟨b, 0, none⟩) 0 0) := by conv => lhs; whnf) (hp : pull j C = some (ptC b t cs, R) := by exact PU)
    (hL : snocBx L 0 (t, cs) (fun i l => some (i, l)) = some (n, L1) := by conv => lhs; whnf) (k : CD X P N W S0 .ret Q ((d, .p n 0) :: T) L1 R) (hn : n = L.length := by rfl) (hL1 : L1 = L ++ [(t, cs)] := by rfl) : CD X P N W S0 .ret Q T L C := by
  subst hn hL1
  exact gCB (K := Code.ret.wp P Q) hl hp k
theorem rEX {v : Value} {r : Res} {R : List Ass} {js : List Nat} (x : r.ι) (hp : pulls js C = some (r.own x, R)) (hv : v = r.val x) : RETG v r C := ⟨x, js, hv, by rw [hp]; rfl⟩
theorem gFINN [TB P] {fn : Func} {r : Res} {v : Value} (k : RETG v r C) (hv : resV (TB.D P) fn T L = some v := by conv => lhs; whnf) (hv' : resOf fn P T L = some v := by kernel_rfl) : DN X N W S0 (bodyPost P fn (RetM S0 r W)) .normal T L C := by
  obtain ⟨x, js, hx, hp⟩ := k
  exact FINN v hv' x hx js hp
/-- an element that is out is put back -/
theorem tUNC {x : Nx} {e e4 e5 e6 : TypeId} {v : Value} {xs : List Cabin} {m j j1 j2 : Nat} {R R1 R2 : List Ass} {t f9 h s ti : Int} {a1 a2 : Option Addr} {n1 n2 c1 c2 : Nat} {row : List Entry} {sp : List (List Pin)}
    (hp : pull j C = some (slHo e (cabinLx e4 e5 e6) v xs m [vi t, vi f9, vi h, vi s, vi ti, .slice a1 n1 c1, .slice a2 n2 c2], R) := by exact PU) (hp1 : pull j1 R = some (slA e4 entryL (.slice a1 n1 c1) row, R1) := by exact PU) (hp2 : pull j2 R1 = some (slA e5 (sl e6 pinL) (.slice a2 n2 c2) sp, R2) := by exact PU)
    (k : AT x X P N W S0 ops Q Kn i T L (R2 ++ [slA e (cabinLx e4 e5 e6) v (xs.set m ⟨⟨t, f9, h, s, ti⟩, row, ⟨sp⟩⟩)])) : AT x X P N W S0 ops Q Kn i T L C := by
  unfold AT OPL at *
  exact oUNC hp hp1 hp2 k
theorem tUNS {x : Nx} {α : Type} {La : Lay α} {e e1 : TypeId} {v : Value} {xs : List (List α)} {m j j1 : Nat} {R R1 : List Ass} {a1 : Option Addr} {n1 c1 : Nat} {row : List α}
    (hp : pull j C = some (slHo e (sl e1 La) v xs m [.slice a1 n1 c1], R) := by exact PU) (hp1 : pull j1 R = some (slA e1 La (.slice a1 n1 c1) row, R1) := by exact PU)
    (k : AT x X P N W S0 ops Q Kn i T L (R1 ++ [slA e (sl e1 La) v (xs.set m row)])) : AT x X P N W S0 ops Q Kn i T L C := by
  unfold AT OPL at *
  exact oUNS hp hp1 k
theorem uUNC {x : Nx} {e e4 e5 e6 : TypeId} {v : Value} {xs : List Cabin} {m j j1 j2 : Nat} {R R1 R2 : List Ass} {t f9 h s ti : Int} {a1 a2 : Option Addr} {n1 n2 c1 c2 : Nat} {row : List Entry} {sp : List (List Pin)}
    (hp : pull j C = some (slHo e (cabinLx e4 e5 e6) v xs m [vi t, vi f9, vi h, vi s, vi ti, .slice a1 n1 c1, .slice a2 n2 c2], R) := by exact PU) (hp1 : pull j1 R = some (slA e4 entryL (.slice a1 n1 c1) row, R1) := by exact PU) (hp2 : pull j2 R1 = some (slA e5 (sl e6 pinL) (.slice a2 n2 c2) sp, R2) := by exact PU)
    (k : HO x i X P N W S0 ops Q bs L0 Ks T0 f Ls la Kn T L (R2 ++ [slA e (cabinLx e4 e5 e6) v (xs.set m ⟨⟨t, f9, h, s, ti⟩, row, ⟨sp⟩⟩)])) : HO x i X P N W S0 ops Q bs L0 Ks T0 f Ls la Kn T L C := by
  unfold HO OP at *
  exact oUNC hp hp1 hp2 k
theorem uUNS {x : Nx} {α : Type} {La : Lay α} {e e1 : TypeId} {v : Value} {xs : List (List α)} {m j j1 : Nat} {R R1 : List Ass} {a1 : Option Addr} {n1 c1 : Nat} {row : List α}
    (hp : pull j C = some (slHo e (sl e1 La) v xs m [.slice a1 n1 c1], R) := by exact PU) (hp1 : pull j1 R = some (slA e1 La (.slice a1 n1 c1) row, R1) := by exact PU)
    (k : HO x i X P N W S0 ops Q bs L0 Ks T0 f Ls la Kn T L (R1 ++ [slA e (sl e1 La) v (xs.set m row)])) : HO x i X P N W S0 ops Q bs L0 Ks T0 f Ls la Kn T L C := by
  unfold HO OP at *
  exact oUNS hp hp1 k
/-- a row that is built plain, for an insertion -/
theorem oBUILDP {K : Go.Act → World → Prop} {t : TypeId} {len : Nat} {parts : Array (Nat × Operand)} {d : Nat} {ty : TypeId} {e sz : Nat} {α : Type} {enc : α → List Value} {hh : ∀ x, (enc x).length = sz ∧ ∀ u ∈ enc x, isCell u = true} {xs : List α} [TB P]
    (he : lkn (TB.D P).row t = some (e, sz) := by conv => lhs; whnf) (el : ElT P e α sz enc hh := by infer_instance) (hx : partsO el.dec T 0 parts.toList some = some xs := by conv => lhs; whnf)
    (k : ∀ a : Option Addr, a.isSome = true → G N W S0 K ((d, .v (.slice a len len)) :: T) L (C ++ [slP e (flat sz enc hh) (.slice a len len) xs]))
    (ho : opAt ops T i = some (.buildSlice t len parts, some d, ty) := by kernel_rfl) (hd : d < N := by exact NL rfl) (hb : (partsOf T parts.toList).bind (bsOf P t len) = some (e, xs.flatMap enc) := by kernel_rfl) (hl : xs.length = len := by kernel_rfl) (hm : Nat.ble len maxLen = true := by rfl) : OP P N W S0 ops Q i K T L C :=
  BUILDP t len parts d ty e (xs.flatMap enc) (flat sz enc hh) xs (flatRep rfl) k ho hd hb hl (Nat.le_of_ble_eq_true hm)
theorem aBUILDP {t : TypeId} {len : Nat} {parts : Array (Nat × Operand)} {d : Nat} {ty : TypeId} {e sz : Nat} {α : Type} {enc : α → List Value} {hh : ∀ x, (enc x).length = sz ∧ ∀ u ∈ enc x, isCell u = true} {xs : List α} [TB P]
    (he : lkn (TB.D P).row t = some (e, sz) := by conv => lhs; whnf) (el : ElT P e α sz enc hh := by infer_instance) (hx : partsO el.dec T 0 parts.toList some = some xs := by conv => lhs; whnf)
    (k : ∀ a : Option Addr, a.isSome = true → OPL X P N W S0 ops Q Kn (i + 1) ((d, .v (.slice a len len)) :: T) L (C ++ [slP e (flat sz enc hh) (.slice a len len) xs])) (hi : Nat.blt i ops.size = true := by rfl)
    (ho : opAt ops T i = some (.buildSlice t len parts, some d, ty) := by kernel_rfl) (hd : d < N := by exact NL rfl) (hb : (partsOf T parts.toList).bind (bsOf P t len) = some (e, xs.flatMap enc) := by kernel_rfl) (hl : xs.length = len := by kernel_rfl) (hm : Nat.ble len maxLen = true := by rfl) :
    AT (.op (.buildSlice t len parts) (some d) ty) X P N W S0 ops Q Kn i T L C := opsOne (lt_of_blt hi) (oBUILDP he el hx k ho hd hb hl hm)
theorem hBUILDP {t : TypeId} {len : Nat} {parts : Array (Nat × Operand)} {d : Nat} {ty : TypeId} {e sz : Nat} {α : Type} {enc : α → List Value} {hh : ∀ x, (enc x).length = sz ∧ ∀ u ∈ enc x, isCell u = true} {xs : List α} [TB P]
    (he : lkn (TB.D P).row t = some (e, sz) := by conv => lhs; whnf) (el : ElT P e α sz enc hh := by infer_instance) (hx : partsO el.dec T 0 parts.toList some = some xs := by conv => lhs; whnf)
    (k : ∀ a : Option Addr, a.isSome = true → HL X P N W S0 ops Q bs L0 Ks T0 f (i :: Ls) (la.setIfInBounds i true) Kn ((d, .v (.slice a len len)) :: T) L (C ++ [slP e (flat sz enc hh) (.slice a len len) xs])) (hC : KP (frz bs L0) Ks (i :: Ls) (la.setIfInBounds i true) C := by exact KP.mk)
    (ho : opAt ops T i = some (.buildSlice t len parts, some d, ty) := by kernel_rfl) (hd : d < N := by exact NL rfl) (hb : (partsOf T parts.toList).bind (bsOf P t len) = some (e, xs.flatMap enc) := by kernel_rfl) (hl : xs.length = len := by kernel_rfl) (hm : Nat.ble len maxLen = true := by rfl) :
    HO (.op (.buildSlice t len parts) (some d) ty) i X P N W S0 ops Q bs L0 Ks T0 f Ls la Kn T L C := oBUILDP he el hx (fun a ha => hKEEP hC.app (k a ha)) ho hd hb hl hm
theorem STP {A B : Prop} (k : B) (h : B → A := by
    intro k
    first
    | (refine gtB ?_; exact aBUILDP (k := k))
    | (refine goB ?_; exact hBUILDP (k := k))) : A := h k
theorem ST2 {A B : Prop} (k : B) (h : B → A := by
    intro k
    first
    | (refine idAT ?_
       first
       | (refine aLd ?_
          first
          | exact aLP (k := k)
          | exact aLW (he := by assumption) (k := k))
       | (refine gtS ?_; exact aSP (k := k))
       | (refine aCa ?_
          first
          | exact tUNS (k := k)
          | exact tUNC (k := k))
       | exact aMF (k := k))
    | (refine idHO ?_
       refine goC ?_
       first
       | exact uUNS (k := k)
       | exact uUNC (k := k))
    | (refine idDN ?_; exact gFINN k)
    | (refine idCD ?_; exact gRTC (k := k))
    | (refine idQT ?_; refine qLd ?_; exact qLP (k := k))
    | (refine idHT ?_; refine ghL ?_; exact hLWd (he := fun w hw j hj => ElemAt.fr (by assumption) hw.fr j hj) (k := k))) : A := h k
end rules
end SX
end Go.Proofs.YthnbaikmbgaddaaGreat
