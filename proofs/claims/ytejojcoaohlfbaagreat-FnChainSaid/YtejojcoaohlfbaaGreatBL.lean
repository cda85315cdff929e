/- The program's side: an offer that is taken back. -/
import Derived.Test.YtejojcoaohlfbaaGreatBK
import Derived.Test.YtejojcoaohlfbaaGreatAI
namespace Go.Proofs.YtejojcoaohlfbaaGreat
namespace SX
open Go Go.RowKit
set_option linter.unusedVariables false
set_option linter.unusedSimpArgs false
set_option maxRecDepth 10000
set_option maxHeartbeats 1000000
attribute [local irreducible] CD DN OPL AT QL QT CND RETG BKP HL HT HO slA slHo slP ptC pull pulls
theorem NT9 {C : List Ass} {A : Ass} {j : Nat} (h : C[j]? = some A := by first | exact nt0 | (apply ntS; first | exact nt0 | (apply ntS; first | exact nt0 | (apply ntS; first | exact nt0 | (apply ntS; first | exact nt0 | (apply ntS; first | exact nt0 | (apply ntS; first | exact nt0 | (apply ntS; first | exact nt0 | (apply ntS; first | exact nt0 | (apply ntS; first | exact nt0 | (apply ntS; first | exact nt0 | (apply ntS; first | exact nt0 | (apply ntS; first | exact nt0 | (apply ntS; first | exact nt0 | (apply ntS; first | exact nt0 | (apply ntS; first | exact nt0 | (apply ntS; first | exact nt0 | (apply ntS; first | exact nt0 | (apply ntS; first | exact nt0 | (apply ntS; first | exact nt0 | (apply ntS; first | exact nt0 | (apply ntS; first | exact nt0 | (apply ntS; exact nt0))))))))))))))))))))))) : C[j]? = some A := h
theorem goLd {X : List Nat} {P : Program} {N : Nat} {W : World} {S0 : List Nat} {Q : Exit → Go.Act → World → Prop} {T : Tm} {L : Bx} {C : List Ass} {ops : Array Oper} {Kn : List (Nat × Nat)} {bs : List Nat} {L0 : Bx} {Ks : Keys} {T0 : Tm} {f : Nat} {Ls : List Nat} {la : Array Bool} {i : Nat} {t : TypeId} {x : Operand} {d : Option Nat} {ty : TypeId} (k : HO (.op (.load t x) d ty) i X P N W S0 ops Q bs L0 Ks T0 f Ls la Kn T L C) : HO (.op (.load t x) d ty) i X P N W S0 ops Q bs L0 Ks T0 f Ls la Kn T L C := k
theorem PU9 {C R : List Ass} {A : Ass} {j : Nat} (h : pull j C = some (A, R) := by first | exact pu0 | (apply puS; first | exact pu0 | (apply puS; first | exact pu0 | (apply puS; first | exact pu0 | (apply puS; first | exact pu0 | (apply puS; first | exact pu0 | (apply puS; first | exact pu0 | (apply puS; first | exact pu0 | (apply puS; first | exact pu0 | (apply puS; first | exact pu0 | (apply puS; first | exact pu0 | (apply puS; first | exact pu0 | (apply puS; first | exact pu0 | (apply puS; first | exact pu0 | (apply puS; first | exact pu0 | (apply puS; first | exact pu0 | (apply puS; first | exact pu0 | (apply puS; first | exact pu0 | (apply puS; first | exact pu0 | (apply puS; first | exact pu0 | (apply puS; first | exact pu0 | (apply puS; first | exact pu0 | (apply puS; exact pu0))))))))))))))))))))))) : pull j C = some (A, R) := h
noncomputable def declM (h : House) (p : Party) : House :=
 if failedB h.rules p h.now then ⟨h.rules, h.now, h.turn, partyPut h.parties (failedP h.rules p h.now), modC h.cabins p.cabin (fun c => rowPutW (entryOf h.rules (failedP h.rules p h.now) h.now) (dropC p c)), h.todo, h.jobs⟩
 else goneM (dropM h p) p
theorem declM_yes {h : House} {p : Party} {id : Int} {c : Cabin} (hb : failedB h.rules p h.now = true) (hx : h.cabins[p.cabin.toNat]? = some c) (hid : p.id = id) : declM h p = ⟨h.rules, h.now, h.turn, partyPut h.parties (failedX h.rules p h.now), h.cabins.set p.cabin.toNat ⟨lDrop c.seats p.size, queuePut c.row (entryOf h.rules (failedX h.rules p h.now) h.now), wheelCut c.wheel ⟨p.until', id⟩⟩, h.todo, h.jobs⟩ := by
 subst hid
 unfold declM failedX
 rw [if_pos hb, modC_of _ hx, if_pos hb]; rfl
theorem declM_no {h : House} {p : Party} {id : Int} {c : Cabin} (hb : failedB h.rules p h.now = false) (hx : h.cabins[p.cabin.toNat]? = some c) (hf : p.from' < 0) (hid : p.id = id) : declM h p = ⟨h.rules, h.now, h.turn, partyCut h.parties id, h.cabins.set p.cabin.toNat ⟨lDrop c.seats p.size, c.row, wheelCut c.wheel ⟨p.until', id⟩⟩, h.todo, h.jobs⟩ := by
 subst hid
 unfold declM
 rw [if_neg (by rw [hb]; decide)]
 unfold goneM dropM
 rw [modC_of _ hx, if_pos hf]; rfl
theorem declM_fr {h : House} {p : Party} {id : Int} {c y : Cabin} (hb : failedB h.rules p h.now = false) (hx : h.cabins[p.cabin.toNat]? = some c) (hf : ¬ p.from' < 0) (hy : (h.cabins.set p.cabin.toNat ⟨lDrop c.seats p.size, c.row, wheelCut c.wheel ⟨p.until', id⟩⟩)[p.from'.toNat]? = some y) (hid : p.id = id) : declM h p = ⟨h.rules, h.now, h.turn, partyCut h.parties id, (h.cabins.set p.cabin.toNat ⟨lDrop c.seats p.size, c.row, wheelCut c.wheel ⟨p.until', id⟩⟩).set p.from'.toNat ⟨lUntie y.seats p.size, y.row, y.wheel⟩, h.todo, h.jobs⟩ := by
 subst hid
 unfold declM
 rw [if_neg (by rw [hb]; decide)]
 unfold goneM dropM
 rw [modC_of _ hx, if_neg hf]
 show (House.mk _ _ _ _ (modC (h.cabins.set p.cabin.toNat ⟨lDrop c.seats p.size, c.row, wheelCut c.wheel ⟨p.until', p.id⟩⟩) p.from' _) _ _) = _
 rw [modC_of _ hy]; rfl
instance iDeclined_c : HC 170 (∀ (W : World) (cs : List Value) (h : House) (pre : List Ass) (p : Party) (id : Int), HsO cs h pre → HouseSz h → h.parties[(atId h.parties id).toNat]? = some p → p.id = id → 0 ≤ atId h.parties id → 0 ≤ p.cabin → p.cabin < (h.cabins.length : Int) → -1 ≤ p.from' → p.from' < (h.cabins.length : Int) →Sp W pre 170 #[.agg cs.toArray, vi id] (RHs (declM h p))) := by
 refine ⟨fun W cs h pre p id ⟨⟨⟨a1, c1⟩, ⟨a2, c2⟩, ⟨a3, c3⟩, ⟨a4, c4⟩, a5, c5⟩, e1, e2⟩ hsz hpa hpi hat hc0 hc1 hf0 hf1 => ?_⟩
 subst e1 e2
 have hs9 := hsz.2.1
 have hal := atId_lt h.parties id
 have hk0 : (atId h.parties id).toNat < h.parties.length := by omega
 rw [List.getElem?_eq_getElem hk0] at hpa
 have hpe := Option.some.inj hpa
 subst hpe
 have hk : (h.parties[(atId h.parties id).toNat]'hk0).cabin.toNat < h.cabins.length := by omega
 have hx := List.getElem?_eq_getElem hk
 obtain ⟨hs1, hs2, hs3⟩ := hsz.2.2.2.2.2 _ (List.getElem_mem hk)
 refine gENTO (vs := [_, _]) Tryz.func170 (fun S0 => ?_)
 repeat' first | refine ST ?_ | refine ST2 ?_ | refine hLH (hC := by exact NT9) (k := ?_) | refine hHL (hp := by exact PU9) (k := fun i9 => ?_) | refine hSH (hp := by exact PU9) (k := ?_) | refine hEND (hC := by exact eb5 PU9 PU9 PU9 PU9 PU9) (k := ?_) | (refine goLd ?_; refine uUNC (hp := by exact PU9) (hp1 := by exact PU9) (hp2 := by exact PU9) (k := ?_); refine hHL (hp := by exact PU9) (k := fun i9 => ?_)) | intro _ | apply And.intro
 all_goals first | (rw [declM_yes ‹_› hx hpi]; done) | (rw [declM_no ‹_› hx (by omega) hpi]; done) | exact (declM_fr ‹_› hx (by omega) (List.getElem?_eq_getElem (by rw [List.length_set]; omega)) hpi).symm
end SX
end Go.Proofs.YtejojcoaohlfbaaGreat
