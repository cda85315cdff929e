/- Texts of this claim, put together by program. -/
import Derived.Test.YtejojcoaohlfbaaGreatIA
import Derived.Test.YtejojcoaohlfbaaGreatBB
import Derived.Test.YtejojcoaohlfbaaGreatED
import Derived.Test.YtejojcoaohlfbaaGreatR2
import Derived.Test.YtejojcoaohlfbaaGreatSx9
namespace Go.Proofs.YtejojcoaohlfbaaGreat
namespace SX
open Go Go.RowKit
set_option linter.unusedVariables false
set_option linter.unusedSimpArgs false
set_option maxRecDepth 10000
set_option maxHeartbeats 1000000
attribute [local irreducible] CD DN OPL AT QL QT CND RETG BKP HL HT HO slA slHo slP ptC pull pulls
def SP9 {α : Type} (e : TypeId) (La : Lay α) (v : Value) (xs : List α) (pre : List Ass) : Prop := ∃ a n c, v = .slice a n c ∧ pre = [slP e La (.slice a n c) xs]
theorem SP9.mk {α : Type} {e : TypeId} {La : Lay α} {a : Option Addr} {n c : Nat} {xs : List α} : SP9 e La (.slice a n c) xs [slP e La (.slice a n c) xs] := ⟨a, n, c, rfl, rfl⟩
instance hDelParty_c : HC 263 (∀ (W : World) (s : List Party) (a : Option Addr) (n c : Nat) (i j : Int), 0 ≤ i → i < (s.length : Int) → j = i + 1 → s.length ≤ 1048576 →Sp W [slA 91 partyL (.slice a n c) s] 263 #[.slice a n c, vi i, vi j] (RO 91 partyL (cutAt s i.toNat))) := by
 exact ⟨fun W s a n c i j h1 h2 h3 h4 => delParty_c W s a n c i j h1 h2 h3 h4⟩
instance hInsParty_c : HC 300 (∀ (W : World) (s : List Party) (a : Option Addr) (n c : Nat) (i : Int) (x : Party) (a2 : Option Addr) (n2 c2 : Nat), 0 ≤ i → i ≤ (s.length : Int) → s.length ≤ 1048576 →Sp W [slA 91 partyL (.slice a n c) s, slP 91 partyL (.slice a2 n2 c2) [x]] 300 #[.slice a n c, vi i, .slice a2 n2 c2] (RO 91 partyL (s.take i.toNat ++ [x] ++ s.drop i.toNat))) := by
 exact ⟨fun W s a n c i x a2 n2 c2 h1 h2 h3 => insParty_c W s a n c i [x] a2 n2 c2 h1 h2 rfl h3⟩
instance hDelEntry_c : HC 298 (∀ (W : World) (s : List Entry) (a : Option Addr) (n c : Nat) (i j : Int), 0 ≤ i → i < (s.length : Int) → j = i + 1 → s.length ≤ 1048576 →Sp W [slA 159 entryL (.slice a n c) s] 298 #[.slice a n c, vi i, vi j] (RO 159 entryL (cutAt s i.toNat))) := by
 exact ⟨fun W s a n c i j h1 h2 h3 h4 => delEntry_c W s a n c i j h1 h2 h3 h4⟩
instance hInsEntry_c : HC 320 (∀ (W : World) (s : List Entry) (a : Option Addr) (n c : Nat) (i : Int) (x : Entry) (a2 : Option Addr) (n2 c2 : Nat), 0 ≤ i → i ≤ (s.length : Int) → s.length ≤ 1048576 →Sp W [slA 159 entryL (.slice a n c) s, slP 159 entryL (.slice a2 n2 c2) [x]] 320 #[.slice a n c, vi i, .slice a2 n2 c2] (RO 159 entryL (s.take i.toNat ++ [x] ++ s.drop i.toNat))) := by
 exact ⟨fun W s a n c i x a2 n2 c2 h1 h2 h3 => insEntry_c W s a n c i [x] a2 n2 c2 h1 h2 rfl h3⟩
instance hDelPin_c : HC 262 (∀ (W : World) (s : List Pin) (a : Option Addr) (n c : Nat) (i j : Int), 0 ≤ i → i < (s.length : Int) → j = i + 1 → s.length ≤ 1048576 →Sp W [slA 166 pinL (.slice a n c) s] 262 #[.slice a n c, vi i, vi j] (RO 166 pinL (cutAt s i.toNat))) := by
 exact ⟨fun W s a n c i j h1 h2 h3 h4 => delPin_c W s a n c i j h1 h2 h3 h4⟩
instance hInsPin_c : HC 302 (∀ (W : World) (s : List Pin) (a : Option Addr) (n c : Nat) (i : Int) (x : Pin) (a2 : Option Addr) (n2 c2 : Nat), 0 ≤ i → i ≤ (s.length : Int) → s.length ≤ 1048576 →Sp W [slA 166 pinL (.slice a n c) s, slP 166 pinL (.slice a2 n2 c2) [x]] 302 #[.slice a n c, vi i, .slice a2 n2 c2] (RO 166 pinL (s.take i.toNat ++ [x] ++ s.drop i.toNat))) := by
 exact ⟨fun W s a n c i x a2 n2 c2 h1 h2 h3 => insPin_c W s a n c i [x] a2 n2 c2 h1 h2 rfl h3⟩
instance iPartyCut_c : HC 168 (∀ (W : World) (list : List Party) (v : Value) (id : Int), Rs partyL W v list → list.length ≤ 1048576 →Sp W [] 168 #[v, vi id] (RO 91 partyL (partyCut list id))) := by
 refine ⟨fun W list v id ⟨a, c, e, hc, hr⟩ hb => ?_⟩
 subst e; have hl := hr.len; have hat := atId_lt list id
 have hb2 : ([] ++ list).length ≤ 1048576 := hb
 have hb3 : atId list id < (([] ++ list).length : Int) := hat.1
 have w1 : wr (atId list id + 1) = atId list id + 1 := wr_of (by omega) (by omega)
 have w2 : IntKind.wrap .i64 (atId list id + 1) = atId list id + 1 := wrap_of (by omega) (by omega)
 refine gENT (vs := [_, _]) Tryz.func168 ?_
 repeat' first | refine ST ?_ | intro _ | apply And.intro
 all_goals first | (rw [partyCut_at (by omega)]; rfl) | (rw [partyCut_no (by omega)]; rfl) | trace_state
instance iQueuePut_c : HC 232 (∀ (W : World) (list : List Entry) (v : Value) (p : Entry), Rs entryL W v list → list.length ≤ 1048576 →Sp W [] 232 #[v, .agg (entryE p).toArray] (RT2 (RO 159 entryL (queuePut list p)) (RV (.bool (queuePutB list p))))) := by
 refine ⟨fun W list v p ⟨a, c, e, hc, hr⟩ hb => ?_⟩
 subst e; have hl := hr.len
 refine gENT (vs := [_, _]) Tryz.func232 ?_
 repeat' first | refine ST ?_ | intro _ | apply And.intro
 refine gFOR 7 list.length (fun k => qIns list p = list.take k ++ qIns (list.drop k) p) rfl fun k hk hv => ?_
 have hb2 : ([] ++ list).length ≤ 1048576 := hb
 have hk2 : ((k : Nat) : Int) ≤ (([] ++ list).length : Int) := by simp only [List.nil_append]; omega
 repeat' first | refine STP ?_ | refine ST ?_ | intro _ | apply And.intro
 all_goals try exact qIns_go hv ‹_› ‹_›
 all_goals have hn := Int.toNat_natCast k
 all_goals have he := qIns_at hv (fun h => by first | assumption | (exfalso; omega))
 all_goals (simp only [List.nil_append, hn] at *)
 all_goals first | (have h1 := ‹queueOk list = false›; first | exact (queuePut_f (Or.inl h1)).1.symm | exact (queuePut_f (Or.inl h1)).2.symm) | (have h1 := ‹queueOk list = true›; have h2 := ‹queueOk (List.take k list ++ _ ++ _) = _›; rw [he] at h2; first | exact (queuePut_f (Or.inr h2)).1.symm | exact (queuePut_f (Or.inr h2)).2.symm | exact (queuePut_t h1 h2).2.symm | exact he.trans (queuePut_t h1 h2).1.symm)
instance iPinsDue_c : HC 294 (∀ (W : World) (w : Wheel) (v : Value) (now : Int), Rs (sl 166 pinL) W v w.spoke → w.spoke.flatten.length ≤ 1048576 →Sp W [] 294 #[.agg #[v], vi now] (RO 166 pinL (dueGo w now))) := by
 refine ⟨fun W w v now hv0 hb => ?_⟩
 have hv1 := hv0; obtain ⟨a, c, rfl, hc, hr⟩ := hv0; have hpl := pinsOf_le w
 have hb4 : w.spoke.flatten.length ≤ 4194304 := by omega
 refine gENT (vs := [_, _]) Tryz.func294 ?_
 repeat' first | refine ST ?_ | intro _ | apply And.intro
 refine gNILN 166 pinL ?_
 refine gFORO 11 (pinsOf w).length 5 (fun _ : Unit => []) (fun k _ xs => xs.length ≤ k ∧ dueGo w now = xs ++ dueL now ((pinsOf w).drop k)) () (h0 := ⟨by simp, rfl⟩) (body := fun k _ a c9 xs hk ⟨hl, hv⟩ => ?_)
 repeat' first | refine ST ?_ | intro _ | apply And.intro
 all_goals first | exact LEN | (rw [hv, List.drop_eq_getElem_cons (by omega), dueL_cons, if_pos (by omega)]; simp) | (rw [hv, List.drop_eq_getElem_cons (by omega), dueL_cons, if_neg (by omega)]) | (rw [hv, List.drop_eq_nil_of_le (by omega)]; simp [dueL]) | trace_state
theorem wheelCut_bad {w : Wheel} {p : Pin} (h : pinRB p = false) : wheelCut w p = w := by
 by_cases h1 : wheelOk w = true
 · by_cases h2 : p.at' < 1
   · exact wheelCut_no (.inr h2)
   · cases hl : w.spoke[(Int.tmod p.at' 9).toNat]? with
     | none => unfold wheelCut; rw [if_pos (by simp [h1, h2]), hl]
     | some l =>
       by_cases hn : pinAt l p < 0
       · exact wheelCut_none hl hn
       · obtain ⟨i, e, e1, e2, e3, _⟩ := idxF_at l 0 (by show 0 ≤ pinAt l p; omega)
         simp only [Bool.and_eq_true, beq_iff_eq] at e3
         have hm := (wheelP_of h1).2.2.1 e (List.mem_flatten.2 ⟨l, List.mem_of_getElem? hl, List.mem_of_getElem? e2⟩)
         have h9 : pinRB e = true := by simp only [pinRB, hm.1, hm.2, Bool.and_self]
         have h8 : pinRB e = pinRB p := by simp only [pinRB, e3.1, e3.2]
         rw [h8, h] at h9; cases h9
 · exact wheelCut_no (.inl (by simpa using h1))
theorem pinAt_lt (l : List Pin) (p : Pin) : pinAt l p < (l.length : Int) ∧ -1 ≤ pinAt l p := by
 rcases idxF_lt (q := fun x : Pin => x.at' == p.at' && x.id == p.id) l 0 with h | h <;> rcases (idxF_none (q := fun x : Pin => x.at' == p.at' && x.id == p.id) l 0).2 with g | g <;> (unfold pinAt; omega)
theorem pinRB_rng {p : Pin} (h : pinRB p = true) : 1 ≤ p.at' ∧ p.at' ≤ 1000008 := by
 simp only [pinRB, inB, Bool.and_eq_true, decide_eq_true_eq] at h
 omega
instance iWheelCut_c : HC 167 (∀ (W : World) (w : Wheel) (v : Value) (p : Pin), Rs (sl 166 pinL) W v w.spoke → w.spoke.flatten.length ≤ 1048576 → w.spoke.length ≤ 1048576 →Sp W [] 167 #[.agg #[v], .agg (pinE p).toArray] (RT2 (RWh 199 166 (wheelCut w p)) RBo)) := by
 refine ⟨fun W w v p hv0 hb hn => ?_⟩
 have hv1 := hv0; obtain ⟨a, c, rfl, hc, hr⟩ := hv0
 have hb4 : w.spoke.flatten.length ≤ 4194304 := by omega
 refine gENT (vs := [_, _]) Tryz.func167 ?_
 repeat' first | refine ST ?_ | intro _ | apply And.intro
 all_goals first | trivial | (rw [wheelCut_no (.inl ‹_›)]; done) | (rw [wheelCut_bad ‹_›]; done) | skip
 have hwo : wheelOk w = true := ‹_›
 have hw9 : w.spoke.length = 9 := (wheelP_of hwo).1
 obtain ⟨pr1, pr2⟩ := pinRB_rng ‹_›
 have hrem := tmod_rng (a := p.at') (n := 9) (by omega) (by omega)
 have hsp : w.spoke[(Int.tmod p.at' 9).toNat]? = some (w.spoke[(Int.tmod p.at' 9).toNat]'(by omega)) := List.getElem?_eq_getElem (by omega)
 have hfm := flat_mem hsp
 obtain ⟨pa1, pa2⟩ := pinAt_lt (w.spoke[(Int.tmod p.at' 9).toNat]'(by omega)) p
 have w2 : IntKind.wrap .i64 (pinAt (w.spoke[(Int.tmod p.at' 9).toNat]'(by omega)) p + 1) = pinAt (w.spoke[(Int.tmod p.at' 9).toNat]'(by omega)) p + 1 := wrap_of (by omega) (by omega)
 have w1 : wr (pinAt (w.spoke[(Int.tmod p.at' 9).toNat]'(by omega)) p + 1) = pinAt (w.spoke[(Int.tmod p.at' 9).toNat]'(by omega)) p + 1 := wr_of (by omega) (by omega)
 repeat' first | refine ST ?_ | refine ST2 ?_ | intro _ | apply And.intro
 all_goals first | trivial | (rw [wheelCut_none hsp ‹_›, List.set_getElem_self]) | (rw [wheelCut_at hwo (by omega) hsp (k := (pinAt (w.spoke[(Int.tmod p.at' 9).toNat]'(by omega)) p).toNat) (by omega)]) | trace_state
instance iPut1_c : HC 299 (∀ (W : World) (b : Nat) (p x : Party), ElemAt W (some ⟨b, 0, none⟩) 0 (partyE p) →Sp W [] 299 #[.agg (partyE x).toArray, .pointer (some ⟨b, 0, none⟩)] (RV (.bool (decide (p.id < x.id))))) := by
 refine ⟨fun W b p x he => ?_⟩
 refine gENT (vs := [_, _]) Tryz.func299 (cVP (d := 1) rfl ?_)
 repeat' first | refine ST ?_ | refine ST2 ?_ | intro _ | apply And.intro
 all_goals rfl
instance iPutIx_c : HC 239 (∀ (W : World) (list : List Party) (v : Value) (b : Nat) (p : Party), Rs partyL W v list → ElemAt W (some ⟨b, 0, none⟩) 0 (partyE p) →Sp W [] 239 #[v, .func (.func 299) #[] #[.pointer (some ⟨b, 0, none⟩)]] (RV (vi (idxF (fun x : Party => decide (p.id < x.id)) list 0)))) := by
 refine ⟨fun W list v b p ⟨a, c, e, hc, hr⟩ he => ?_⟩
 subst e; have hl := hr.len
 refine gENT (vs := [_, _]) Tryz.func239 ?_
 repeat' first | refine ST ?_ | refine ST2 ?_ | intro _ | apply And.intro
 refine gFOR 8 list.length (fun k => idxF (fun x : Party => decide (p.id < x.id)) list 0 = idxF (fun x : Party => decide (p.id < x.id)) (list.drop k) k) rfl fun k hk hv => ?_
 repeat' first | refine ST ?_ | refine ST2 ?_ | intro _ | apply And.intro
 · refine aCV (hcon := by intro c w hw; exact c w b p list[k] (ElemAt.fr he hw.fr)) (k := ?_)
   repeat' first | refine ST ?_ | refine ST2 ?_ | intro _ | apply And.intro
   all_goals grind [idxF, List.drop_eq_getElem_cons]
 all_goals grind [idxF]
theorem insL_ix (p : Party) : ∀ (l : List Party) (n : Nat), (∀ x ∈ l, x.id ≠ p.id) → (idxF (fun x : Party => decide (p.id < x.id)) l n = -1 ∧ insL idLess l p = l ++ [p]) ∨ (∃ k : Nat, idxF (fun x : Party => decide (p.id < x.id)) l n = ((n + k : Nat) : Int) ∧ k ≤ l.length ∧ insL idLess l p = l.take k ++ [p] ++ l.drop k)
 | [], n, _ => .inl ⟨rfl, rfl⟩
 | y :: ys, n, h => by
   have hy := h y (by simp)
   unfold idxF insL
   by_cases hc : p.id < y.id
   · refine .inr ⟨0, by simp [hc], by omega, ?_⟩
     have h2 : idLess y p = false := by simp only [idLess, decide_eq_false_iff_not]; omega
     simp [h2]
   · have h2 : idLess y p = true := by simp only [idLess, decide_eq_true_eq]; omega
     rcases insL_ix p ys (n + 1) (fun x hx => h x (by simp [hx])) with ⟨e1, e2⟩ | ⟨k, e1, hk, e2⟩
     · exact .inl ⟨by simp [hc, e1], by simp [h2, e2]⟩
     · refine .inr ⟨k + 1, by simp [hc, e1]; omega, by simp; omega, by simp [h2, e2]⟩
theorem atId_no {l : List Party} {id : Int} (h : atId l id < 0) : ∀ x ∈ l, x.id ≠ id := fun x hx he => by
 have h1 := idxF_none (q := fun e : Party => e.id == id) l 0
 have h2 := h1.1.1 (by have h3 : idxF (fun e : Party => e.id == id) l 0 < 0 := h; rcases h1.2 with g | g <;> omega) x hx
 simp [he] at h2
instance iPartyPut_c : HC 208 (∀ (W : World) (list : List Party) (v : Value) (p : Party), Rs partyL W v list → list.length ≤ 1048576 →Sp W [] 208 #[v, .agg (partyE p).toArray] (RO 91 partyL (partyPut list p))) := by
 refine ⟨fun W list v p ⟨a, c, e, hc, hr⟩ hb => ?_⟩
 subst e; have hl := hr.len; have hat := atId_lt list p.id
 have hb2 : ([] ++ list).length ≤ 1048576 := hb
 have hb3 : atId list p.id < (([] ++ list).length : Int) := hat.1
 have hb5 : (list.length : Int) ≤ (([] ++ list).length : Int) := Int.le_refl _
 refine gENT (vs := [_, _]) Tryz.func208 ?_
 repeat' first | refine ST ?_ | refine ST2 ?_ | intro _ | apply And.intro
 · rw [partyPut_set ‹_›]; rfl
 refine tOP fun bs hb => ?_
 obtain ⟨b1, rfl⟩ : ∃ b, bs = [b] := by match bs, hb with | [b], _ => exact ⟨b, rfl⟩
 simp only [expT, expS, expC, List.getElem?_cons_zero, List.getElem?_cons_succ, List.cons_append, List.nil_append]
 repeat' first | refine ST ?_ | refine ST2 ?_ | intro _ | apply And.intro
 refine aCV (hcon := by intro c w hw; exact c w list _ b1 p (by exact SIDE) (ptC_elem (hw.own 0 rfl))) (k := ?_)
 rcases insL_ix p list 0 (atId_no (by omega)) with ⟨e1, e2⟩ | ⟨k, e1, hk, e2⟩
 · repeat' first | refine STP ?_ | refine ST ?_ | refine ST2 ?_ | intro _ | apply And.intro
   all_goals first | (exfalso; omega) | (rw [partyPut_ins (by omega), e2]; simp; done) | (rw [partyPut_ins (by omega), e2, e1]; simp)
 · have hk2 : idxF (fun x : Party => decide (p.id < x.id)) list 0 ≤ (([] ++ list).length : Int) := by rw [e1]; simp only [List.nil_append]; omega
   repeat' first | refine STP ?_ | refine ST ?_ | refine ST2 ?_ | intro _ | apply And.intro
   all_goals first | (exfalso; omega) | (rw [partyPut_ins (by omega), e2]; simp; done) | (rw [partyPut_ins (by omega), e2, e1]; simp)
instance iDueIn_c : HC 204 (∀ (W : World) (cs : List Value) (h : House) (cabin : Int), HsR W cs h → HouseSz h → HRep h → 0 ≤ cabin → cabin < (h.cabins.length : Int) →Sp W [] 204 #[.agg cs.toArray, vi cabin] (RO 3 intL (dueIds h cabin))) := by
 refine ⟨fun W cs h cabin hh hsz hrp hc0 hc1 => ?_⟩
 have hh1 := hh; obtain ⟨a1, c1, a2, c2, a3, c3, a4, c4, a5, c5, rfl, h1, h2, h3, h4, h5, h6, h7, h8, h9, h10⟩ := hh
 have hs9 := hsz.2.2.2.2.2
 have hb' : ∀ (k : Nat) (h9 : k < h.cabins.length), (h.cabins[k]).wheel.spoke.flatten.length ≤ 1048576 := fun k h9 => Nat.le_trans (hs9 _ (List.getElem_mem h9)).2.2 (by decide)
 have hx : h.cabins[cabin.toNat]? = some (h.cabins[cabin.toNat]'(by omega)) := List.getElem?_eq_getElem (by omega)
 have hpl := dueGo_len (h.cabins[cabin.toNat]'(by omega)).wheel h.now
 have hcb : hasCab h cabin = true := hasCab_mk hrp hc0 hc1
 refine gENT (vs := [_, _]) Tryz.func204 ?_
 repeat' first | refine ST ?_ | intro _ | apply And.intro
 · exact absurd (‹hasCab h cabin = false›.symm.trans hcb) (by decide)
 refine gNILN 3 intL ?_
 refine gFORO 22 (dueGo (h.cabins[cabin.toNat]'(by omega)).wheel h.now).length 5 (fun _ : Unit => []) (fun k _ xs => xs.length ≤ k ∧ dueIds h cabin = xs ++ ((dueGo (h.cabins[cabin.toNat]'(by omega)).wheel h.now).drop k).map (·.id)) () (h0 := ⟨by simp, by rw [dueIds_of hx]; rfl⟩) (body := fun k _ a c9 xs hk ⟨hl, hv⟩ => ?_)
 repeat' first | refine ST ?_ | intro _ | apply And.intro
 all_goals first | exact LEN | (rw [hv, List.drop_eq_getElem_cons (by omega), List.map_cons]; simp only [List.append_assoc, List.cons_append, List.nil_append]) | (rw [hv, List.drop_eq_nil_of_le (by omega)]; simp) | trace_state
end SX
end Go.Proofs.YtejojcoaohlfbaaGreat
