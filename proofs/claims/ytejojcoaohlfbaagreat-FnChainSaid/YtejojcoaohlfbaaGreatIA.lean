/- Texts of this claim, put together by program. -/
import Derived.Test.YtejojcoaohlfbaaGreatBF
import Derived.Test.YtejojcoaohlfbaaGreatSx9
namespace Go.Proofs.YtejojcoaohlfbaaGreat
namespace SX
open Go Go.RowKit
set_option linter.unusedVariables false
set_option linter.unusedSimpArgs false
set_option maxRecDepth 10000
set_option maxHeartbeats 1000000
attribute [local irreducible] CD DN OPL AT QL QT CND RETG BKP HL HT HO slA slHo slP ptC pull pulls
def movB (l : Ledger) (n : Int) (f : Ledger → Ledger) : Bool := ledgerOk l && inB n 0 60 && ledgerOk (f l)
def movL (l : Ledger) (n : Int) (f : Ledger → Ledger) : Ledger := if movB l n f then f l else l
abbrev RMv (c : Nat) (n : Int) (l : Ledger) (b : Bool) : Res := ⟨Unit, fun _ => .tuple #[.agg (ledgerE l).toArray, .bool b], fun _ => [ptC c 3 [vi n]]⟩
abbrev RLd (b c : Nat) (n : Int) (l : Ledger) : Res := ⟨Unit, fun _ => .tuple #[], fun _ => [ptC b 64 (ledgerE l), ptC c 3 [vi n]]⟩
instance iMoved_c : HC 252 (∀ (W : World) (l : Ledger) (n : Int) (g c : Nat) (f : Ledger → Ledger), g ∈ [253, 257, 264, 296, 323] → (∀ (w : World) (b : Nat) (x : Ledger), Sp w [ptC b 64 (ledgerE x), ptC c 3 [vi n]] g #[.pointer (some ⟨b, 0, none⟩), .pointer (some ⟨c, 0, none⟩)] (RLd b c n (f x))) →Sp W [ptC c 3 [vi n]] 252 #[.agg (ledgerE l).toArray, vi n, .func (.func g) #[] #[.pointer (some ⟨c, 0, none⟩)]] (RMv c n (movL l n f) (movB l n f))) := by
 refine ⟨fun W l n g c f hgs hg => ?_⟩
 refine gENTO (vs := [_, _, _]) Tryz.func252 (fun S0 => ?_)
 repeat' first | refine ST ?_ | refine ST2 ?_ | intro _ | apply And.intro
 · exact rEX () (plS PU pl0) (by simp [movL, movB, *, ledgerE])
 · exact rEX () (plS PU pl0) (by simp [movL, movB, *, ledgerE])
 refine aRUN (oOP fun bs hb => ?_)
 obtain ⟨b1, b2, b3, rfl⟩ := len3 hb
 simp only [expT, expS, expC, List.getElem?_cons_zero, List.getElem?_cons_succ, List.cons_append, List.nil_append]
 refine oPV (d := 8) (b := b3) rfl (gNXT ?_)
 refine (aCX (inst := ⟨trivial⟩) (S := True) (hcon := fun _ w hw => hg w b3 l) (hp := plS PU (plS PU pl0)) (hc := by simp only [List.mem_cons, List.not_mem_nil, or_false] at hgs; rcases hgs with rfl | rfl | rfl | rfl | rfl <;> kernel_rfl) (k := fun x => oVP (d := 8) (b := b3) rfl ?_))
 repeat' first | refine ST ?_ | refine ST2 ?_ | intro _ | apply And.intro
 all_goals exact rEX () (plS PU pl0) (by simp [movL, movB, *, ledgerE])
instance iFree1_c : HC 253 (∀ (W : World) (b c : Nat) (n : Int) (x : Ledger),Sp W [ptC b 64 (ledgerE x), ptC c 3 [vi n]] 253 #[.pointer (some ⟨b, 0, none⟩), .pointer (some ⟨c, 0, none⟩)] (RLd b c n ⟨x.total, wr (x.free + n), x.held, wr (x.sold - n), x.tied⟩)) := by
 refine ⟨fun W b c n x => ?_⟩
 refine gENTO (vs := [_, _]) Tryz.func253 (fun S0 => cVP (d := 0) rfl (cVP (d := 1) rfl ?_))
 repeat' first | refine ST ?_ | refine ST2 ?_ | intro _ | apply And.intro
 all_goals exact rEX () (plS PU (plS PU pl0)) rfl
instance iSell1_c : HC 257 (∀ (W : World) (b c : Nat) (n : Int) (x : Ledger),Sp W [ptC b 64 (ledgerE x), ptC c 3 [vi n]] 257 #[.pointer (some ⟨b, 0, none⟩), .pointer (some ⟨c, 0, none⟩)] (RLd b c n ⟨x.total, x.free, wr (x.held - n), wr (x.sold + n), x.tied⟩)) := by
 refine ⟨fun W b c n x => ?_⟩
 refine gENTO (vs := [_, _]) Tryz.func257 (fun S0 => cVP (d := 0) rfl (cVP (d := 1) rfl ?_))
 repeat' first | refine ST ?_ | refine ST2 ?_ | intro _ | apply And.intro
 all_goals exact rEX () (plS PU (plS PU pl0)) rfl
instance iUntie1_c : HC 264 (∀ (W : World) (b c : Nat) (n : Int) (x : Ledger),Sp W [ptC b 64 (ledgerE x), ptC c 3 [vi n]] 264 #[.pointer (some ⟨b, 0, none⟩), .pointer (some ⟨c, 0, none⟩)] (RLd b c n ⟨x.total, x.free, x.held, x.sold, wr (x.tied - n)⟩)) := by
 refine ⟨fun W b c n x => ?_⟩
 refine gENTO (vs := [_, _]) Tryz.func264 (fun S0 => cVP (d := 0) rfl (cVP (d := 1) rfl ?_))
 repeat' first | refine ST ?_ | refine ST2 ?_ | intro _ | apply And.intro
 all_goals exact rEX () (plS PU (plS PU pl0)) rfl
instance iHold1_c : HC 296 (∀ (W : World) (b c : Nat) (n : Int) (x : Ledger),Sp W [ptC b 64 (ledgerE x), ptC c 3 [vi n]] 296 #[.pointer (some ⟨b, 0, none⟩), .pointer (some ⟨c, 0, none⟩)] (RLd b c n ⟨x.total, wr (x.free - n), wr (x.held + n), x.sold, x.tied⟩)) := by
 refine ⟨fun W b c n x => ?_⟩
 refine gENTO (vs := [_, _]) Tryz.func296 (fun S0 => cVP (d := 0) rfl (cVP (d := 1) rfl ?_))
 repeat' first | refine ST ?_ | refine ST2 ?_ | intro _ | apply And.intro
 all_goals exact rEX () (plS PU (plS PU pl0)) rfl
instance iDrop1_c : HC 323 (∀ (W : World) (b c : Nat) (n : Int) (x : Ledger),Sp W [ptC b 64 (ledgerE x), ptC c 3 [vi n]] 323 #[.pointer (some ⟨b, 0, none⟩), .pointer (some ⟨c, 0, none⟩)] (RLd b c n ⟨x.total, wr (x.free + n), wr (x.held - n), x.sold, x.tied⟩)) := by
 refine ⟨fun W b c n x => ?_⟩
 refine gENTO (vs := [_, _]) Tryz.func323 (fun S0 => cVP (d := 0) rfl (cVP (d := 1) rfl ?_))
 repeat' first | refine ST ?_ | refine ST2 ?_ | intro _ | apply And.intro
 all_goals exact rEX () (plS PU (plS PU pl0)) rfl
theorem movL_eq {l : Ledger} {n a b c d : Int} {f : Ledger → Ledger} (h : LP l → 0 ≤ n ∧ n ≤ 60 → f l = mvL l a b c d) : movL l n f = movedL l n a b c d := by
 unfold movL movB movedL movedB
 by_cases h1 : ledgerOk l = true
 · by_cases h2 : inB n 0 60 = true
   · rw [h (ledgerOk_iff.1 h1) (by simpa [inB] using h2)]
   · simp [h2]
 · simp [h1]
theorem mov_Free (l : Ledger) (n : Int) : movL l n (fun x => ⟨x.total, wr (x.free + n), x.held, wr (x.sold - n), x.tied⟩) = lFree l n := movL_eq fun h hn => by
 have a1 := h.total; have a2 := h.free; have a3 := h.held; have a4 := h.sold; have a5 := h.sum; have a6 := h.tied
 have e1 : wr l.free = l.free := wr_of (by omega) (by omega)
 have e2 : wr l.held = l.held := wr_of (by omega) (by omega)
 have e3 : wr l.sold = l.sold := wr_of (by omega) (by omega)
 have e4 : wr l.tied = l.tied := wr_of (by omega) (by omega)
 simp only [mvL, Int.add_zero, ← Int.sub_eq_add_neg, e1, e2, e3, e4]
instance iFree_c : HC 153 (∀ (W : World) (l : Ledger) (n : Int),Sp W [] 153 #[.agg (ledgerE l).toArray, vi n] (RT2 (RV (.agg (ledgerE (lFree l n)).toArray)) RBo)) := by
 refine ⟨fun W l n => gENT (vs := [_, _]) Tryz.func153 ?_⟩
 repeat' first | refine ST ?_ | refine ST2 ?_ | intro _ | apply And.intro
 refine tOP fun bs hb => ?_
 obtain ⟨b1, b2, b3, rfl⟩ := len3 hb
 simp only [expT, expS, expC, List.getElem?_cons_zero, List.getElem?_cons_succ, List.cons_append, List.nil_append]
 repeat' first | refine ST ?_ | refine ST2 ?_ | intro _ | apply And.intro
 refine aCX (hcon := by intro c w hw; exact c w l n _ b2 (fun x => ⟨x.total, wr (x.free + n), x.held, wr (x.sold - n), x.tied⟩) (by simp) (fun w b x => iFree1_c.pf w b b2 n x)) (hp := plS PU pl0) (k := fun x => ?_)
 repeat' first | refine ST ?_ | refine ST2 ?_ | intro _ | apply And.intro
 all_goals first | trivial | (rw [mov_Free]; rfl)
theorem mov_Sell (l : Ledger) (n : Int) : movL l n (fun x => ⟨x.total, x.free, wr (x.held - n), wr (x.sold + n), x.tied⟩) = lSell l n := movL_eq fun h hn => by
 have a1 := h.total; have a2 := h.free; have a3 := h.held; have a4 := h.sold; have a5 := h.sum; have a6 := h.tied
 have e1 : wr l.free = l.free := wr_of (by omega) (by omega)
 have e2 : wr l.held = l.held := wr_of (by omega) (by omega)
 have e3 : wr l.sold = l.sold := wr_of (by omega) (by omega)
 have e4 : wr l.tied = l.tied := wr_of (by omega) (by omega)
 simp only [mvL, Int.add_zero, ← Int.sub_eq_add_neg, e1, e2, e3, e4]
instance iSell_c : HC 166 (∀ (W : World) (l : Ledger) (n : Int),Sp W [] 166 #[.agg (ledgerE l).toArray, vi n] (RT2 (RV (.agg (ledgerE (lSell l n)).toArray)) RBo)) := by
 refine ⟨fun W l n => gENT (vs := [_, _]) Tryz.func166 ?_⟩
 repeat' first | refine ST ?_ | refine ST2 ?_ | intro _ | apply And.intro
 refine tOP fun bs hb => ?_
 obtain ⟨b1, b2, b3, rfl⟩ := len3 hb
 simp only [expT, expS, expC, List.getElem?_cons_zero, List.getElem?_cons_succ, List.cons_append, List.nil_append]
 repeat' first | refine ST ?_ | refine ST2 ?_ | intro _ | apply And.intro
 refine aCX (hcon := by intro c w hw; exact c w l n _ b2 (fun x => ⟨x.total, x.free, wr (x.held - n), wr (x.sold + n), x.tied⟩) (by simp) (fun w b x => iSell1_c.pf w b b2 n x)) (hp := plS PU pl0) (k := fun x => ?_)
 repeat' first | refine ST ?_ | refine ST2 ?_ | intro _ | apply And.intro
 all_goals first | trivial | (rw [mov_Sell]; rfl)
theorem mov_Untie (l : Ledger) (n : Int) : movL l n (fun x => ⟨x.total, x.free, x.held, x.sold, wr (x.tied - n)⟩) = lUntie l n := movL_eq fun h hn => by
 have a1 := h.total; have a2 := h.free; have a3 := h.held; have a4 := h.sold; have a5 := h.sum; have a6 := h.tied
 have e1 : wr l.free = l.free := wr_of (by omega) (by omega)
 have e2 : wr l.held = l.held := wr_of (by omega) (by omega)
 have e3 : wr l.sold = l.sold := wr_of (by omega) (by omega)
 have e4 : wr l.tied = l.tied := wr_of (by omega) (by omega)
 simp only [mvL, Int.add_zero, ← Int.sub_eq_add_neg, e1, e2, e3, e4]
instance iUntie_c : HC 169 (∀ (W : World) (l : Ledger) (n : Int),Sp W [] 169 #[.agg (ledgerE l).toArray, vi n] (RT2 (RV (.agg (ledgerE (lUntie l n)).toArray)) RBo)) := by
 refine ⟨fun W l n => gENT (vs := [_, _]) Tryz.func169 ?_⟩
 repeat' first | refine ST ?_ | refine ST2 ?_ | intro _ | apply And.intro
 refine tOP fun bs hb => ?_
 obtain ⟨b1, b2, b3, rfl⟩ := len3 hb
 simp only [expT, expS, expC, List.getElem?_cons_zero, List.getElem?_cons_succ, List.cons_append, List.nil_append]
 repeat' first | refine ST ?_ | refine ST2 ?_ | intro _ | apply And.intro
 refine aCX (hcon := by intro c w hw; exact c w l n _ b2 (fun x => ⟨x.total, x.free, x.held, x.sold, wr (x.tied - n)⟩) (by simp) (fun w b x => iUntie1_c.pf w b b2 n x)) (hp := plS PU pl0) (k := fun x => ?_)
 repeat' first | refine ST ?_ | refine ST2 ?_ | intro _ | apply And.intro
 all_goals first | trivial | (rw [mov_Untie]; rfl)
theorem mov_Hold (l : Ledger) (n : Int) : movL l n (fun x => ⟨x.total, wr (x.free - n), wr (x.held + n), x.sold, x.tied⟩) = lHold l n := movL_eq fun h hn => by
 have a1 := h.total; have a2 := h.free; have a3 := h.held; have a4 := h.sold; have a5 := h.sum; have a6 := h.tied
 have e1 : wr l.free = l.free := wr_of (by omega) (by omega)
 have e2 : wr l.held = l.held := wr_of (by omega) (by omega)
 have e3 : wr l.sold = l.sold := wr_of (by omega) (by omega)
 have e4 : wr l.tied = l.tied := wr_of (by omega) (by omega)
 simp only [mvL, Int.add_zero, ← Int.sub_eq_add_neg, e1, e2, e3, e4]
instance iHold_c : HC 206 (∀ (W : World) (l : Ledger) (n : Int),Sp W [] 206 #[.agg (ledgerE l).toArray, vi n] (RT2 (RV (.agg (ledgerE (lHold l n)).toArray)) RBo)) := by
 refine ⟨fun W l n => gENT (vs := [_, _]) Tryz.func206 ?_⟩
 repeat' first | refine ST ?_ | refine ST2 ?_ | intro _ | apply And.intro
 refine tOP fun bs hb => ?_
 obtain ⟨b1, b2, b3, rfl⟩ := len3 hb
 simp only [expT, expS, expC, List.getElem?_cons_zero, List.getElem?_cons_succ, List.cons_append, List.nil_append]
 repeat' first | refine ST ?_ | refine ST2 ?_ | intro _ | apply And.intro
 refine aCX (hcon := by intro c w hw; exact c w l n _ b2 (fun x => ⟨x.total, wr (x.free - n), wr (x.held + n), x.sold, x.tied⟩) (by simp) (fun w b x => iHold1_c.pf w b b2 n x)) (hp := plS PU pl0) (k := fun x => ?_)
 repeat' first | refine ST ?_ | refine ST2 ?_ | intro _ | apply And.intro
 all_goals first | trivial | (rw [mov_Hold]; rfl)
theorem mov_Drop (l : Ledger) (n : Int) : movL l n (fun x => ⟨x.total, wr (x.free + n), wr (x.held - n), x.sold, x.tied⟩) = lDrop l n := movL_eq fun h hn => by
 have a1 := h.total; have a2 := h.free; have a3 := h.held; have a4 := h.sold; have a5 := h.sum; have a6 := h.tied
 have e1 : wr l.free = l.free := wr_of (by omega) (by omega)
 have e2 : wr l.held = l.held := wr_of (by omega) (by omega)
 have e3 : wr l.sold = l.sold := wr_of (by omega) (by omega)
 have e4 : wr l.tied = l.tied := wr_of (by omega) (by omega)
 simp only [mvL, Int.add_zero, ← Int.sub_eq_add_neg, e1, e2, e3, e4]
instance iDrop_c : HC 234 (∀ (W : World) (l : Ledger) (n : Int),Sp W [] 234 #[.agg (ledgerE l).toArray, vi n] (RT2 (RV (.agg (ledgerE (lDrop l n)).toArray)) RBo)) := by
 refine ⟨fun W l n => gENT (vs := [_, _]) Tryz.func234 ?_⟩
 repeat' first | refine ST ?_ | refine ST2 ?_ | intro _ | apply And.intro
 refine tOP fun bs hb => ?_
 obtain ⟨b1, b2, b3, rfl⟩ := len3 hb
 simp only [expT, expS, expC, List.getElem?_cons_zero, List.getElem?_cons_succ, List.cons_append, List.nil_append]
 repeat' first | refine ST ?_ | refine ST2 ?_ | intro _ | apply And.intro
 refine aCX (hcon := by intro c w hw; exact c w l n _ b2 (fun x => ⟨x.total, wr (x.free + n), wr (x.held - n), x.sold, x.tied⟩) (by simp) (fun w b x => iDrop1_c.pf w b b2 n x)) (hp := plS PU pl0) (k := fun x => ?_)
 repeat' first | refine ST ?_ | refine ST2 ?_ | intro _ | apply And.intro
 all_goals first | trivial | (rw [mov_Drop]; rfl)
instance hEntryLess_c : HC 319 (∀ (W : World) (a b : Entry),Sp W [] 319 #[.agg (entryE a).toArray, .agg (entryE b).toArray] (RV (.bool (entryLess a b)))) := by
 refine ⟨fun W a b => gENT (vs := [_, _]) Tryz.func319 ?_⟩
 repeat' first | refine ST ?_ | intro _ | apply And.intro
 all_goals simp only [cmpEntry_lt]
instance hPinOk_c : HC 260 (∀ (W : World) (p : Pin),Sp W [] 260 #[.agg (pinE p).toArray] (RV (.bool (pinRB p)))) := by
 refine ⟨fun W p => gENT (vs := [_]) Tryz.func260 ?_⟩
 repeat' first | refine ST ?_ | intro _ | apply And.intro
 all_goals simp [pinRB, *]
instance hasInt_c : HC 92 (∀ (W : World) (list : List Int) (v : Value) (x : Int), Rs intL W v list →Sp W [] 92 #[v, vi x] (RV (.bool (list.any (fun e => e == x))))) := by
 refine ⟨fun W list v x ⟨a, c, e, hc, hr⟩ => ?_⟩
 subst e
 refine gENT (vs := [_, _]) Tryz.func92 ?_
 repeat' first | refine ST ?_ | intro _ | apply And.intro
 all_goals exact idxF_any (fun e : Int => e == x) list
instance iQAt1_c : HC 355 (∀ (W : World) (b : Nat) (id : Int) (e : Entry), ElemAt W (some ⟨b, 0, none⟩) 0 [vi id] →Sp W [] 355 #[.agg (entryE e).toArray, .pointer (some ⟨b, 0, none⟩)] (RV (.bool (e.id == id)))) := by
 refine ⟨fun W b id e he => ?_⟩
 refine gENT (vs := [_, _]) Tryz.func355 (cVP (d := 1) rfl ?_)
 repeat' first | refine ST ?_ | refine ST2 ?_ | intro _ | apply And.intro
 all_goals rfl
instance iQAtIx_c : HC 353 (∀ (W : World) (list : List Entry) (v : Value) (b : Nat) (id : Int), Rs entryL W v list → ElemAt W (some ⟨b, 0, none⟩) 0 [vi id] →Sp W [] 353 #[v, .func (.func 355) #[] #[.pointer (some ⟨b, 0, none⟩)]] (RV (vi (idxF (fun e : Entry => e.id == id) list 0)))) := by
 refine ⟨fun W list v b id ⟨a, c, e, hc, hr⟩ he => ?_⟩
 subst e; have hl := hr.len
 refine gENT (vs := [_, _]) Tryz.func353 ?_
 repeat' first | refine ST ?_ | refine ST2 ?_ | intro _ | apply And.intro
 refine gFOR 8 list.length (fun k => idxF (fun e : Entry => e.id == id) list 0 = idxF (fun e : Entry => e.id == id) (list.drop k) k) rfl fun k hk hv => ?_
 repeat' first | refine ST ?_ | refine ST2 ?_ | intro _ | apply And.intro
 · refine aCV (hcon := by intro c w hw; exact c w b id list[k] (ElemAt.fr he hw.fr)) (k := ?_)
   repeat' first | refine ST ?_ | refine ST2 ?_ | intro _ | apply And.intro
   all_goals grind [idxF, List.drop_eq_getElem_cons]
 all_goals grind [idxF]
instance hQueueAt_c : HC 297 (∀ (W : World) (list : List Entry) (v : Value) (id : Int), Rs entryL W v list →Sp W [] 297 #[v, vi id] (RV (vi (queueAt list id 0)))) := by
 refine ⟨fun W list v id hl => ?_⟩
 have hl1 := hl; obtain ⟨a, c, rfl, hc, hr⟩ := hl; rw [queueAt_idx]
 refine gENT (vs := [_, _]) Tryz.func297 ?_
 repeat' first | refine ST ?_ | refine ST2 ?_ | intro _ | apply And.intro
 refine tOP fun bs hb => ?_
 obtain ⟨b1, rfl⟩ : ∃ b, bs = [b] := by match bs, hb with | [b], _ => exact ⟨b, rfl⟩
 simp only [expT, expS, expC, List.getElem?_cons_zero, List.getElem?_cons_succ, List.cons_append, List.nil_append]
 repeat' first | refine ST ?_ | refine ST2 ?_ | intro _ | apply And.intro
 refine aCV (hcon := by intro c w hw; exact c w list _ b1 id (hl1.fr hw.fr) (ptC_elem (hw.own 0 rfl))) (k := ?_)
 repeat' first | refine ST ?_ | refine ST2 ?_ | intro _ | apply And.intro
 all_goals first | rfl | trace_state
instance iPAt1_c : HC 256 (∀ (W : World) (b : Nat) (id : Int) (x : Party), ElemAt W (some ⟨b, 0, none⟩) 0 [vi id] →Sp W [] 256 #[.agg (partyE x).toArray, .pointer (some ⟨b, 0, none⟩)] (RV (.bool (x.id == id)))) := by
 refine ⟨fun W b id e he => ?_⟩
 refine gENT (vs := [_, _]) Tryz.func256 (cVP (d := 1) rfl ?_)
 repeat' first | refine ST ?_ | refine ST2 ?_ | intro _ | apply And.intro
 all_goals rfl
instance iPAtIx_c : HC 239 (∀ (W : World) (list : List Party) (v : Value) (b : Nat) (id : Int), Rs partyL W v list → ElemAt W (some ⟨b, 0, none⟩) 0 [vi id] →Sp W [] 239 #[v, .func (.func 256) #[] #[.pointer (some ⟨b, 0, none⟩)]] (RV (vi (idxF (fun x : Party => x.id == id) list 0)))) := by
 refine ⟨fun W list v b id ⟨a, c, e, hc, hr⟩ he => ?_⟩
 subst e; have hl := hr.len
 refine gENT (vs := [_, _]) Tryz.func239 ?_
 repeat' first | refine ST ?_ | refine ST2 ?_ | intro _ | apply And.intro
 refine gFOR 8 list.length (fun k => idxF (fun x : Party => x.id == id) list 0 = idxF (fun x : Party => x.id == id) (list.drop k) k) rfl fun k hk hv => ?_
 repeat' first | refine ST ?_ | refine ST2 ?_ | intro _ | apply And.intro
 · refine aCV (hcon := by intro c w hw; exact c w b id list[k] (ElemAt.fr he hw.fr)) (k := ?_)
   repeat' first | refine ST ?_ | refine ST2 ?_ | intro _ | apply And.intro
   all_goals grind [idxF, List.drop_eq_getElem_cons]
 all_goals grind [idxF]
instance hpartyAt_c : HC 165 (∀ (W : World) (list : List Party) (v : Value) (id : Int), Rs partyL W v list →Sp W [] 165 #[v, vi id] (RV (vi (atId list id)))) := by
 refine ⟨fun W list v id hl => ?_⟩
 have hl1 := hl; obtain ⟨a, c, rfl, hc, hr⟩ := hl
 refine gENT (vs := [_, _]) Tryz.func165 ?_
 repeat' first | refine ST ?_ | refine ST2 ?_ | intro _ | apply And.intro
 refine tOP fun bs hb => ?_
 obtain ⟨b1, rfl⟩ : ∃ b, bs = [b] := by match bs, hb with | [b], _ => exact ⟨b, rfl⟩
 simp only [expT, expS, expC, List.getElem?_cons_zero, List.getElem?_cons_succ, List.cons_append, List.nil_append]
 repeat' first | refine ST ?_ | refine ST2 ?_ | intro _ | apply And.intro
 refine aCV (hcon := by intro c w hw; exact c w list _ b1 id (hl1.fr hw.fr) (ptC_elem (hw.own 0 rfl))) (k := ?_)
 repeat' first | refine ST ?_ | refine ST2 ?_ | intro _ | apply And.intro
 all_goals first | rfl | trace_state
instance hPartyAt_c : HC 69 (∀ (W : World) (cs : List Value) (h : House) (id : Int), HsR W cs h →Sp W [] 69 #[.agg cs.toArray, vi id] (RV (vi (atId h.parties id)))) := by
 refine ⟨fun W cs h id hh => ?_⟩
 obtain ⟨a1, c1, a2, c2, a3, c3, a4, c4, a5, c5, rfl, h1, h2, h3, h4, h5, h6, h7, h8, h9, h10⟩ := hh
 refine gENT (vs := [_, _]) Tryz.func69 ?_
 repeat' first | refine ST ?_ | refine ST2 ?_ | intro _ | apply And.intro
 all_goals first | rfl | trace_state
theorem queueAt_take {l : List Entry} {k : Nat} (h : k < l.length) : (queueAt l l[k].id 0 == (k : Int)) = !decide (queueAt (l.take k) l[k].id 0 ≥ 0) := by
 rw [Bool.eq_iff_iff, beq_iff_eq, queueAt_at (List.getElem?_eq_getElem h), Bool.not_eq_true', decide_eq_false_iff_not]
 refine ⟨fun h1 h2 => ?_, fun h1 => queueAt_n h1⟩
 obtain ⟨j, e, h3, h4, h5⟩ := queueAt_t h2
 exact h1 j e h3 h4 h5
instance hQueueOk_c : HC 321 (∀ (W : World) (list : List Entry) (v : Value), Rs entryL W v list →Sp W [] 321 #[v] (RV (.bool (queueOk list)))) := by
 refine ⟨fun W list v ⟨a, c, e, hc, hr⟩ => ?_⟩
 subst e; have hl := hr.len; rw [queueOk_go]
 refine gENT (vs := [_]) Tryz.func321 ?_
 repeat' first | refine ST ?_ | refine ST2 ?_ | intro _ | apply And.intro
 · simp; omega
 refine gFOR 10 list.length (fun k => qGo list 0 = qGo list k) rfl fun k hk hv => ?_
 have w1 : 0 < k → IntKind.wrap .i64 ((k : Int) - 1) = (k : Int) - 1 := fun _ => wrap_of (by omega) (by omega)
 repeat' first | refine ST ?_ | refine ST2 ?_ | intro _ | apply And.intro
 all_goals try simp only [show wr (5 - 1) = 4 from rfl] at *
 all_goals try (have w3 := w1 ‹0 < k›; have w2 : ((k : Int) - 1).toNat = k - 1 := by omega
                simp only [w3, w2] at *)
 all_goals first | (rw [hv, qGo, dif_pos ‹_›, eOk, queueAt_take ‹_›]; grind) | (rw [hv, qGo, dif_neg ‹_›]; simp; omega) | trace_state
theorem pinOk_c (W : World) (p : Pin) : Spec Tryz.prog W [] 260 #[.agg #[vi p.at', vi p.id]] (RV (.bool (inB (p).at' 1 1000008 && inB (p).id 1 999))) := hPinOk_c.pf W p
theorem pcmpPin_c (W : World) (a : Pin) (b : Pin) : Spec Tryz.prog W [] 301 #[.agg #[vi a.at', vi a.id], .agg #[vi b.at', vi b.id]] (RV (vi (cmpPin a b))) := cmpPin_c.pf W a b
theorem pcmpEntry_c (W : World) (a : Entry) (b : Entry) : Spec Tryz.prog W [] 267 #[.agg #[vi a.level, vi a.turn, vi a.id, vi a.size], .agg #[vi b.level, vi b.turn, vi b.id, vi b.size]] (RV (vi (cmpEntry a b))) := cmpEntry_c.pf W a b
end SX
end Go.Proofs.YtejojcoaohlfbaaGreat
