/- A house that settles. -/
import Derived.Test.YtejojcoaohlfbaaGreatAU
import Derived.Test.YtejojcoaohlfbaaGreatAN
import Derived.Test.YtejojcoaohlfbaaGreatLC
import Derived.Test.YtejojcoaohlfbaaGreatCD
import Derived.Test.YtejojcoaohlfbaaGreatCE
import Derived.Test.YtejojcoaohlfbaaGreatBQ
import Derived.Test.YtejojcoaohlfbaaGreatAZ
import Derived.Test.YtejojcoaohlfbaaGreatJAZ
namespace Go.Proofs.YtejojcoaohlfbaaGreat
namespace SX
open Go Go.RowKit
set_option linter.unusedVariables false
set_option linter.unusedSimpArgs false
set_option maxRecDepth 10000
set_option maxHeartbeats 1000000
attribute [local irreducible] CD DN OPL AT QL QT CND RETG BKP HL HT HO slA slHo slP ptC pull pulls
set_option maxHeartbeats 8000000
instance iMovedT_c : HC 252 (∀ (W : World) (l : Ledger) (n : Int) (g c : Nat) (f : Ledger → Ledger), g ∈ [322] → (∀ (w : World) (b : Nat) (x : Ledger), Sp w [ptC b 64 (ledgerE x), ptC c 3 [vi n]] g #[.pointer (some ⟨b, 0, none⟩), .pointer (some ⟨c, 0, none⟩)] (RLd b c n (f x))) →Sp W [ptC c 3 [vi n]] 252 #[.agg (ledgerE l).toArray, vi n, .func (.func g) #[] #[.pointer (some ⟨c, 0, none⟩)]] (RMv c n (movL l n f) (movB l n f))) := by
 refine ⟨fun W l n g c f hgs hg => ?_⟩
 refine gENTO (vs := [_, _, _]) Tryz.func252 (fun S0 => ?_)
 repeat' first | refine ST ?_ | refine ST2 ?_ | intro _ | apply And.intro
 · exact rEX () (plS PU pl0) (by simp [movL, movB, *, ledgerE])
 · exact rEX () (plS PU pl0) (by simp [movL, movB, *, ledgerE])
 refine aRUN (oOP fun bs hb => ?_)
 obtain ⟨b1, b2, b3, rfl⟩ := len3 hb
 simp only [expT, expS, expC, List.getElem?_cons_zero, List.getElem?_cons_succ, List.cons_append, List.nil_append]
 refine oPV (d := 8) (b := b3) rfl (gNXT ?_)
 refine (aCX (inst := ⟨trivial⟩) (S := True) (hcon := fun _ w hw => hg w b3 l) (hp := plS PU (plS PU pl0)) (hc := by simp only [List.mem_cons, List.not_mem_nil, or_false] at hgs; rcases hgs with rfl; kernel_rfl) (k := fun x => oVP (d := 8) (b := b3) rfl ?_))
 repeat' first | refine ST ?_ | refine ST2 ?_ | intro _ | apply And.intro
 all_goals exact rEX () (plS PU pl0) (by simp [movL, movB, *, ledgerE])
theorem freeE {h : House} {cabin n : Int} (hk : cabin.toNat < h.cabins.length) : freeM h cabin n = ⟨h.rules, h.now, h.turn, h.parties, h.cabins.set cabin.toNat ⟨lFree (h.cabins[cabin.toNat]'hk).seats n, (h.cabins[cabin.toNat]'hk).row, (h.cabins[cabin.toNat]'hk).wheel⟩, todoPut h.todo cabin, h.jobs⟩ := by
 rw [freeM, modC_of _ (List.getElem?_eq_getElem hk)]; rfl
instance iFreeSeats_c : HC 58 (∀ (W : World) (cs : List Value) (h : House) (cabin n : Int), HsR W cs h → HouseSz h →Sp W [] 58 #[.agg cs.toArray, vi cabin, vi n] (RT2 (RHs (doM h ⟨3, 0, cabin, 0, n, 0⟩)) (RV (vi (verdict h ⟨3, 0, cabin, 0, n, 0⟩))))) := by
 refine ⟨fun W cs h cabin n hh hsz => ?_⟩
 have hh1 := hh; obtain ⟨a1, c1, a2, c2, a3, c3, a4, c4, a5, c5, rfl, h1, h2, h3, h4, h5, h6, h7, h8, h9, h10⟩ := hh
 refine gENT (vs := [_, _, _]) Tryz.func58 ?_
 have hp9 := hsz.2.1; have ht9 := hsz.2.2.2.1
 have hsb : ∀ c ∈ h.cabins, c.wheel.spoke.flatten.length ≤ 1048576 := fun c hc => (hsz.2.2.2.2.2 c hc).2.2
 by_cases hv : verdict h ⟨3, 0, cabin, 0, n, 0⟩ = 0
 · obtain ⟨hR, hc0, hc1⟩ := doneV rfl rfl hv
   have hd : doM h ⟨3, 0, cabin, 0, n, 0⟩ = freeM h cabin n := by rw [doM, if_pos hv]; rfl
   rw [hd, freeE (by omega)]
   repeat' first | refine ST ?_ | refine ST2 ?_ | intro _ | apply And.intro
   all_goals first | exact absurd hv ‹verdict h _ ≠ 0› | exact hv.symm | rfl | (exfalso; omega)
 · repeat' first | refine ST ?_ | refine ST2 ?_ | intro _ | apply And.intro
   all_goals first | (rw [doM, if_neg hv]; done) | exact absurd ‹_› hv | rfl
set_option maxHeartbeats 1000000
instance zcr : HC 155 (∀ (W : World) (cs : List Value) (h : House), HsR W cs h → HouseSz h →Sp W [] 155 #[.agg cs.toArray] (RT2 (RHs (zd h).1) (RO 3 intL (zd h).2))) := by
 refine ⟨fun W cs h hh hsz => ?_⟩
 have hh1 := hh; obtain ⟨a1, c1, a2, c2, a3, c3, a4, c4, a5, c5, rfl, h1, h2, h3, h4, h5, h6, h7, h8, h9, h10⟩ := hh
 have hp9 := hsz.2.1
 have hsb : ∀ c ∈ h.cabins, c.wheel.spoke.flatten.length ≤ 1048576 := fun c hc => (hsz.2.2.2.2.2 c hc).2.2
 refine gENT (vs := [_]) Tryz.func155 (gNILN 3 intL ?_)
 by_cases hok : houseOk h = true
 · have hR := houseP_iff.1 (houseP_of hok)
   have hac : zd h = (zo h.now h.parties h, zg h.now h.parties) := if_pos hok
   repeat' first | refine ST ?_ | intro _ | apply And.intro
   · exact absurd (‹houseOk h = false›.symm.trans hok) (by decide)
   · exact absurd (‹houseOk h = false›.symm.trans hok) (by decide)
   rename_i q1 hx0
   refine gFORG 17 h.parties.length (fun q : House × H5 × HH × List Int => [(5, .v (.slice q.2.2.1.1 q.2.2.2.length q.2.2.1.2))]) [(2, fun q => hCl q.1 q.2.1)] (fun q => hOs q.1 q.2.1 ++ [slA 3 intL (.slice q.2.2.1.1 q.2.2.2.length q.2.2.1.2) q.2.2.2]) (fun k q => HRep q.1 ∧ q.1 = zo h.now (h.parties.take k) h ∧ q.2.2.2 = zg h.now (h.parties.take k)) (h, q1, (none, 0), []) (h0 := ⟨hR, rfl, rfl⟩) (body := fun k q hk hi => ?_)
   obtain ⟨x, ⟨⟨b1, d1⟩, ⟨b2, d2⟩, ⟨b3, d3⟩, ⟨b4, d4⟩, b5, d5⟩, ⟨e, f⟩, ys⟩ := q
   obtain ⟨i1, i2, i3⟩ : HRep x ∧ x = zo h.now (h.parties.take k) h ∧ ys = zg h.now (h.parties.take k) := hi
   have hsx := i1.sz
   have hyl : ys.length ≤ k := by rw [i3]; exact Nat.le_trans (zS _ _) (List.length_take_le _ _)
   by_cases hkl : k < h.parties.length
   · have e1 := zaE (now := h.now) (x := h) hkl
     have e2 := zau (now := h.now) hkl
     rw [← i2] at e1
     rw [← i3] at e2
     unfold zm at e1
     by_cases hc : (h.parties[k].state == 2 && !dueB h.parties[k] h.now) = true
     · rw [if_pos hc] at e1 e2
       repeat' first | refine ST ?_ | intro _ | apply And.intro
       all_goals first
        | (exfalso; have hd := ‹dueB h.parties[k] h.now = true›; rw [hd] at hc; simp at hc; done)
        | (exfalso; simp_all; done)
        | (rename_i x9 e8 he8 e9 c9 hn9
           refine gGBACK (doM x ⟨4, h.parties[k].id, 0, 0, 0, 0⟩, x9.1, (e9, c9), ys ++ [h.parties[k].id]) hkl (hLx := by rfl) (h := ?_)
           exact ⟨do_hp i1, e1.symm, e2.symm⟩)
     · rw [if_neg hc] at e1 e2
       repeat' first | refine ST ?_ | intro _ | apply And.intro
       all_goals first
        | (exfalso; apply hc; have hd := ‹dueB h.parties[k] h.now = false›; have hd2 := ‹h.parties[k].state = 2›; rw [hd, hd2]; rfl)
        | (refine gGBACK (x, ((b1, d1), (b2, d2), (b3, d3), (b4, d4), b5, d5), (e, f), ys) hkl (hLx := by rfl) (h := ?_)
           exact ⟨i1, e1.symm, e2.symm⟩)
        | (exfalso; simp_all; done)
   · rw [List.take_of_length_le (by omega)] at i2 i3
     repeat' first | refine ST ?_ | intro _ | apply And.intro
     all_goals first | (exfalso; omega) | (rw [hac]; exact i2) | (rw [hac]; exact i3)
 · have hac : zd h = (h, []) := if_neg hok
   repeat' first | refine ST ?_ | intro _ | apply And.intro
   all_goals first | exact absurd ‹houseOk h = true› hok | (rw [hac]; done) | (rw [hac]; rfl)
def zh (most : Int) : Nat := (min (max most 0) 20).toNat
noncomputable def zb (h : House) (most : Int) : House × List Int := if houseOk h then za (zh most) h [] else (h, [])
theorem zam {n : Nat} {h : House} {l : List Int} (hi : (zd (drained h)).2 = []) : za (n + 1) h l = ((zd (drained h)).1, l) := by simp only [za]; rw [if_pos hi]
theorem zaZ {n : Nat} {h : House} {l : List Int} (hi : (zd (drained h)).2 ≠ []) : za (n + 1) h l = za n (zd (drained h)).1 (l ++ (zd (drained h)).2) := by
 have e : za (n + 1) h l = if (zd (drained h)).2 = [] then ((zd (drained h)).1, l) else za n (zd (drained h)).1 (l ++ (zd (drained h)).2) := by simp only [za]
 rw [e, if_neg hi]
theorem zaV (h : House) (hs : HouseSz h) : (zd h).2.length ≤ 1048576 := by
 by_cases hok : houseOk h = true
 · have hac : zd h = (zo h.now h.parties h, zg h.now h.parties) := if_pos hok
   rw [hac]
   exact Nat.le_trans (zS _ _) hs.2.1
 · have hac : zd h = (h, []) := if_neg hok
   rw [hac]; simp
instance zcX : HC 154 (∀ (W : World) (a b c : Int),Sp W [] 154 #[vi a, vi b, vi c] (RV (vi (min (max a b) c)))) := by
 refine ⟨fun W a b c => gENT (vs := [_, _, _]) Tryz.func154 ?_⟩
 repeat' first | refine ST ?_ | intro _ | apply And.intro
 all_goals first | rfl | (split <;> split <;> omega) | (split <;> omega)
end SX
end Go.Proofs.YtejojcoaohlfbaaGreat
