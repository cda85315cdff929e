/- Texts of this claim, put together by program. -/
import Derived.Test.YtejojcoaohlfbaaGreatBP
import Derived.Test.YtejojcoaohlfbaaGreatAP
import Derived.Test.YtejojcoaohlfbaaGreatAQ
namespace Go.Proofs.YtejojcoaohlfbaaGreat
namespace SX
open Go Go.RowKit
set_option linter.unusedVariables false
set_option linter.unusedSimpArgs false
set_option maxRecDepth 10000
set_option maxHeartbeats 1000000
attribute [local irreducible] CD DN OPL AT QL QT CND RETG BKP HL HT HO slA slHo slP ptC pull pulls
instance iFit1_c : HC 354 (∀ (W : World) (b d : Nat) (free : Int) (skip : List Int) (u : Value) (e : Entry), ElemAt W (some ⟨b, 0, none⟩) 0 [vi free] → ElemAt W (some ⟨d, 0, none⟩) 0 [u] → Rs intL W u skip →Sp W [] 354 #[.agg (entryE e).toArray, .pointer (some ⟨b, 0, none⟩), .pointer (some ⟨d, 0, none⟩)] (RV (.bool (fitE free skip e)))) := by
 refine ⟨fun W b d free skip u e hb hd hs => ?_⟩
 obtain ⟨a, c, rfl, hc, hr⟩ := hs
 refine gENT (vs := [_, _, _]) Tryz.func354 (cVP (d := 1) rfl (cVP (d := 2) rfl ?_))
 repeat' first | refine ST ?_ | refine ST2 ?_ | intro _ | apply And.intro
 all_goals first | (simp [fitE, *]; done) | grind [fitE] | trace_state
instance iFitIx_c : HC 353 (∀ (W : World) (list : List Entry) (v : Value) (b d : Nat) (free : Int) (skip : List Int) (u : Value), Rs entryL W v list → ElemAt W (some ⟨b, 0, none⟩) 0 [vi free] → ElemAt W (some ⟨d, 0, none⟩) 0 [u] → Rs intL W u skip →Sp W [] 353 #[v, .func (.func 354) #[] #[.pointer (some ⟨b, 0, none⟩), .pointer (some ⟨d, 0, none⟩)]] (RV (vi (idxF (fitE free skip) list 0)))) := by
 refine ⟨fun W list v b d free skip u ⟨a, c, e, hc, hr⟩ hb hd hs => ?_⟩
 subst e; have hl := hr.len
 refine gENT (vs := [_, _]) Tryz.func353 ?_
 repeat' first | refine ST ?_ | refine ST2 ?_ | intro _ | apply And.intro
 refine gFOR 8 list.length (fun k => idxF (fitE free skip) list 0 = idxF (fitE free skip) (list.drop k) k) rfl fun k hk hv => ?_
 repeat' first | refine ST ?_ | refine ST2 ?_ | intro _ | apply And.intro
 · refine aCV (hcon := by intro c w hw; exact c w b d free skip u list[k] (ElemAt.fr hb hw.fr) (ElemAt.fr hd hw.fr) (hs.fr hw.fr)) (k := ?_)
   repeat' first | refine ST ?_ | refine ST2 ?_ | intro _ | apply And.intro
   all_goals grind [idxF, List.drop_eq_getElem_cons]
 all_goals grind [idxF]
instance iFirstFit_c : HC 295 (∀ (W : World) (list : List Entry) (v : Value) (free : Int) (skip : List Int) (u : Value), Rs entryL W v list → Rs intL W u skip →Sp W [] 295 #[v, vi free, u] (RV (vi (firstFit list free skip)))) := by
 refine ⟨fun W list v free skip u hl hs => ?_⟩
 have hl1 := hl; have hs1 := hs
 obtain ⟨a, c, rfl, hc, hr⟩ := hl; obtain ⟨a2, c2, rfl, hc2, hr2⟩ := hs
 refine gENT (vs := [_, _, _]) Tryz.func295 ?_
 repeat' first | refine ST ?_ | refine ST2 ?_ | intro _ | apply And.intro
 refine tOP fun bs hb => ?_
 obtain ⟨b1, b2, rfl⟩ := len2 hb
 simp only [expT, expS, expC, List.getElem?_cons_zero, List.getElem?_cons_succ, List.cons_append, List.nil_append]
 repeat' first | refine ST ?_ | refine ST2 ?_ | intro _ | apply And.intro
 refine aCV (hcon := by intro c w hw; exact c w list _ b1 b2 free skip _ (hl1.fr hw.fr) (ptC_elem (hw.own 0 rfl)) (ptC_elem (hw.own 1 rfl)) (hs1.fr hw.fr)) (k := ?_)
 repeat' first | refine ST ?_ | refine ST2 ?_ | intro _ | apply And.intro
 all_goals first | rfl | trace_state
instance iNextOffer_c : HC 205 (∀ (W : World) (cs : List Value) (h : House) (cabin : Int), HsR W cs h → HouseSz h →Sp W [] 205 #[.agg cs.toArray, vi cabin] (RV (vi (nextOffer h cabin)))) := by
 refine ⟨fun W cs h cabin hh hsz => ?_⟩
 have hh1 := hh; obtain ⟨a1, c1, a2, c2, a3, c3, a4, c4, a5, c5, rfl, h1, h2, h3, h4, h5, h6, h7, h8, h9, h10⟩ := hh
 have hp9 := hsz.2.1
 refine gENT (vs := [_, _]) Tryz.func205 ?_
 by_cases hb : hasCab h cabin = true
 · obtain ⟨hc0, hc1⟩ := hasCab_in hb
   have hx := List.getElem?_eq_getElem (show cabin.toNat < h.cabins.length by omega)
   have hff := fun skip => (firstFit_lt (h.cabins[cabin.toNat]'(by omega)).row (h.cabins[cabin.toNat]'(by omega)).seats.free skip).1
   repeat' first | refine ST ?_ | intro _ | apply And.intro
   · exact absurd (‹hasCab h cabin = false›.symm.trans hb) (by decide)
   refine gNILN 3 intL ?_
   refine gFORO 17 h.parties.length 5 (fun _ : Unit => []) (fun k _ xs => xs.length ≤ k ∧ skipGo h.now h.parties = xs ++ skipGo h.now (h.parties.drop k)) () (h0 := ⟨by simp, rfl⟩) (body := fun k _ a c9 xs hk ⟨hl, hv⟩ => ?_)
   have hfx := hff xs
   repeat' first | refine ST ?_ | intro _ | apply And.intro
   all_goals first
    | exact LEN
    | (rw [hv, List.drop_eq_getElem_cons (by omega), skipGo, if_pos ‹_›]; simp; done)
    | (rw [hv, List.drop_eq_getElem_cons (by omega), skipGo, if_neg (by simp [*])]; done)
    | (have hE : skipGo h.now h.parties = xs := by rw [hv, List.drop_eq_nil_of_le (by omega)]; simp [skipGo]
       subst hE
       rw [nextOffer_neg hb hx ‹_›]; done)
    | (have hE : skipGo h.now h.parties = xs := by rw [hv, List.drop_eq_nil_of_le (by omega)]; simp [skipGo]
       subst hE
       rw [nextOffer_at hb hx ‹_› (List.getElem?_eq_getElem (by omega))]; done)
    | trace_state
 · repeat' first | refine ST ?_ | intro _ | apply And.intro
   all_goals first | exact absurd ‹hasCab h cabin = true› hb | (rw [nextOffer_no (by simpa using hb)]; done) | trace_state
instance iQueueCut_c : HC 207 (∀ (W : World) (list : List Entry) (v : Value) (id : Int), Rs entryL W v list → list.length ≤ 1048576 →Sp W [] 207 #[v, vi id] (RT2 (RO 159 entryL (queueCut list id)) RBo)) := by
 refine ⟨fun W list v id ⟨a, c, e, hc, hr⟩ hb => ?_⟩
 subst e; have hl := hr.len
 have hat : queueAt list id 0 < (list.length : Int) := by have := queueAt_lt9 list id 0; omega
 have hat2 : -1 ≤ queueAt list id 0 := by
  rcases queueAt_spec list id 0 with ⟨h1, _⟩ | ⟨i, e, _, _, h3, _⟩ <;> omega
 have w1 : wr (queueAt list id 0 + 1) = queueAt list id 0 + 1 := wr_of (by omega) (by omega)
 have w2 : IntKind.wrap .i64 (queueAt list id 0 + 1) = queueAt list id 0 + 1 := wrap_of (by omega) (by omega)
 refine gENT (vs := [_, _]) Tryz.func207 ?_
 repeat' first | refine ST ?_ | intro _ | apply And.intro
 all_goals first | trivial | (rw [queueCut, if_pos ‹_›]; done) | (rw [queueCut, if_neg ‹_›]; done) | trace_state
theorem pIns_mem : ∀ (l : List Pin) (p : Pin), p ∈ pIns l p
 | [], p => by simp [pIns]
 | x :: l, p => by unfold pIns; split <;> simp [pIns_mem l p]
theorem wheelPut_bad {w : Wheel} {p : Pin} (h : pinRB p = false) : wheelPut w p = w := by
 by_cases h1 : wheelOk w = true
 · by_cases h2 : p.at' < 1
   · exact (wheelPut_f (.inr (.inl h2))).1
   · by_cases h3 : wheelOk (wheelIns w p) = true
     · exfalso
       have hw9 : w.spoke.length = 9 := (wheelP_of h1).1
       have hrem := tmod_rng (a := p.at') (n := 9) (by omega) (by omega)
       have hk : (Int.tmod p.at' 9).toNat < w.spoke.length := by omega
       have hin := wheelIns_of (p := p) (List.getElem?_eq_getElem hk)
       rw [hin] at h3
       have hm := (wheelP_of h3).2.2.1 p (List.mem_flatten.2 ⟨_, List.mem_of_getElem? (List.getElem?_set_self hk), pIns_mem _ p⟩)
       have h9 : pinRB p = true := by simp only [pinRB, hm.1, hm.2, Bool.and_self]
       rw [h] at h9; cases h9
     · exact (wheelPut_f (.inr (.inr (by simpa using h3)))).1
 · exact (wheelPut_f (.inl (by simpa using h1))).1
instance hWheelOkL_c : HC 259 (∀ (W : World) (l : List (List Pin)) (v : Value), Rs (sl 166 pinL) W v l → l.flatten.length ≤ 4194304 →Sp W [] 259 #[.agg #[v]] (RV (.bool (wheelOk ⟨l⟩)))) := by
 exact ⟨fun W l v h1 h2 => hWheelOk_c.pf W ⟨l⟩ v h1 h2⟩
instance iWheelPut_c : HC 209 (∀ (W : World) (w : Wheel) (v : Value) (p : Pin), Rs (sl 166 pinL) W v w.spoke → w.spoke.flatten.length ≤ 1048576 → w.spoke.length ≤ 1048576 →Sp W [] 209 #[.agg #[v], .agg (pinE p).toArray] (RT2 (RWh 199 166 (wheelPut w p)) RBo)) := by
 refine ⟨fun W w v p hv0 hb hn => ?_⟩
 have hv1 := hv0; obtain ⟨a, c, rfl, hc, hr⟩ := hv0
 have hb4 : w.spoke.flatten.length ≤ 4194304 := by omega
 refine gENT (vs := [_, _]) Tryz.func209 ?_
 repeat' first | refine ST ?_ | intro _ | apply And.intro
 all_goals first | trivial | (rw [(wheelPut_f (.inl ‹_›)).1]; done) | (rw [wheelPut_bad ‹_›]; done) | skip
 have hwo : wheelOk w = true := ‹_›
 have hw9 : w.spoke.length = 9 := (wheelP_of hwo).1
 obtain ⟨pr1, pr2⟩ := pinRB_rng ‹_›
 have hrem := tmod_rng (a := p.at') (n := 9) (by omega) (by omega)
 have hsp : w.spoke[(Int.tmod p.at' 9).toNat]? = some (w.spoke[(Int.tmod p.at' 9).toNat]'(by omega)) := List.getElem?_eq_getElem (by omega)
 have hfm := flat_mem hsp
 have hins := wheelIns_of (p := p) hsp
 have hf4 : ∀ i : Nat, (w.spoke.set (Int.tmod p.at' 9).toNat ((w.spoke[(Int.tmod p.at' 9).toNat]'(by omega)).take i ++ [p] ++ (w.spoke[(Int.tmod p.at' 9).toNat]'(by omega)).drop i)).flatten.length ≤ 4194304 := fun i => by
  have h9 := flat_set_le w.spoke (Int.tmod p.at' 9).toNat ((w.spoke[(Int.tmod p.at' 9).toNat]'(by omega)).take i ++ [p] ++ (w.spoke[(Int.tmod p.at' 9).toNat]'(by omega)).drop i)
  simp only [List.length_append, List.length_take, List.length_drop, List.length_cons, List.length_nil] at h9
  omega
 repeat' first | refine ST ?_ | refine ST2 ?_ | intro _ | apply And.intro
 refine gFOR 8 (w.spoke[(Int.tmod p.at' 9).toNat]'(by omega)).length (fun k => pIns (w.spoke[(Int.tmod p.at' 9).toNat]'(by omega)) p = (w.spoke[(Int.tmod p.at' 9).toNat]'(by omega)).take k ++ pIns ((w.spoke[(Int.tmod p.at' 9).toNat]'(by omega)).drop k) p) rfl fun k hk hv => ?_
 have hf5 := hf4 k
 have hn9 := Int.toNat_natCast k
 have hk2 : ((k : Nat) : Int) ≤ ((w.spoke[(Int.tmod p.at' 9).toNat]'(by omega)).length : Int) := by omega
 have hb2 : (w.spoke[(Int.tmod p.at' 9).toNat]'(by omega)).length ≤ 1048576 := by omega
 refine gISS (La := pinL) (k := fun hs => ?_)
 repeat' first | refine STP ?_ | (refine idAT ?_; refine aCa ?_; refine tUNS (k := ?_)) | refine ST ?_ | refine ST2 ?_ | intro _ | apply And.intro
 all_goals try (simp only [hn9])
 all_goals try exact pIns_go hv ‹_› (by rw [← cmpPin_lt]; exact decide_eq_true ‹_›)
 all_goals have he9 := hins
 all_goals have he := pIns_at hv (fun h => by first | (rw [← cmpPin_lt]; exact decide_eq_false ‹_›) | (exfalso; omega))
 all_goals rw [← he] at he9
 all_goals first
  | trivial
  | (have hw2 : wheelOk (wheelIns w p) = false := by rw [he9]; assumption
     exact ((wheelPut_f (.inr (.inr hw2))).1).symm)
  | (have hw2 : wheelOk (wheelIns w p) = true := by rw [he9]; assumption
     exact (((wheelPut_t hwo (by omega) hw2).1).trans he9).symm)
  | trace_state
theorem offerI_eq {h : House} {cabin : Int} {p : Party} {c : Cabin} (hp : partyOf h.parties (nextOffer h cabin) = p) (hc : p.cabin = cabin) (hid : p.id = nextOffer h cabin) (hx : h.cabins[cabin.toNat]? = some c) :
 (⟨h.rules, h.now, h.turn, partyPut h.parties (offeredP h.rules p h.now), h.cabins.set cabin.toNat ⟨lHold c.seats p.size, queueCut c.row (nextOffer h cabin), wheelPut c.wheel ⟨wr (h.now + h.rules.window), nextOffer h cabin⟩⟩, h.todo, h.jobs⟩ : House) = offeredM h cabin := by
 unfold offeredM offerM
 rw [hp, hc, modC_of _ hx, holdC, hid]
instance iOffer_c : HC 102 (∀ (W : World) (cs : List Value) (h : House) (cabin : Int), HsR W cs h → HouseSz h →Sp W [] 102 #[.agg cs.toArray, vi cabin] (RT2 (RHs (offer h cabin)) (RV (vi (nextOffer h cabin))))) := by
 refine ⟨fun W cs h cabin hh hsz => ?_⟩
 have hh1 := hh; obtain ⟨a1, c1, a2, c2, a3, c3, a4, c4, a5, c5, rfl, h1, h2, h3, h4, h5, h6, h7, h8, h9, h10⟩ := hh
 have hsb : ∀ c ∈ h.cabins, c.wheel.spoke.flatten.length ≤ 1048576 := fun c hc => (hsz.2.2.2.2.2 c hc).2.2
 have hp9 := hsz.2.1
 refine gENT (vs := [_, _]) Tryz.func102 ?_
 by_cases hz : nextOffer h cabin = 0
 · have ho : offer h cabin = h := by unfold offer; rw [if_pos hz]
   repeat' first | refine ST ?_ | refine ST2 ?_ | intro _ | apply And.intro
   all_goals first | (rw [ho]; done) | exact hz.symm | exact absurd hz ‹nextOffer h cabin ≠ 0› | (rw [ho]; rfl) | trace_state
 · have ho : offer h cabin = offeredM h cabin := by unfold offer; rw [if_neg hz]
   have hb : hasCab h cabin = true := by
    by_cases h9 : hasCab h cabin = true
    · exact h9
    · exact absurd (nextOffer_no (by simpa using h9)) hz
   obtain ⟨hR, hc0, hc1⟩ := hasCab_rep hb
   have hk : cabin.toNat < h.cabins.length := by omega
   have hx := List.getElem?_eq_getElem hk
   obtain ⟨hs1, hs2, hs3⟩ := hsz.2.2.2.2.2 _ (List.getElem_mem hk)
   have hn := nextM_eq hb
   have hat := atId_lt h.parties (nextOffer h cabin)
   obtain ⟨pm, pid, pst, pcab, _⟩ := next_party hz
   obtain ⟨k9, hk9, hg9⟩ := atId_of hR.ids pm
   rw [pid] at hk9
   have hpo : partyOf h.parties (nextOffer h cabin) = h.parties[(atId h.parties (nextOffer h cabin)).toNat]'(by omega) := partyOf_of (List.getElem?_eq_getElem (by omega))
   rw [hpo] at pid pcab
   repeat' first | refine ST ?_ | refine ST2 ?_ | refine hLH (hC := by exact NT9) (k := ?_) | refine hHL (hp := by exact PU9) (k := fun i9 => ?_) | refine hSH (hp := by exact PU9) (k := ?_) | refine hEND (hC := by exact eb5 PU9 PU9 PU9 PU9 PU9) (k := ?_) | (refine goLd ?_; refine uUNC (hp := by exact PU9) (hp1 := by exact PU9) (hp2 := by exact PU9) (k := ?_); refine hHL (hp := by exact PU9) (k := fun i9 => ?_)) | intro _ | apply And.intro
   all_goals first | exact absurd ‹nextOffer h cabin = 0› hz | rfl | exact (offerI_eq (p := h.parties[(atId h.parties (nextOffer h cabin)).toNat]'(by omega)) hpo pcab pid hx).trans ho.symm | trace_state
end SX
end Go.Proofs.YtejojcoaohlfbaaGreat
