/- Texts of this claim, put together by program. -/
import Derived.Test.YthnbaikmbgaddaaGreatBT
import Derived.Test.YthnbaikmbgaddaaGreatSuc
/- The reference's side: pins into wheels; an offer. -/
namespace Go.Proofs.YthnbaikmbgaddaaGreat
namespace SX
open Go Go.RowKit
set_option linter.unusedVariables false
set_option linter.unusedSimpArgs false
set_option maxRecDepth 10000
set_option maxHeartbeats 1000000
attribute [local irreducible] CD DN OPL AT QL QT CND RETG BKP HL HT HO slA slHo slP ptC pull pulls
instance sWheelPut_c : HC 291 (∀ (W : World) (w : Wheel) (v : Value) (p : Pin), Rs (sl 167 pinL) W v w.spoke → w.spoke.flatten.length ≤ 1048576 → w.spoke.length ≤ 1048576 →Sp W [] 291 #[.agg #[v], .agg (pinE p).toArray] (RT2 (RWh 155 167 (wheelPut w p)) (RV (.bool (wheelPutB w p))))) := by
 refine ⟨fun W w v p hv0 hb hn => ?_⟩
 have hv1 := hv0; obtain ⟨a, c, rfl, hc, hr⟩ := hv0
 refine gENT (vs := [_, _]) Tryz.func291 ?_
 by_cases hwo : wheelOk w = true
 · by_cases hp0 : p.at' < 1
   · repeat' first | refine ST ?_ | intro _ | apply And.intro
     all_goals first | (simp [wheelPut, hwo, hp0]; done) | (simp [wheelPutB, hwo, hp0]; done) | (exfalso; simp_all; done) | skip
   · have hw9 : w.spoke.length = 9 := (wheelP_of hwo).1
     have hrem := tmod_rng (a := p.at') (n := 9) (by omega) (by omega)
     have hsp : w.spoke[(Int.tmod p.at' 9).toNat]? = some (w.spoke[(Int.tmod p.at' 9).toNat]'(by omega)) := List.getElem?_eq_getElem (by omega)
     have hfm := flat_mem hsp
     have hpi : wheelPut w p = if wheelOk (wheelIns w p) then wheelIns w p else w := by simp [wheelPut, hwo, hp0]
     have hpb : wheelPutB w p = wheelOk (wheelIns w p) := by simp [wheelPutB, hwo, hp0]
     have hins := wheelIns_of hsp
     rw [hins] at hpi hpb
     repeat' first | refine ST ?_ | intro _ | apply And.intro
     all_goals first | (exact absurd (‹wheelOk w = false›.symm.trans hwo) (by decide)) | (exact absurd ‹p.at' < 1› hp0) | skip
     refine ST2 ?_
     have hfs := flat_set_le w.spoke (Int.tmod p.at' 9).toNat (pIns (w.spoke[(Int.tmod p.at' 9).toNat]'(by omega)) p)
     have hpl := pIns_len (w.spoke[(Int.tmod p.at' 9).toNat]'(by omega)) p
     have hfs2 : (w.spoke.set (Int.tmod p.at' 9).toNat (pIns (w.spoke[(Int.tmod p.at' 9).toNat]'(by omega)) p)).flatten.length ≤ 1000000000 := by omega
     refine aCV (hcon := fun c w9 hw => c w9 ⟨_⟩ _ (Rs.ownN hw NT) hfs2) ?_
     repeat' first | refine ST ?_ | intro _ | apply And.intro
     all_goals first | (rw [hpi, if_pos ‹_›]; done) | (rw [hpi, if_neg (by simp [*])]; done) | (rw [hpb]; simp [*]; done) | skip
     trace_state
 · repeat' first | refine ST ?_ | intro _ | apply And.intro
   all_goals first | (simp [wheelPut, hwo]; done) | (simp [wheelPutB, hwo]; done) | (exfalso; simp_all; done) | skip
end SX
end Go.Proofs.YthnbaikmbgaddaaGreat
/- The reference's side: an offer. -/
namespace Go.Proofs.YthnbaikmbgaddaaGreat
namespace SX
open Go Go.RowKit
set_option linter.unusedVariables false
set_option linter.unusedSimpArgs false
set_option maxRecDepth 10000
set_option maxHeartbeats 1000000
attribute [local irreducible] CD DN OPL AT QL QT CND RETG BKP HL HT HO slA slHo slP ptC pull pulls
abbrev HsOq := HO9q 3 56 50 142 155 167
/-- the house as it came where b, another one where not -/
abbrev ROf (h : House) (q : H5) (b : Bool) (x : House) (id : Int) : Res := ⟨H5, fun r => .tuple #[hV (bif b then h else x) (bif b then q else r), vi id], fun r => hOw 3 56 50 142 155 167 (bif b then h else x) (bif b then q else r)⟩
theorem rOfT {h x : House} {q : H5} {v : Value} {i id : Int} {C R : List Ass} {js : List Nat} (hv : v = hV h q) (hp : pulls js C = some (hOw 3 56 50 142 155 167 h q, R)) (hi : i = id) : RETG (.tuple ⟨[v, vi i]⟩) (ROf h q true x id) C := rEX (r := ROf h q true x id) q hp (by rw [hi, hv]; rfl)
theorem rOfF {h x : House} {q : H5} {v : Value} {i id : Int} {C R : List Ass} (hr : RP v (RHo 3 56 50 142 155 167 x) C R) (hi : i = id) : RETG (.tuple ⟨[v, vi i]⟩) (ROf h q false x id) C := by
  obtain ⟨y, js, hx, hp⟩ := hr
  exact rEX (r := ROf h q false x id) y hp (by rw [hi, hx]; rfl)
theorem offer_eq {h : House} {cabin : Int} {p : Party} {c : Cabin} (hp : partyOf h.parties (nextM h cabin) = p) (hc : p.cabin = cabin) (hid : p.id = nextM h cabin) (hx : h.cabins[cabin.toNat]? = some c) (hn : nextOffer h cabin = nextM h cabin) :
    (⟨h.rules, h.now, h.turn, partyPut h.parties (offeredP h.rules p h.now), h.cabins.set cabin.toNat ⟨lHold c.seats p.size, queueCut c.row (nextM h cabin), wheelPut c.wheel ⟨wr (h.now + h.rules.window), nextM h cabin⟩⟩, h.todo, h.jobs⟩ : House) = offeredM h cabin := by
  unfold offeredM offerM
  rw [hn, hp, hc, modC_of _ hx, holdC, hid]
instance s15Offer_c : HC 208 (∀ (W : World) (cs : List Value) (h : House) (q : H5) (pre : List Ass) (b : Bool) (cabin : Int), HsOq q cs h pre → HRep h → 0 ≤ cabin → cabin < (h.cabins.length : Int) → decide (nextM h cabin = 0) = b →Sp W pre 208 #[.agg cs.toArray, vi cabin] (ROf h q b (offeredM h cabin) (nextM h cabin))) := by
 refine ⟨fun W cs h ⟨⟨a1, c1⟩, ⟨a2, c2⟩, ⟨a3, c3⟩, ⟨a4, c4⟩, a5, c5⟩ pre b cabin ⟨e1, e2⟩ hR hc0 hc1 hb => ?_⟩
 dsimp only [hOw] at e1 e2
 subst e1 e2
 have hsz := hR.sz
 have hk : cabin.toNat < h.cabins.length := by omega
 have hx := List.getElem?_eq_getElem hk
 obtain ⟨hs1, hs2, hs3⟩ := hsz.2.2.2.2.2 _ (List.getElem_mem hk)
 have hn := nextM_eq (hasCab_mk hR hc0 hc1)
 refine gENTO (vs := [_, _]) Tryz.func208 (fun S0 => ?_)
 cases b with
 | true =>
  have hz : nextM h cabin = 0 := of_decide_eq_true hb
  repeat' first | (exfalso; contradiction) | refine ST ?_ | intro _ | apply And.intro
  · refine rOfT (js := [0, 0, 0, 0, 0]) (R := []) rfl ?_ hz.symm
    exact plS pu0 (plS pu0 (plS pu0 (plS pu0 (plS pu0 pl0))))
  all_goals exact absurd hz ‹_ ≠ 0›
 | false =>
  have hz : ¬ nextM h cabin = 0 := of_decide_eq_false hb
  have hat := atId_lt h.parties (nextM h cabin)
  obtain ⟨pm, pid, pst, pcab, _⟩ := next_party (h := h) (cabin := cabin) (by rw [hn]; exact hz)
  rw [hn] at pm pid pst pcab
  obtain ⟨k9, hk9, hg9⟩ := atId_of hR.ids pm
  rw [pid] at hk9
  have hp9 := hsz.2.1
  have hpo : partyOf h.parties (nextM h cabin) = h.parties[(atId h.parties (nextM h cabin)).toNat]'(by omega) := partyOf_of (List.getElem?_eq_getElem (by omega))
  rw [hpo] at pid pcab
  repeat' first | refine ST ?_ | intro _ | apply And.intro
  · exact absurd ‹nextM h cabin = 0› hz
  all_goals
   refine rOfF (pHO (h := ?_)) rfl
   exact offer_eq (p := h.parties[(atId h.parties (nextM h cabin)).toNat]'(by omega)) hpo pcab pid hx hn
end SX
end Go.Proofs.YthnbaikmbgaddaaGreat
/- The program's side: an offer that is made. -/
namespace Go.Proofs.YthnbaikmbgaddaaGreat
namespace SX
open Go Go.RowKit
set_option linter.unusedVariables false
set_option linter.unusedSimpArgs false
set_option maxRecDepth 10000
set_option maxHeartbeats 1000000
attribute [local irreducible] CD DN OPL AT QL QT CND RETG BKP HL HT HO slA slHo slP ptC pull pulls
instance hQueueAt_c : HC 294 (∀ (W : World) (list : List Entry) (v : Value) (id : Int), Rs entryL W v list →Sp W [] 294 #[v, vi id] (RV (vi (queueAt list id 0)))) := by
 refine ⟨fun W list v id ⟨a, c, e, hc, hr⟩ => ?_⟩
 subst e
 exact iQueueAt_c W list a c hr id
instance iQueueCut_c : HC 211 (∀ (W : World) (list : List Entry) (v : Value) (id : Int), Rs entryL W v list → list.length ≤ 1048576 →Sp W [] 211 #[v, vi id] (RT2 (RO 142 entryL (queueCut list id)) RBo)) := by
 refine ⟨fun W list v id ⟨a, c, e, hc, hr⟩ hb => ?_⟩
 subst e; have hl := hr.len
 have hat : queueAt list id 0 < (list.length : Int) := by have := queueAt_lt9 list id 0; omega
 have hat2 : -1 ≤ queueAt list id 0 := by
  rcases queueAt_spec list id 0 with ⟨h1, _⟩ | ⟨i, e, _, _, h3, _⟩ <;> omega
 have w1 : wr (queueAt list id 0 + 1) = queueAt list id 0 + 1 := wr_of (by omega) (by omega)
 have w2 : IntKind.wrap .i64 (queueAt list id 0 + 1) = queueAt list id 0 + 1 := wrap_of (by omega) (by omega)
 refine gENT (vs := [_, _]) Tryz.func211 ?_
 repeat' first | refine ST ?_ | intro _ | apply And.intro
 all_goals first | trivial | (rw [queueCut, if_pos ‹_›]; done) | (rw [queueCut, if_neg ‹_›]; done) | trace_state
theorem pIns_mem : ∀ (l : List Pin) (p : Pin), p ∈ pIns l p
  | [], p => by simp [pIns]
  | x :: l, p => by unfold pIns; split <;> simp [pIns_mem l p]
theorem wheelPut_bad {w : Wheel} {p : Pin} (h : pinRB p = false) : wheelPut w p = w := by
  by_cases h1 : wheelOk w = true
  · by_cases h2 : p.at' < 1
    · exact (wheelPut_f (.inr (.inl h2))).1
    · by_cases h3 : wheelOk (wheelIns w p) = true
      · exfalso
        have hw9 : w.spoke.length = 9 := (wheelP_of h1).1
        have hrem := tmod_rng (a := p.at') (n := 9) (by omega) (by omega)
        have hk : (Int.tmod p.at' 9).toNat < w.spoke.length := by omega
        have hin := wheelIns_of (p := p) (List.getElem?_eq_getElem hk)
        rw [hin] at h3
        have hm := (wheelP_of h3).2.2.1 p (List.mem_flatten.2 ⟨_, List.mem_of_getElem? (List.getElem?_set_self hk), pIns_mem _ p⟩)
        have h9 : pinRB p = true := by simp only [pinRB, hm.1, hm.2, Bool.and_self]
        rw [h] at h9; cases h9
      · exact (wheelPut_f (.inr (.inr (by simpa using h3)))).1
  · exact (wheelPut_f (.inl (by simpa using h1))).1
instance hWheelOkL_c : HC 264 (∀ (W : World) (l : List (List Pin)) (v : Value), Rs (sl 167 pinL) W v l → l.flatten.length ≤ 4194304 →Sp W [] 264 #[.agg #[v]] (RV (.bool (wheelOk ⟨l⟩)))) := by
 exact ⟨fun W l v h1 h2 => hWheelOk_c.pf W ⟨l⟩ v h1 h2⟩
instance iWheelPut_c : HC 213 (∀ (W : World) (w : Wheel) (v : Value) (p : Pin), Rs (sl 167 pinL) W v w.spoke → w.spoke.flatten.length ≤ 1048576 → w.spoke.length ≤ 1048576 →Sp W [] 213 #[.agg #[v], .agg (pinE p).toArray] (RT2 (RWh 155 167 (wheelPut w p)) RBo)) := by
 refine ⟨fun W w v p hv0 hb hn => ?_⟩
 have hv1 := hv0; obtain ⟨a, c, rfl, hc, hr⟩ := hv0
 have hb4 : w.spoke.flatten.length ≤ 4194304 := by omega
 refine gENT (vs := [_, _]) Tryz.func213 ?_
 repeat' first | refine ST ?_ | intro _ | apply And.intro
 all_goals first | trivial | (rw [(wheelPut_f (.inl ‹_›)).1]; done) | (rw [wheelPut_bad ‹_›]; done) | skip
 have hwo : wheelOk w = true := ‹_›
 have hw9 : w.spoke.length = 9 := (wheelP_of hwo).1
 obtain ⟨pr1, pr2⟩ := pinRB_rng ‹_›
 have hrem := tmod_rng (a := p.at') (n := 9) (by omega) (by omega)
 have hsp : w.spoke[(Int.tmod p.at' 9).toNat]? = some (w.spoke[(Int.tmod p.at' 9).toNat]'(by omega)) := List.getElem?_eq_getElem (by omega)
 have hfm := flat_mem hsp
 have hins := wheelIns_of (p := p) hsp
 have hf4 : ∀ i : Nat, (w.spoke.set (Int.tmod p.at' 9).toNat ((w.spoke[(Int.tmod p.at' 9).toNat]'(by omega)).take i ++ [p] ++ (w.spoke[(Int.tmod p.at' 9).toNat]'(by omega)).drop i)).flatten.length ≤ 4194304 := fun i => by
  have h9 := flat_set_le w.spoke (Int.tmod p.at' 9).toNat ((w.spoke[(Int.tmod p.at' 9).toNat]'(by omega)).take i ++ [p] ++ (w.spoke[(Int.tmod p.at' 9).toNat]'(by omega)).drop i)
  simp only [List.length_append, List.length_take, List.length_drop, List.length_cons, List.length_nil] at h9
  omega
 repeat' first | refine ST ?_ | refine ST2 ?_ | intro _ | apply And.intro
 refine gFOR 8 (w.spoke[(Int.tmod p.at' 9).toNat]'(by omega)).length (fun k => pIns (w.spoke[(Int.tmod p.at' 9).toNat]'(by omega)) p = (w.spoke[(Int.tmod p.at' 9).toNat]'(by omega)).take k ++ pIns ((w.spoke[(Int.tmod p.at' 9).toNat]'(by omega)).drop k) p) rfl fun k hk hv => ?_
 have hf5 := hf4 k
 have hn9 := Int.toNat_natCast k
 have hk2 : ((k : Nat) : Int) ≤ ((w.spoke[(Int.tmod p.at' 9).toNat]'(by omega)).length : Int) := by omega
 have hb2 : (w.spoke[(Int.tmod p.at' 9).toNat]'(by omega)).length ≤ 1048576 := by omega
 refine gISS (La := pinL) (k := fun hs => ?_)
 repeat' first | refine STP ?_ | (refine idAT ?_; refine aCa ?_; refine tUNS (k := ?_)) | refine ST ?_ | refine ST2 ?_ | intro _ | apply And.intro
 all_goals try (simp only [hn9])
 all_goals try exact pIns_go hv ‹_› (by rw [← cmpPin_lt]; exact decide_eq_true ‹_›)
 all_goals have he9 := hins
 all_goals have he := pIns_at hv (fun h => by first | (rw [← cmpPin_lt]; exact decide_eq_false ‹_›) | (exfalso; omega))
 all_goals rw [← he] at he9
 all_goals first
  | trivial
  | (have hw2 : wheelOk (wheelIns w p) = false := by rw [he9]; assumption
     exact ((wheelPut_f (.inr (.inr hw2))).1).symm)
  | (have hw2 : wheelOk (wheelIns w p) = true := by rw [he9]; assumption
     exact (((wheelPut_t hwo (by omega) hw2).1).trans he9).symm)
  | trace_state
theorem offerI_eq {h : House} {cabin : Int} {p : Party} {c : Cabin} (hp : partyOf h.parties (nextOffer h cabin) = p) (hc : p.cabin = cabin) (hid : p.id = nextOffer h cabin) (hx : h.cabins[cabin.toNat]? = some c) :
    (⟨h.rules, h.now, h.turn, partyPut h.parties (offeredP h.rules p h.now), h.cabins.set cabin.toNat ⟨lHold c.seats p.size, queueCut c.row (nextOffer h cabin), wheelPut c.wheel ⟨wr (h.now + h.rules.window), nextOffer h cabin⟩⟩, h.todo, h.jobs⟩ : House) = offeredM h cabin := by
  unfold offeredM offerM
  rw [hp, hc, modC_of _ hx, holdC, hid]
instance iOffer_c : HC 114 (∀ (W : World) (cs : List Value) (h : House) (cabin : Int), HsR W cs h → HouseSz h →Sp W [] 114 #[.agg cs.toArray, vi cabin] (RT2 (RHs (offer h cabin)) (RV (vi (nextOffer h cabin))))) := by
 refine ⟨fun W cs h cabin hh hsz => ?_⟩
 have hh1 := hh; obtain ⟨a1, c1, a2, c2, a3, c3, a4, c4, a5, c5, rfl, h1, h2, h3, h4, h5, h6, h7, h8, h9, h10⟩ := hh
 have hsb : ∀ c ∈ h.cabins, c.wheel.spoke.flatten.length ≤ 1048576 := fun c hc => (hsz.2.2.2.2.2 c hc).2.2
 have hp9 := hsz.2.1
 refine gENT (vs := [_, _]) Tryz.func114 ?_
 by_cases hz : nextOffer h cabin = 0
 · have ho : offer h cabin = h := by unfold offer; rw [if_pos hz]
   repeat' first | refine ST ?_ | refine ST2 ?_ | intro _ | apply And.intro
   all_goals first | (rw [ho]; done) | exact hz.symm | exact absurd hz ‹nextOffer h cabin ≠ 0› | (rw [ho]; rfl) | trace_state
 · have ho : offer h cabin = offeredM h cabin := by unfold offer; rw [if_neg hz]
   have hb : hasCab h cabin = true := by
    by_cases h9 : hasCab h cabin = true
    · exact h9
    · exact absurd (nextOffer_no (by simpa using h9)) hz
   obtain ⟨hR, hc0, hc1⟩ := hasCab_rep hb
   have hk : cabin.toNat < h.cabins.length := by omega
   have hx := List.getElem?_eq_getElem hk
   obtain ⟨hs1, hs2, hs3⟩ := hsz.2.2.2.2.2 _ (List.getElem_mem hk)
   have hn := nextM_eq hb
   have hat := atId_lt h.parties (nextOffer h cabin)
   obtain ⟨pm, pid, pst, pcab, _⟩ := next_party hz
   obtain ⟨k9, hk9, hg9⟩ := atId_of hR.ids pm
   rw [pid] at hk9
   have hpo : partyOf h.parties (nextOffer h cabin) = h.parties[(atId h.parties (nextOffer h cabin)).toNat]'(by omega) := partyOf_of (List.getElem?_eq_getElem (by omega))
   rw [hpo] at pid pcab
   repeat' first | refine ST ?_ | refine ST2 ?_ | refine hLH (hC := by exact NT9) (k := ?_) | refine hHL (hp := by exact PU9) (k := fun i9 => ?_) | refine hSH (hp := by exact PU9) (k := ?_) | refine hEND (hC := by exact eb5 PU9 PU9 PU9 PU9 PU9) (k := ?_) | (refine goLd ?_; refine uUNC (hp := by exact PU9) (hp1 := by exact PU9) (hp2 := by exact PU9) (k := ?_); refine hHL (hp := by exact PU9) (k := fun i9 => ?_)) | intro _ | apply And.intro
   all_goals first | exact absurd ‹nextOffer h cabin = 0› hz | rfl | exact (offerI_eq (p := h.parties[(atId h.parties (nextOffer h cabin)).toNat]'(by omega)) hpo pcab pid hx).trans ho.symm | trace_state
end SX
end Go.Proofs.YthnbaikmbgaddaaGreat
