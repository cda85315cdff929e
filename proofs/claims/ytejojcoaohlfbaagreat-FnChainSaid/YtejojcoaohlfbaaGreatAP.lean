/- Texts of this claim, put together by program. -/
import Derived.Test.YtejojcoaohlfbaaGreatAI
import Derived.Test.YtejojcoaohlfbaaGreatAN
import Derived.Test.YtejojcoaohlfbaaGreatSx9
namespace Go.Proofs.YtejojcoaohlfbaaGreat
namespace SX
open Go Go.RowKit
set_option linter.unusedVariables false
set_option linter.unusedSimpArgs false
set_option maxRecDepth 10000
set_option maxHeartbeats 1000000
attribute [local irreducible] CD DN OPL AT QL QT CND RETG BKP HL HT HO slA slHo slP ptC pull pulls
instance s15Expire_c : HC 142 (∀ (W : World) (cs : List Value) (h : House) (pre : List Ass) (cabin : Int), HsO cs h pre → HRep h → 0 ≤ cabin → cabin < (h.cabins.length : Int) →Sp W pre 142 #[.agg cs.toArray, vi cabin] (RHs (expireM h cabin))) := by
 refine ⟨fun W cs h pre cabin ⟨⟨⟨a1, c1⟩, ⟨a2, c2⟩, ⟨a3, c3⟩, ⟨a4, c4⟩, a5, c5⟩, e1, e2⟩ hR hc0 hc1 => ?_⟩
 subst e1 e2
 have hsz := hR.sz; have hdl := dueIds_len h cabin
 refine gENTO (vs := [_, _]) Tryz.func142 (fun S0 => ?_)
 repeat' first | refine ST ?_ | intro _ | apply And.intro
 refine gFORG 6 (dueIds h cabin).length (fun _ => []) [(0, fun q : House × H5 => hCl q.1 q.2)] (fun q => hOs q.1 q.2) (fun k q => HRep q.1 ∧ DueP q.1.parties ((dueIds h cabin).drop k) ∧ expireGo ((dueIds h cabin).drop k) q.1 = expireM h cabin) (h, ((a1, c1), (a2, c2), (a3, c3), (a4, c4), a5, c5)) (h0 := ⟨hR, due_start hR hc0, rfl⟩) (body := fun k q hk hi => ?_)
 obtain ⟨x, ⟨b1, d1⟩, ⟨b2, d2⟩, ⟨b3, d3⟩, ⟨b4, d4⟩, b5, d5⟩ := q
 obtain ⟨hR2, hD, hE⟩ : HRep x ∧ DueP x.parties ((dueIds h cabin).drop k) ∧ expireGo ((dueIds h cabin).drop k) x = expireM h cabin := hi
 by_cases hkl : k < (dueIds h cabin).length
 · have hdr := List.drop_eq_getElem_cons hkl
   rw [hdr] at hD hE
   have hat := due_at hR2 hD; have hal := atId_lt x.parties (dueIds h cabin)[k]
   have hmem : (x.parties[(atId x.parties (dueIds h cabin)[k]).toNat]'(by omega)) ∈ x.parties := List.getElem_mem _
   obtain ⟨n1, n2, n3⟩ := due_next hR2 hD (List.getElem?_eq_getElem (show (atId x.parties (dueIds h cabin)[k]).toNat < x.parties.length by omega)) rfl
   repeat' first | refine ST ?_ | intro _ | apply And.intro
   all_goals first | (exfalso; omega) | (refine gGBACK (_, ((_, _), (_, _), (_, _), (_, _), _, _)) hkl (h := ?_); exact ⟨n1, n2, n3.trans hE⟩)
 · rw [List.drop_eq_nil_of_le (by omega)] at hE
   repeat' first | refine ST ?_ | intro _ | apply And.intro
   all_goals first | (exfalso; omega) | exact hE
instance s15Next_c : HC 243 (∀ (W : World) (cs : List Value) (h : House) (cabin : Int), HsR W cs h → HouseSz h → 0 ≤ cabin → cabin < (h.cabins.length : Int) →Sp W [] 243 #[.agg cs.toArray, vi cabin] (RV (vi (nextM h cabin)))) := by
 refine ⟨fun W cs h cabin hh hsz hc0 hc1 => ?_⟩
 obtain ⟨a1, c1, a2, c2, a3, c3, a4, c4, a5, c5, rfl, h1, h2, h3, h4, h5, h6, h7, h8, h9, h10⟩ := hh
 have hk : cabin.toNat < h.cabins.length := by omega
 have hx := List.getElem?_eq_getElem hk
 obtain ⟨hs1, hs2, hs3⟩ := hsz.2.2.2.2.2 _ (List.getElem_mem hk)
 have hp9 := hsz.2.1
 have hff := fun skip => (firstFit_lt (h.cabins[cabin.toNat]).row (h.cabins[cabin.toNat]).seats.free skip).1
 refine gENT (vs := [_, _]) Tryz.func243 ?_
 repeat' first | refine ST ?_ | intro _ | apply And.intro
 refine gFORO 6 h.parties.length 5 (fun _ : Unit => []) (fun k _ xs => xs.length ≤ k ∧ skipGo h.now h.parties = xs ++ skipGo h.now (h.parties.drop k)) () (h0 := ⟨by simp, rfl⟩) (body := fun k _ a c9 xs hk ⟨hl, hv⟩ => ?_)
 have hfx := hff xs
 repeat' first | refine ST ?_ | intro _ | apply And.intro
 all_goals first
  | exact LEN
  | (rw [hv, List.drop_eq_getElem_cons (by omega), skipGo, if_pos ‹_›]; simp; done)
  | (rw [hv, List.drop_eq_getElem_cons (by omega), skipGo, if_neg (by simp [*])]; done)
  | (have hE : skipGo h.now h.parties = xs := by rw [hv, List.drop_eq_nil_of_le (by omega)]; simp [skipGo]
     simp only [nextM, hx, hE]; simp [*]; done)
  | (have hE : skipGo h.now h.parties = xs := by rw [hv, List.drop_eq_nil_of_le (by omega)]; simp [skipGo]
     subst hE
     simp only [nextM, hx]; rw [if_neg ‹_›, List.getElem?_eq_getElem]; done)
 trace_state
instance sWheelPut_c : HC 247 (∀ (W : World) (w : Wheel) (v : Value) (p : Pin), Rs (sl 166 pinL) W v w.spoke → w.spoke.flatten.length ≤ 1048576 → w.spoke.length ≤ 1048576 →Sp W [] 247 #[.agg #[v], .agg (pinE p).toArray] (RT2 (RWh 199 166 (wheelPut w p)) (RV (.bool (wheelPutB w p))))) := by
 refine ⟨fun W w v p hv0 hb hn => ?_⟩
 have hv1 := hv0; obtain ⟨a, c, rfl, hc, hr⟩ := hv0
 refine gENT (vs := [_, _]) Tryz.func247 ?_
 by_cases hwo : wheelOk w = true
 · by_cases hp0 : p.at' < 1
   · repeat' first | refine ST ?_ | intro _ | apply And.intro
     all_goals first | (simp [wheelPut, hwo, hp0]; done) | (simp [wheelPutB, hwo, hp0]; done) | (exfalso; simp_all; done) | skip
   · have hw9 : w.spoke.length = 9 := (wheelP_of hwo).1
     have hrem := tmod_rng (a := p.at') (n := 9) (by omega) (by omega)
     have hsp : w.spoke[(Int.tmod p.at' 9).toNat]? = some (w.spoke[(Int.tmod p.at' 9).toNat]'(by omega)) := List.getElem?_eq_getElem (by omega)
     have hfm := flat_mem hsp
     have hpi : wheelPut w p = if wheelOk (wheelIns w p) then wheelIns w p else w := by simp [wheelPut, hwo, hp0]
     have hpb : wheelPutB w p = wheelOk (wheelIns w p) := by simp [wheelPutB, hwo, hp0]
     have hins := wheelIns_of hsp
     rw [hins] at hpi hpb
     repeat' first | refine ST ?_ | intro _ | apply And.intro
     all_goals first | (exact absurd (‹wheelOk w = false›.symm.trans hwo) (by decide)) | (exact absurd ‹p.at' < 1› hp0) | skip
     refine ST2 ?_
     have hfs := flat_set_le w.spoke (Int.tmod p.at' 9).toNat (pIns (w.spoke[(Int.tmod p.at' 9).toNat]'(by omega)) p)
     have hpl := pIns_len (w.spoke[(Int.tmod p.at' 9).toNat]'(by omega)) p
     have hfs2 : (w.spoke.set (Int.tmod p.at' 9).toNat (pIns (w.spoke[(Int.tmod p.at' 9).toNat]'(by omega)) p)).flatten.length ≤ 1000000000 := by omega
     refine aCV (hcon := fun c w9 hw => c w9 ⟨_⟩ _ (Rs.ownN hw NT) hfs2) ?_
     repeat' first | refine ST ?_ | intro _ | apply And.intro
     all_goals first | (rw [hpi, if_pos ‹_›]; done) | (rw [hpi, if_neg (by simp [*])]; done) | (rw [hpb]; simp [*]; done) | skip
     trace_state
 · repeat' first | refine ST ?_ | intro _ | apply And.intro
   all_goals first | (simp [wheelPut, hwo]; done) | (simp [wheelPutB, hwo]; done) | (exfalso; simp_all; done) | skip
end SX
end Go.Proofs.YtejojcoaohlfbaaGreat
