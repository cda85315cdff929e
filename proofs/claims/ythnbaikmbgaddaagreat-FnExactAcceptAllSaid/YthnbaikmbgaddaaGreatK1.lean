/- Texts of this claim, put together by program. -/
import Derived.Test.YthnbaikmbgaddaaGreatAN
import Derived.Test.YthnbaikmbgaddaaGreatAU
import Derived.Test.YthnbaikmbgaddaaGreatMdlo
import Derived.Test.YthnbaikmbgaddaaGreatSxz
import Derived.Test.YthnbaikmbgaddaaGreatMdlu
import Derived.Test.YthnbaikmbgaddaaGreatMdlm
import Derived.Test.YthnbaikmbgaddaaGreatSxd
import Derived.Test.YthnbaikmbgaddaaGreatSxe
import Derived.Test.YthnbaikmbgaddaaGreatSxc
import Derived.Test.YthnbaikmbgaddaaGreatProg
/- The program's side: an offer that is accepted. -/
namespace Go.Proofs.YthnbaikmbgaddaaGreat
namespace SX
open Go Go.RowKit
set_option linter.unusedVariables false
set_option linter.unusedSimpArgs false
set_option maxRecDepth 10000
set_option maxHeartbeats 1000000
attribute [local irreducible] CD DN OPL AT QL QT CND RETG BKP HL HT HO slA slHo slP ptC pull pulls
instance iAccept_c : HC 92 (∀ (W : World) (cs : List Value) (h : House) (id : Int), HsR W cs h → HouseSz h →Sp W [] 92 #[.agg cs.toArray, vi id] (RT2 (RHs (doM h ⟨4, id, 0, 0, 0, 0⟩)) (RV (vi (verdict h ⟨4, id, 0, 0, 0, 0⟩))))) := by
 refine ⟨fun W cs h id hh hsz => ?_⟩
 have hh1 := hh; obtain ⟨a1, c1, a2, c2, a3, c3, a4, c4, a5, c5, rfl, h1, h2, h3, h4, h5, h6, h7, h8, h9, h10⟩ := hh
 have hsb : ∀ c ∈ h.cabins, c.wheel.spoke.flatten.length ≤ 1048576 := fun c hc => (hsz.2.2.2.2.2 c hc).2.2
 refine gENT (vs := [_, _]) Tryz.func92 ?_
 by_cases hv : verdict h ⟨4, id, 0, 0, 0, 0⟩ = 0
 · obtain ⟨hR, pm, pid, pst⟩ := ansV rfl (.inl rfl) hv
   obtain ⟨p1, p2, p3⟩ := at_fact hR pm pid
   have p4 := p3 (by omega)
   have hd : doM h ⟨4, id, 0, 0, 0, 0⟩ = acceptM h (partyOf h.parties id) := by rw [doM, if_pos hv]; rfl
   have g := hR.pr pm; have g1 := g.cab; have g2 := g.frm; have g3 := hR.cabs
   rw [p4] at hd g1 g2 pid
   have hp9 := hsz.2.1; have ht9 := hsz.2.2.2.1
   have hk : ((h.parties[(atId h.parties id).toNat]'(by omega)).cabin).toNat < h.cabins.length := by omega
   have hx := List.getElem?_eq_getElem hk
   obtain ⟨hs1, hs2, hs3⟩ := hsz.2.2.2.2.2 _ (List.getElem_mem hk)
   repeat' first | refine ST ?_ | refine ST2 ?_ | refine hLH (hC := by exact NT9) (k := ?_) | refine hHL (hp := by exact PU9) (k := fun i9 => ?_) | refine hSH (hp := by exact PU9) (k := ?_) | refine hEND (hC := by exact eb5 PU9 PU9 PU9 PU9 PU9) (k := ?_) | (refine goLd ?_; refine uUNC (hp := by exact PU9) (hp1 := by exact PU9) (hp2 := by exact PU9) (k := ?_); refine hHL (hp := by exact PU9) (k := fun i9 => ?_)) | intro _ | apply And.intro
   all_goals first | exact absurd hv ‹verdict h _ ≠ 0› | exact hv.symm | (rw [hd, accM_no hx (by omega) pid]; done) | exact (hd.trans (accM_fr hx (by omega) (List.getElem?_eq_getElem (by rw [List.length_set]; omega)) pid)).symm | rfl | trace_state
 · repeat' first | refine ST ?_ | refine ST2 ?_ | intro _ | apply And.intro
   all_goals first | (rw [doM, if_neg hv]; done) | exact absurd ‹_› hv | rfl | trace_state
end SX
end Go.Proofs.YthnbaikmbgaddaaGreat
/- The reference's side: all offers are accepted. -/
namespace Go.Proofs.YthnbaikmbgaddaaGreat
namespace SX
open Go Go.RowKit
set_option linter.unusedVariables false
set_option linter.unusedSimpArgs false
set_option maxRecDepth 10000
set_option maxHeartbeats 1000000
attribute [local irreducible] CD DN OPL AT QL QT CND RETG BKP HL HT HO slA slHo slP ptC pull pulls
theorem accIds_len (now : Int) (l : List Party) : (accIds now l).length ≤ l.length := by
  unfold accIds; rw [List.length_map]; exact List.length_filter_le _ _
instance sAcceptAll_c : HC 27 (∀ (W : World) (cs : List Value) (h : House), HsR W cs h → HouseSz h →Sp W [] 27 #[.agg cs.toArray] (RT2 (RHs (accAll h).1) (RO 3 intL (accAll h).2))) := by
 refine ⟨fun W cs h hh hsz => ?_⟩
 have hh1 := hh; obtain ⟨a1, c1, a2, c2, a3, c3, a4, c4, a5, c5, rfl, h1, h2, h3, h4, h5, h6, h7, h8, h9, h10⟩ := hh
 have hp9 := hsz.2.1
 have hsb : ∀ c ∈ h.cabins, c.wheel.spoke.flatten.length ≤ 1048576 := fun c hc => (hsz.2.2.2.2.2 c hc).2.2
 refine gENT (vs := [_]) Tryz.func27 ?_
 by_cases hok : houseOk h = true
 · have hR := houseP_iff.1 (houseP_of hok)
   have hac : accAll h = (accGo h.now h.parties h, accIds h.now h.parties) := if_pos hok
   repeat' first | refine ST ?_ | intro _ | apply And.intro
   iterate 2 exact absurd (‹houseOk h = false›.symm.trans hok) (by decide)
   rename_i q1 e0 hb0 hx0

   refine gFORG 6 h.parties.length (fun q : House × H5 × HH × List Int => [(5, .v (.slice q.2.2.1.1 q.2.2.2.length q.2.2.1.2))]) [(2, fun q => hCl q.1 q.2.1)] (fun q => hOs q.1 q.2.1 ++ [slA 3 intL (.slice q.2.2.1.1 q.2.2.2.length q.2.2.1.2) q.2.2.2]) (fun k q => HRep q.1 ∧ q.1 = accGo h.now (h.parties.take k) h ∧ q.2.2.2 = accIds h.now (h.parties.take k)) (h, q1, (e0, 0), []) (h0 := ⟨hR, rfl, rfl⟩) (body := fun k q hk hi => ?_)
   obtain ⟨x, ⟨⟨b1, d1⟩, ⟨b2, d2⟩, ⟨b3, d3⟩, ⟨b4, d4⟩, b5, d5⟩, ⟨e, f⟩, ys⟩ := q
   obtain ⟨i1, i2, i3⟩ : HRep x ∧ x = accGo h.now (h.parties.take k) h ∧ ys = accIds h.now (h.parties.take k) := hi
   have hsx := i1.sz
   have hyl : ys.length ≤ k := by rw [i3]; exact Nat.le_trans (accIds_len _ _) (List.length_take_le _ _)
   by_cases hkl : k < h.parties.length
   · have e1 := accGo_snoc (now := h.now) (x := h) hkl
     have e2 := accIds_snoc (now := h.now) hkl
     rw [← i2] at e1
     rw [← i3] at e2
     unfold accStep at e1
     by_cases hc : (h.parties[k].state == 2 && !dueB h.parties[k] h.now) = true
     · rw [if_pos hc] at e1 e2
       repeat' first | refine ST ?_ | intro _ | apply And.intro
       all_goals first
        | (exfalso; have hd := ‹dueB h.parties[k] h.now = true›; rw [hd] at hc; simp at hc; done)
        | (exfalso; simp_all; done)
        | (rename_i x9 e8 he8 e9 c9 hn9
           refine gGBACK (doM x ⟨4, h.parties[k].id, 0, 0, 0, 0⟩, x9.1, (e9, c9), ys ++ [h.parties[k].id]) hkl (hLx := by rfl) (h := ?_)
           exact ⟨do_hp i1, e1.symm, e2.symm⟩)
        | trace_state
     · rw [if_neg hc] at e1 e2
       repeat' first | refine ST ?_ | intro _ | apply And.intro
       all_goals first
        | (exfalso; apply hc; have hd := ‹dueB h.parties[k] h.now = false›; have hd2 := ‹h.parties[k].state = 2›; rw [hd, hd2]; rfl)
        | (refine gGBACK (x, ((b1, d1), (b2, d2), (b3, d3), (b4, d4), b5, d5), (e, f), ys) hkl (hLx := by rfl) (h := ?_)
           exact ⟨i1, e1.symm, e2.symm⟩)
        | (exfalso; simp_all; done)
        | trace_state
   · rw [List.take_of_length_le (by omega)] at i2 i3
     repeat' first | refine ST ?_ | intro _ | apply And.intro
     all_goals first | (exfalso; omega) | (rw [hac]; exact i2) | (rw [hac]; exact i3) | trace_state
 · have hac : accAll h = (h, []) := if_neg hok
   repeat' first | refine ST ?_ | intro _ | apply And.intro
   all_goals first | exact absurd ‹houseOk h = true› hok | (rw [hac]; done) | (rw [hac]; rfl) | trace_state
end SX
end Go.Proofs.YthnbaikmbgaddaaGreat
/- The program's side: all offers are accepted. -/
namespace Go.Proofs.YthnbaikmbgaddaaGreat
namespace SX
open Go Go.RowKit
set_option linter.unusedVariables false
set_option linter.unusedSimpArgs false
set_option maxRecDepth 10000
set_option maxHeartbeats 1000000
attribute [local irreducible] CD DN OPL AT QL QT CND RETG BKP HL HT HO slA slHo slP ptC pull pulls
instance iAcceptAll_c : HC 26 (∀ (W : World) (cs : List Value) (h : House), HsR W cs h → HouseSz h →Sp W [] 26 #[.agg cs.toArray] (RT2 (RHs (accAll h).1) (RO 3 intL (accAll h).2))) := by
 refine ⟨fun W cs h hh hsz => ?_⟩
 have hh1 := hh; obtain ⟨a1, c1, a2, c2, a3, c3, a4, c4, a5, c5, rfl, h1, h2, h3, h4, h5, h6, h7, h8, h9, h10⟩ := hh
 have hp9 := hsz.2.1
 have hsb : ∀ c ∈ h.cabins, c.wheel.spoke.flatten.length ≤ 1048576 := fun c hc => (hsz.2.2.2.2.2 c hc).2.2
 refine gENT (vs := [_]) Tryz.func26 (gNILN 3 intL ?_)
 by_cases hok : houseOk h = true
 · have hR := houseP_iff.1 (houseP_of hok)
   have hac : accAll h = (accGo h.now h.parties h, accIds h.now h.parties) := if_pos hok
   repeat' first | refine ST ?_ | intro _ | apply And.intro
   · exact absurd (‹houseOk h = false›.symm.trans hok) (by decide)
   · exact absurd (‹houseOk h = false›.symm.trans hok) (by decide)
   rename_i q1 hx0
   refine gFORG 17 h.parties.length (fun q : House × H5 × HH × List Int => [(5, .v (.slice q.2.2.1.1 q.2.2.2.length q.2.2.1.2))]) [(2, fun q => hCl q.1 q.2.1)] (fun q => hOs q.1 q.2.1 ++ [slA 3 intL (.slice q.2.2.1.1 q.2.2.2.length q.2.2.1.2) q.2.2.2]) (fun k q => HRep q.1 ∧ q.1 = accGo h.now (h.parties.take k) h ∧ q.2.2.2 = accIds h.now (h.parties.take k)) (h, q1, (none, 0), []) (h0 := ⟨hR, rfl, rfl⟩) (body := fun k q hk hi => ?_)
   obtain ⟨x, ⟨⟨b1, d1⟩, ⟨b2, d2⟩, ⟨b3, d3⟩, ⟨b4, d4⟩, b5, d5⟩, ⟨e, f⟩, ys⟩ := q
   obtain ⟨i1, i2, i3⟩ : HRep x ∧ x = accGo h.now (h.parties.take k) h ∧ ys = accIds h.now (h.parties.take k) := hi
   have hsx := i1.sz
   have hyl : ys.length ≤ k := by rw [i3]; exact Nat.le_trans (accIds_len _ _) (List.length_take_le _ _)
   by_cases hkl : k < h.parties.length
   · have e1 := accGo_snoc (now := h.now) (x := h) hkl
     have e2 := accIds_snoc (now := h.now) hkl
     rw [← i2] at e1
     rw [← i3] at e2
     unfold accStep at e1
     by_cases hc : (h.parties[k].state == 2 && !dueB h.parties[k] h.now) = true
     · rw [if_pos hc] at e1 e2
       repeat' first | refine ST ?_ | intro _ | apply And.intro
       all_goals first
        | (exfalso; have hd := ‹dueB h.parties[k] h.now = true›; rw [hd] at hc; simp at hc; done)
        | (exfalso; simp_all; done)
        | (rename_i x9 e8 he8 e9 c9 hn9
           refine gGBACK (doM x ⟨4, h.parties[k].id, 0, 0, 0, 0⟩, x9.1, (e9, c9), ys ++ [h.parties[k].id]) hkl (hLx := by rfl) (h := ?_)
           exact ⟨do_hp i1, e1.symm, e2.symm⟩)
        | trace_state
     · rw [if_neg hc] at e1 e2
       repeat' first | refine ST ?_ | intro _ | apply And.intro
       all_goals first
        | (exfalso; apply hc; have hd := ‹dueB h.parties[k] h.now = false›; have hd2 := ‹h.parties[k].state = 2›; rw [hd, hd2]; rfl)
        | (refine gGBACK (x, ((b1, d1), (b2, d2), (b3, d3), (b4, d4), b5, d5), (e, f), ys) hkl (hLx := by rfl) (h := ?_)
           exact ⟨i1, e1.symm, e2.symm⟩)
        | (exfalso; simp_all; done)
        | trace_state
   · rw [List.take_of_length_le (by omega)] at i2 i3
     repeat' first | refine ST ?_ | intro _ | apply And.intro
     all_goals first | (exfalso; omega) | (rw [hac]; exact i2) | (rw [hac]; exact i3) | trace_state
 · have hac : accAll h = (h, []) := if_neg hok
   repeat' first | refine ST ?_ | intro _ | apply And.intro
   all_goals first | exact absurd ‹houseOk h = true› hok | (rw [hac]; done) | (rw [hac]; rfl) | trace_state
end SX
end Go.Proofs.YthnbaikmbgaddaaGreat
/- Walks, printed by program. -/
namespace Go.Proofs.YthnbaikmbgaddaaGreat
namespace SX
open Go Go.RowKit
set_option linter.unusedVariables false
set_option linter.unusedSimpArgs false
set_option maxRecDepth 10000
set_option maxHeartbeats 400000
private theorem z6K1 {p : Prop} (h : p := by intro h9; omega) : p := h
private theorem z5K1 {p : Prop} (h : p := by first | assumption | omega) : p := h
private theorem z4K1 {p : Prop} (h : p := by intro h9; first | omega | (dsimp only at *; omega)) : p := h
private theorem z3K1 {p : Prop} (h : p := by intro h9; first | omega | (rw [List.take_of_length_le (by simp at hk; omega)] at hv1; omega)) : p := h
private theorem z2K1 {p : Prop} (h : p := by intro h9; first | omega | (rw [List.take_of_length_le (by simp at hk; omega)] at hv1; exact ⟨by omega, hv1.2⟩)) : p := h
private theorem z1K1 {p : Prop} (h : p := by intro h9; first | omega | (refine ⟨?_, ?_, ?_, ?_, ?_, ?_⟩ <;> first | omega | (simp_all; done) | (simp_all; omega))) : p := h
theorem szIntS_c (W : World) (a : List Int) (a_a : Option Addr) (a_c : Nat) (ha : Rd intL W a_a a) (left : Int) (hl : left ≤ 1048576) (hl0 : 0 ≤ left) : Spec Tryz.prog W [] 98 #[.slice a_a a.length a_c, vi left] (⟨{x : Int // 0 ≤ x → x + ((a).length : Int) ≤ left}, fun q => vi q.1, fun q => []⟩) := by
 refine ENTER0 (N := 12) (vs := [.slice a_a a.length a_c, vi left]) Tryz.func98 rfl rfl (NL rfl) ?_
 have hal9 := ha.len; have hwl : wr (left - (a.length : Int)) = left - (a.length : Int) := wr_of LO LO
 have ha_len := ha.len
 refine XG (UU 1 [] (NR (UU 5 [(1, I (wr (left - (a.length : Int))))] (XN (SEQ (XG (UU 2 [(10, B (decide ((wr (left - (a.length : Int))) < 0)))] (NI (decide ((wr (left - (a.length : Int))) < 0)) (dT fun h1 bh1 => ?_) (dF fun h1 bh1 => ?_)))))))))
 · refine XG (UU 1 [(4, I (-1))] (XF rfl (vi (-1)) ⟨-1, z6K1⟩ [] rfl))
 refine XK (XG (UU 2 [(4, I (wr (left - (a.length : Int))))] (XF rfl (vi (wr (left - (a.length : Int)))) ⟨wr (left - (a.length : Int)), z6K1⟩ [] rfl)))

theorem szRules_c (W : World) (a : Rules) (a9a : Option Addr) (a9c : Nat) (ha9 : Rd intL W a9a a.seats) (left : Int) (hl : left ≤ 1048576) (hl0 : 0 ≤ left) : Spec Tryz.prog W [] 95 #[.agg (rC a a9a a9c).toArray, vi left] (⟨{x : Int // 0 ≤ x → x + ((a).seats.length : Int) ≤ left}, fun q => vi q.1, fun q => []⟩) := by
 refine ENTER0 (N := 12) (vs := [.agg (rC a a9a a9c).toArray, vi left]) Tryz.func95 rfl rfl (NL rfl) ?_
 have ha9len := ha9.len
 refine XG (UL 2 [(2, .p 0 0)] [(58, (rC a a9a a9c))] (NR (UU 3 [(6, .v (.slice a9a a.seats.length a9c)), (7, I left)] (OPC (CX 8 (fun w hw => szIntS_c w a.seats a9a a9c (ha9.fr hw.fr) left z5K1 z5K1) ?_)))))
 rintro ⟨m1, hm2⟩
 try dsimp only at hm2
 refine UU 1 [(1, I m1)] (XN (SEQ (XG (UU 2 [(10, B (decide (m1 < 0)))] (NI (decide (m1 < 0)) (dT fun h3 bh3 => ?_) (dF fun h3 bh3 => ?_))))))
 · refine XG (UU 1 [(4, I (-1))] (XF rfl (vi (-1)) ⟨-1, z4K1⟩ [] rfl))
 refine XK (XG (UU 2 [(4, I m1)] (XF rfl (vi m1) ⟨m1, z4K1⟩ [] rfl)))

theorem szPartyS_c (W : World) (a : List Party) (a_a : Option Addr) (a_c : Nat) (ha : Rd partyL W a_a a) (left : Int) (hl : left ≤ 1048576) (hl0 : 0 ≤ left) : Spec Tryz.prog W [] 96 #[.slice a_a a.length a_c, vi left] (⟨{x : Int // 0 ≤ x → x + ((a).length : Int) ≤ left}, fun q => vi q.1, fun q => []⟩) := by
 refine ENTER0 (N := 12) (vs := [.slice a_a a.length a_c, vi left]) Tryz.func96 rfl rfl (NL rfl) ?_
 have hal9 := ha.len; have hwl : wr (left - (a.length : Int)) = left - (a.length : Int) := wr_of LO LO
 have ha_len := ha.len
 refine XG (UU 1 [] (NR (UU 5 [(1, I (wr (left - (a.length : Int))))] (XN (SEQ (XG (UU 2 [(10, B (decide ((wr (left - (a.length : Int))) < 0)))] (NI (decide ((wr (left - (a.length : Int))) < 0)) (dT fun h1 bh1 => ?_) (dF fun h1 bh1 => ?_)))))))))
 · refine XG (UU 1 [(4, I (-1))] (XF rfl (vi (-1)) ⟨-1, z6K1⟩ [] rfl))
 refine XK (XG (UU 2 [(4, I (wr (left - (a.length : Int))))] (XF rfl (vi (wr (left - (a.length : Int)))) ⟨wr (left - (a.length : Int)), z6K1⟩ [] rfl)))

theorem szEntryS_c (W : World) (a : List Entry) (a_a : Option Addr) (a_c : Nat) (ha : Rd entryL W a_a a) (left : Int) (hl : left ≤ 1048576) (hl0 : 0 ≤ left) : Spec Tryz.prog W [] 274 #[.slice a_a a.length a_c, vi left] (⟨{x : Int // 0 ≤ x → x + ((a).length : Int) ≤ left}, fun q => vi q.1, fun q => []⟩) := by
 refine ENTER0 (N := 12) (vs := [.slice a_a a.length a_c, vi left]) Tryz.func274 rfl rfl (NL rfl) ?_
 have hal9 := ha.len; have hwl : wr (left - (a.length : Int)) = left - (a.length : Int) := wr_of LO LO
 have ha_len := ha.len
 refine XG (UU 1 [] (NR (UU 5 [(1, I (wr (left - (a.length : Int))))] (XN (SEQ (XG (UU 2 [(10, B (decide ((wr (left - (a.length : Int))) < 0)))] (NI (decide ((wr (left - (a.length : Int))) < 0)) (dT fun h1 bh1 => ?_) (dF fun h1 bh1 => ?_)))))))))
 · refine XG (UU 1 [(4, I (-1))] (XF rfl (vi (-1)) ⟨-1, z6K1⟩ [] rfl))
 refine XK (XG (UU 2 [(4, I (wr (left - (a.length : Int))))] (XF rfl (vi (wr (left - (a.length : Int)))) ⟨wr (left - (a.length : Int)), z6K1⟩ [] rfl)))

theorem szPinS_c (W : World) (a : List Pin) (a_a : Option Addr) (a_c : Nat) (ha : Rd pinL W a_a a) (left : Int) (hl : left ≤ 1048576) (hl0 : 0 ≤ left) : Spec Tryz.prog W [] 363 #[.slice a_a a.length a_c, vi left] (⟨{x : Int // 0 ≤ x → x + ((a).length : Int) ≤ left}, fun q => vi q.1, fun q => []⟩) := by
 refine ENTER0 (N := 12) (vs := [.slice a_a a.length a_c, vi left]) Tryz.func363 rfl rfl (NL rfl) ?_
 have hal9 := ha.len; have hwl : wr (left - (a.length : Int)) = left - (a.length : Int) := wr_of LO LO
 have ha_len := ha.len
 refine XG (UU 1 [] (NR (UU 5 [(1, I (wr (left - (a.length : Int))))] (XN (SEQ (XG (UU 2 [(10, B (decide ((wr (left - (a.length : Int))) < 0)))] (NI (decide ((wr (left - (a.length : Int))) < 0)) (dT fun h1 bh1 => ?_) (dF fun h1 bh1 => ?_)))))))))
 · refine XG (UU 1 [(4, I (-1))] (XF rfl (vi (-1)) ⟨-1, z6K1⟩ [] rfl))
 refine XK (XG (UU 2 [(4, I (wr (left - (a.length : Int))))] (XF rfl (vi (wr (left - (a.length : Int)))) ⟨wr (left - (a.length : Int)), z6K1⟩ [] rfl)))

theorem szPinSS_c (W : World) (a : List (List Pin)) (a_a : Option Addr) (a_c : Nat) (ha : Rd (sl 290 pinL) W a_a a) (left : Int) (hl : left ≤ 1048576) (hl0 : 0 ≤ left) : Spec Tryz.prog W [] 332 #[.slice a_a a.length a_c, vi left] (⟨{x : Int // 0 ≤ x → x + ((a).length : Int) + ((a).flatten.length : Int) ≤ left}, fun q => vi q.1, fun q => []⟩) := by
 refine ENTER0 (N := 27) (vs := [.slice a_a a.length a_c, vi left]) Tryz.func332 rfl rfl (NL rfl) ?_
 have hal9 := ha.len; have hwl : wr (left - (a.length : Int)) = left - (a.length : Int) := wr_of LO LO
 have ha_len := ha.len
 refine XG (UU 1 [] (NR (UU 5 [(1, I (wr (left - (a.length : Int))))] (XN (SEQ (XG (UU 2 [(11, B (decide ((wr (left - (a.length : Int))) < 0)))] (NI (decide ((wr (left - (a.length : Int))) < 0)) (dT fun h1 bh1 => ?_) (dF fun h1 bh1 => ?_)))))))))
 · refine XG (UU 1 [(4, I (-1))] (XF rfl (vi (-1)) ⟨-1, z3K1⟩ [] rfl))
 refine XK (SEQ (XG (UU 1 [(5, I 0)] (XN (BLOCK (LOOP (ι := Nat × (List (List Pin)) × Int) (fun j => [(0, .v (.slice a_a a.length a_c)), (1, I j.2.2), (5, I (j.1 : Int))]) (fun j => []) (fun j => []) (fun j => j.1 + j.2.1.length = a.length ∧ a.drop j.1 = j.2.1 ∧ 0 ≤ j.2.2 ∧ j.2.2 + (a.length : Int) + ((a.take j.1).flatten.length : Int) ≤ left) (fun j => j.2.1.length) (0, a, wr (left - (a.length : Int))) [0, 1, 5] ⟨by simp, rfl, by dsimp only; omega, by simp only [List.take_zero, List.flatten_nil, List.length_nil]; omega⟩ KR rfl rfl ?_))))))
 rintro ⟨k, ys, lf⟩ ⟨hk, hd, hv0, hv1⟩
 try dsimp only at hk hd hv0 hv1
 refine SEQ (XG (UU 4 [(15, B (decide ((k : Int) < (a.length : Int))))] (NI (decide ((k : Int) < (a.length : Int))) (dT fun h2 bh2 => ?_) (dF fun h2 bh2 => ?_))))
 ·
  obtain ⟨y3, ys4, rfl, hx_y3, hd_y3, hl_y3⟩ := drop_cons hd hk LO
  refine XK (SEQ (BLOCK (XG (UU 2 [(18, .v (.slice a_a a.length a_c)), (19, I (k : Int))] ?_))))
  obtain ⟨a5, c6, hel8, hi7, hi7_cap⟩ := sl_view ha hx_y3
  have hi7_len := hi7.len
  refine OPC (IX 174 (.tmp 18) (.tmp 19) 20 0 a_a a.length a_c .i64 (k : Int) 276 1 (Rd.some ha LO) LO LO (OPC (LE 276 (.tmp 20) 21 276 a_a (k * 1) 0 ([.slice a5 y3.length c6]) (.slice a5 y3.length c6) (fun w hw => hel8.fr hw.fr) (UU 1 [(22, I lf)] (OPC (CX 23 (fun w hw => szPinS_c w y3 a5 c6 (hi7.fr hw.fr) lf z5K1 z5K1) ?_))))))
  rintro ⟨m9, hm10⟩
  try dsimp only at hm10
  refine UU 1 [(1, I m9)] (NR (UU 2 [(25, B (decide (m9 < 0)))] (NI (decide (m9 < 0)) (dT fun h11 bh11 => ?_) (dF fun h11 bh11 => ?_))))
  · refine XG (UU 1 [(4, I (-1))] (XF rfl (vi (-1)) ⟨-1, z3K1⟩ [] rfl))
  refine SKIP (OUTN (NEXT (RG (UU 2 [(17, I (wr ((k : Int) + 1)))] (CS 17 (vi (wr ((k : Int) + 1))) (vi ((k + 1 : Nat) : Int)) VC (UU 1 [(5, I ((k + 1 : Nat) : Int))] (ENDOPS (BK (k + 1, ys4, m9) [0, 1, 5] 0 [] ⟨hl_y3, hd_y3, LD, (by rw [flat_take hx_y3, List.length_append]; dsimp only; omega)⟩ (by simp)))))))))
 obtain rfl := drop_nil hk LO
 refine EXIT (PASS trivial (PASS trivial (OUT (NEXT (XG (UU 2 [(4, I lf)] (XF rfl (vi lf) ⟨lf, z3K1⟩ [] rfl)))))))

theorem szWheel_c (W : World) (a : Wheel) (a8a : Option Addr) (a8c : Nat) (ha8 : Rd (sl 290 pinL) W a8a a.spoke) (left : Int) (hl : left ≤ 1048576) (hl0 : 0 ≤ left) : Spec Tryz.prog W [] 275 #[.agg #[.slice a8a a.spoke.length a8c], vi left] (⟨{x : Int // 0 ≤ x → x + ((a).spoke.length : Int) + ((a).spoke.flatten.length : Int) ≤ left}, fun q => vi q.1, fun q => []⟩) := by
 refine ENTER0 (N := 12) (vs := [.agg #[.slice a8a a.spoke.length a8c], vi left]) Tryz.func275 rfl rfl (NL rfl) ?_
 have ha8len := ha8.len
 refine XG (UL 2 [(2, .p 0 0)] [(176, [.slice a8a a.spoke.length a8c])] (NR (UU 3 [(6, .v (.slice a8a a.spoke.length a8c)), (7, I left)] (OPC (CX 8 (fun w hw => szPinSS_c w a.spoke a8a a8c (ha8.fr hw.fr) left z5K1 z5K1) ?_)))))
 rintro ⟨m1, hm2⟩
 try dsimp only at hm2
 refine UU 1 [(1, I m1)] (XN (SEQ (XG (UU 2 [(10, B (decide (m1 < 0)))] (NI (decide (m1 < 0)) (dT fun h3 bh3 => ?_) (dF fun h3 bh3 => ?_))))))
 · refine XG (UU 1 [(4, I (-1))] (XF rfl (vi (-1)) ⟨-1, z4K1⟩ [] rfl))
 refine XK (XG (UU 2 [(4, I m1)] (XF rfl (vi m1) ⟨m1, z4K1⟩ [] rfl)))

theorem szCabin_c (W : World) (a : Cabin) (a6a : Option Addr) (a6c : Nat) (ha6 : Rd entryL W a6a a.row) (a7a : Option Addr) (a7c : Nat) (ha7 : Rd (sl 290 pinL) W a7a a.wheel.spoke) (left : Int) (hl : left ≤ 1048576) (hl0 : 0 ≤ left) : Spec Tryz.prog W [] 198 #[.agg (caC a a6a a6c a7a a7c).toArray, vi left] (⟨{x : Int // 0 ≤ x → x + ((a).row.length : Int) + ((a).wheel.spoke.length : Int) + ((a).wheel.spoke.flatten.length : Int) ≤ left}, fun q => vi q.1, fun q => []⟩) := by
 refine ENTER0 (N := 18) (vs := [.agg (caC a a6a a6c a7a a7c).toArray, vi left]) Tryz.func198 rfl rfl (NL rfl) ?_
 have ha6len := ha6.len
 have ha7len := ha7.len
 refine XG (UL 2 [(2, .p 0 0)] [(178, (caC a a6a a6c a7a a7c))] (NR (UU 3 [(6, .v (.slice a6a a.row.length a6c)), (7, I left)] (OPC (CX 8 (fun w hw => szEntryS_c w a.row a6a a6c (ha6.fr hw.fr) left z5K1 z5K1) ?_)))))
 rintro ⟨m1, hm2⟩
 try dsimp only at hm2
 refine UU 1 [(1, I m1)] (XN (SEQ (XG (UU 2 [(10, B (decide (m1 < 0)))] (NI (decide (m1 < 0)) (dT fun h3 bh3 => ?_) (dF fun h3 bh3 => ?_))))))
 · refine XG (UU 1 [(4, I (-1))] (XF rfl (vi (-1)) ⟨-1, z4K1⟩ [] rfl))
 refine XK (XG (UU 3 [(12, .v (.agg #[.slice a7a a.wheel.spoke.length a7c])), (13, I m1)] (OPC (CX 14 (fun w hw => szWheel_c w a.wheel a7a a7c (ha7.fr hw.fr) m1 z5K1 z5K1) ?_))))
 rintro ⟨m4, hm5⟩
 try dsimp only at hm5
 refine UU 1 [(1, I m4)] (XN (SEQ (XG (UU 2 [(16, B (decide (m4 < 0)))] (NI (decide (m4 < 0)) (dT fun h6 bh6 => ?_) (dF fun h6 bh6 => ?_))))))
 · refine XG (UU 1 [(4, I (-1))] (XF rfl (vi (-1)) ⟨-1, z4K1⟩ [] rfl))
 refine XK (XG (UU 2 [(4, I m4)] (XF rfl (vi m4) ⟨m4, z4K1⟩ [] rfl)))

theorem szCabinS_c (W : World) (a : List Cabin) (a_a : Option Addr) (a_c : Nat) (ha : Rd (cabinLx 256 276 290) W a_a a) (left : Int) (hl : left ≤ 1048576) (hl0 : 0 ≤ left) : Spec Tryz.prog W [] 97 #[.slice a_a a.length a_c, vi left] (⟨{x : Int // 0 ≤ x → x + ((a).length : Int) ≤ left ∧ ∀ c ∈ a, CabinSz c}, fun q => vi q.1, fun q => []⟩) := by
 refine ENTER0 (N := 27) (vs := [.slice a_a a.length a_c, vi left]) Tryz.func97 rfl rfl (NL rfl) ?_
 have hal9 := ha.len; have hwl : wr (left - (a.length : Int)) = left - (a.length : Int) := wr_of LO LO
 have ha_len := ha.len
 refine XG (UU 1 [] (NR (UU 5 [(1, I (wr (left - (a.length : Int))))] (XN (SEQ (XG (UU 2 [(11, B (decide ((wr (left - (a.length : Int))) < 0)))] (NI (decide ((wr (left - (a.length : Int))) < 0)) (dT fun h1 bh1 => ?_) (dF fun h1 bh1 => ?_)))))))))
 · refine XG (UU 1 [(4, I (-1))] (XF rfl (vi (-1)) ⟨-1, z2K1⟩ [] rfl))
 refine XK (SEQ (XG (UU 1 [(5, I 0)] (XN (BLOCK (LOOP (ι := Nat × (List Cabin) × Int) (fun j => [(0, .v (.slice a_a a.length a_c)), (1, I j.2.2), (5, I (j.1 : Int))]) (fun j => []) (fun j => []) (fun j => j.1 + j.2.1.length = a.length ∧ a.drop j.1 = j.2.1 ∧ 0 ≤ j.2.2 ∧ (j.2.2 + (a.length : Int) ≤ left ∧ ∀ c ∈ a.take j.1, CabinSz c)) (fun j => j.2.1.length) (0, a, wr (left - (a.length : Int))) [0, 1, 5] ⟨by simp, rfl, by dsimp only; omega, ⟨by dsimp only; omega, by simp⟩⟩ KR rfl rfl ?_))))))
 rintro ⟨k, ys, lf⟩ ⟨hk, hd, hv0, hv1⟩
 try dsimp only at hk hd hv0 hv1
 refine SEQ (XG (UU 4 [(15, B (decide ((k : Int) < (a.length : Int))))] (NI (decide ((k : Int) < (a.length : Int))) (dT fun h2 bh2 => ?_) (dF fun h2 bh2 => ?_))))
 ·
  obtain ⟨y3, ys4, rfl, hx_y3, hd_y3, hl_y3⟩ := drop_cons hd hk LO
  refine XK (SEQ (BLOCK (XG (UU 2 [(18, .v (.slice a_a a.length a_c)), (19, I (k : Int))] ?_))))
  obtain ⟨a5, c6, a8, c9, hel11, hi7, hi10, hi7_cap, hi10_cap⟩ := cabin_view ha hx_y3
  have hi7_len := hi7.len
  have hi10_len := hi10.len
  refine OPC (IX 60 (.tmp 18) (.tmp 19) 20 0 a_a a.length a_c .i64 (k : Int) 178 7 (Rd.some ha LO) LO LO (OPC (LE 178 (.tmp 20) 21 178 a_a (k * 7) 0 ((caC y3 a5 c6 a8 c9)) (.agg (caC y3 a5 c6 a8 c9).toArray) (fun w hw => hel11.fr hw.fr) (UU 1 [(22, I lf)] (OPC (CX 23 (fun w hw => szCabin_c w y3 a5 c6 (hi7.fr hw.fr) a8 c9 (hi10.fr hw.fr) lf z5K1 z5K1) ?_))))))
  rintro ⟨m12, hm13⟩
  try dsimp only at hm13
  refine UU 1 [(1, I m12)] (NR (UU 2 [(25, B (decide (m12 < 0)))] (NI (decide (m12 < 0)) (dT fun h14 bh14 => ?_) (dF fun h14 bh14 => ?_))))
  · refine XG (UU 1 [(4, I (-1))] (XF rfl (vi (-1)) ⟨-1, z2K1⟩ [] rfl))
  refine SKIP (OUTN (NEXT (RG (UU 2 [(17, I (wr ((k : Int) + 1)))] (CS 17 (vi (wr ((k : Int) + 1))) (vi ((k + 1 : Nat) : Int)) VC (UU 1 [(5, I ((k + 1 : Nat) : Int))] (ENDOPS (BK (k + 1, ys4, m12) [0, 1, 5] 0 [] ⟨hl_y3, hd_y3, LD, ⟨by dsimp only; omega, fun c hc => by rw [List.take_add_one, hx_y3] at hc; rcases List.mem_append.1 hc with h | h; exact hv1.2 c h; (simp at h; subst h; exact ⟨by omega, by omega, by omega⟩)⟩⟩ (by simp)))))))))
 obtain rfl := drop_nil hk LO
 refine EXIT (PASS trivial (PASS trivial (OUT (NEXT (XG (UU 2 [(4, I lf)] (XF rfl (vi lf) ⟨lf, z2K1⟩ [] rfl)))))))

theorem szHouse_c (W : World) (a : House) (a1a : Option Addr) (a1c : Nat) (ha1 : Rd intL W a1a a.rules.seats) (a2a : Option Addr) (a2c : Nat) (ha2 : Rd partyL W a2a a.parties) (a3a : Option Addr) (a3c : Nat) (ha3 : Rd (cabinLx 256 276 290) W a3a a.cabins) (a4a : Option Addr) (a4c : Nat) (ha4 : Rd intL W a4a a.todo) (a5a : Option Addr) (a5c : Nat) (ha5 : Rd intL W a5a a.jobs) (left : Int) (hl : left ≤ 1048576) (hl0 : 0 ≤ left) : Spec Tryz.prog W [] 30 #[.agg (hC a a1a a1c a2a a2c a3a a3c a4a a4c a5a a5c).toArray, vi left] (⟨{x : Int // 0 ≤ x → HouseSz a}, fun q => vi q.1, fun q => []⟩) := by
 refine ENTER0 (N := 36) (vs := [.agg (hC a a1a a1c a2a a2c a3a a3c a4a a4c a5a a5c).toArray, vi left]) Tryz.func30 rfl rfl (NL rfl) ?_
 have ha1len := ha1.len
 have ha2len := ha2.len
 have ha3len := ha3.len
 have ha4len := ha4.len
 have ha5len := ha5.len
 refine XG (UL 2 [(2, .p 0 0)] [(62, (hC a a1a a1c a2a a2c a3a a3c a4a a4c a5a a5c))] (NR (UU 3 [(6, .v (.agg (rC a.rules a1a a1c).toArray)), (7, I left)] (OPC (CX 8 (fun w hw => szRules_c w a.rules a1a a1c (ha1.fr hw.fr) left z5K1 z5K1) ?_)))))
 rintro ⟨m1, hm2⟩
 try dsimp only at hm2
 refine UU 1 [(1, I m1)] (XN (SEQ (XG (UU 2 [(10, B (decide (m1 < 0)))] (NI (decide (m1 < 0)) (dT fun h3 bh3 => ?_) (dF fun h3 bh3 => ?_))))))
 ·
  refine XG (UU 1 [(4, I (-1))] (XF rfl (vi (-1)) ⟨-1, z1K1⟩ [] ?_ (hp := ?_)))
  · rfl
  rfl
 refine XK (XG (UU 3 [(12, .v (.slice a2a a.parties.length a2c)), (13, I m1)] (OPC (CX 14 (fun w hw => szPartyS_c w a.parties a2a a2c (ha2.fr hw.fr) m1 z5K1 z5K1) ?_))))
 rintro ⟨m4, hm5⟩
 try dsimp only at hm5
 refine UU 1 [(1, I m4)] (XN (SEQ (XG (UU 2 [(16, B (decide (m4 < 0)))] (NI (decide (m4 < 0)) (dT fun h6 bh6 => ?_) (dF fun h6 bh6 => ?_))))))
 ·
  refine XG (UU 1 [(4, I (-1))] (XF rfl (vi (-1)) ⟨-1, z1K1⟩ [] ?_ (hp := ?_)))
  · rfl
  rfl
 refine XK (XG (UU 3 [(18, .v (.slice a3a a.cabins.length a3c)), (19, I m4)] (OPC (CX 20 (fun w hw => szCabinS_c w a.cabins a3a a3c (ha3.fr hw.fr) m4 z5K1 z5K1) ?_))))
 rintro ⟨m7, hm8⟩
 try dsimp only at hm8
 refine UU 1 [(1, I m7)] (XN (SEQ (XG (UU 2 [(22, B (decide (m7 < 0)))] (NI (decide (m7 < 0)) (dT fun h9 bh9 => ?_) (dF fun h9 bh9 => ?_))))))
 ·
  refine XG (UU 1 [(4, I (-1))] (XF rfl (vi (-1)) ⟨-1, z1K1⟩ [] ?_ (hp := ?_)))
  · rfl
  rfl
 refine XK (XG (UU 3 [(24, .v (.slice a4a a.todo.length a4c)), (25, I m7)] (OPC (CX 26 (fun w hw => szIntS_c w a.todo a4a a4c (ha4.fr hw.fr) m7 z5K1 z5K1) ?_))))
 rintro ⟨m10, hm11⟩
 try dsimp only at hm11
 refine UU 1 [(1, I m10)] (XN (SEQ (XG (UU 2 [(28, B (decide (m10 < 0)))] (NI (decide (m10 < 0)) (dT fun h12 bh12 => ?_) (dF fun h12 bh12 => ?_))))))
 ·
  refine XG (UU 1 [(4, I (-1))] (XF rfl (vi (-1)) ⟨-1, z1K1⟩ [] ?_ (hp := ?_)))
  · rfl
  rfl
 refine XK (XG (UU 3 [(30, .v (.slice a5a a.jobs.length a5c)), (31, I m10)] (OPC (CX 32 (fun w hw => szIntS_c w a.jobs a5a a5c (ha5.fr hw.fr) m10 z5K1 z5K1) ?_))))
 rintro ⟨m13, hm14⟩
 try dsimp only at hm14
 refine UU 1 [(1, I m13)] (XN (SEQ (XG (UU 2 [(34, B (decide (m13 < 0)))] (NI (decide (m13 < 0)) (dT fun h15 bh15 => ?_) (dF fun h15 bh15 => ?_))))))
 ·
  refine XG (UU 1 [(4, I (-1))] (XF rfl (vi (-1)) ⟨-1, z1K1⟩ [] ?_ (hp := ?_)))
  · rfl
  rfl
 refine XK (XG (UU 2 [(4, I m13)] (XF rfl (vi m13) ⟨m13, z1K1⟩ [] ?_ (hp := ?_))))
 · rfl
 rfl

end SX
end Go.Proofs.YthnbaikmbgaddaaGreat
