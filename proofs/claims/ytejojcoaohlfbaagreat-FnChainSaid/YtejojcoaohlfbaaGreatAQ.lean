/- The reference's side: an offer. -/
import Derived.Test.YtejojcoaohlfbaaGreatAP
namespace Go.Proofs.YtejojcoaohlfbaaGreat
namespace SX
open Go Go.RowKit
set_option linter.unusedVariables false
set_option linter.unusedSimpArgs false
set_option maxRecDepth 10000
set_option maxHeartbeats 1000000
attribute [local irreducible] CD DN OPL AT QL QT CND RETG BKP HL HT HO slA slHo slP ptC pull pulls
abbrev HsOq := HO9q 3 91 70 159 199 166
abbrev ROf (h : House) (q : H5) (b : Bool) (x : House) (id : Int) : Res := ⟨H5, fun r => .tuple #[hV (bif b then h else x) (bif b then q else r), vi id], fun r => hOw 3 91 70 159 199 166 (bif b then h else x) (bif b then q else r)⟩
theorem rOfT {h x : House} {q : H5} {v : Value} {i id : Int} {C R : List Ass} {js : List Nat} (hv : v = hV h q) (hp : pulls js C = some (hOw 3 91 70 159 199 166 h q, R)) (hi : i = id) : RETG (.tuple ⟨[v, vi i]⟩) (ROf h q true x id) C := rEX (r := ROf h q true x id) q hp (by rw [hi, hv]; rfl)
theorem rOfF {h x : House} {q : H5} {v : Value} {i id : Int} {C R : List Ass} (hr : RP v (RHo 3 91 70 159 199 166 x) C R) (hi : i = id) : RETG (.tuple ⟨[v, vi i]⟩) (ROf h q false x id) C := by
 obtain ⟨y, js, hx, hp⟩ := hr
 exact rEX (r := ROf h q false x id) y hp (by rw [hi, hx]; rfl)
theorem offer_eq {h : House} {cabin : Int} {p : Party} {c : Cabin} (hp : partyOf h.parties (nextM h cabin) = p) (hc : p.cabin = cabin) (hid : p.id = nextM h cabin) (hx : h.cabins[cabin.toNat]? = some c) (hn : nextOffer h cabin = nextM h cabin) :
 (⟨h.rules, h.now, h.turn, partyPut h.parties (offeredP h.rules p h.now), h.cabins.set cabin.toNat ⟨lHold c.seats p.size, queueCut c.row (nextM h cabin), wheelPut c.wheel ⟨wr (h.now + h.rules.window), nextM h cabin⟩⟩, h.todo, h.jobs⟩ : House) = offeredM h cabin := by
 unfold offeredM offerM
 rw [hn, hp, hc, modC_of _ hx, holdC, hid]
instance s15Offer_c : HC 144 (∀ (W : World) (cs : List Value) (h : House) (q : H5) (pre : List Ass) (b : Bool) (cabin : Int), HsOq q cs h pre → HRep h → 0 ≤ cabin → cabin < (h.cabins.length : Int) → decide (nextM h cabin = 0) = b →Sp W pre 144 #[.agg cs.toArray, vi cabin] (ROf h q b (offeredM h cabin) (nextM h cabin))) := by
 refine ⟨fun W cs h ⟨⟨a1, c1⟩, ⟨a2, c2⟩, ⟨a3, c3⟩, ⟨a4, c4⟩, a5, c5⟩ pre b cabin ⟨e1, e2⟩ hR hc0 hc1 hb => ?_⟩
 dsimp only [hOw] at e1 e2
 subst e1 e2
 have hsz := hR.sz
 have hk : cabin.toNat < h.cabins.length := by omega
 have hx := List.getElem?_eq_getElem hk
 obtain ⟨hs1, hs2, hs3⟩ := hsz.2.2.2.2.2 _ (List.getElem_mem hk)
 have hn := nextM_eq (hasCab_mk hR hc0 hc1)
 refine gENTO (vs := [_, _]) Tryz.func144 (fun S0 => ?_)
 cases b with
 | true =>
  have hz : nextM h cabin = 0 := of_decide_eq_true hb
  repeat' first | (exfalso; contradiction) | refine ST ?_ | intro _ | apply And.intro
  · refine rOfT (js := [0, 0, 0, 0, 0]) (R := []) rfl ?_ hz.symm
    exact plS pu0 (plS pu0 (plS pu0 (plS pu0 (plS pu0 pl0))))
  all_goals exact absurd hz ‹_ ≠ 0›
 | false =>
  have hz : ¬ nextM h cabin = 0 := of_decide_eq_false hb
  have hat := atId_lt h.parties (nextM h cabin)
  obtain ⟨pm, pid, pst, pcab, _⟩ := next_party (h := h) (cabin := cabin) (by rw [hn]; exact hz)
  rw [hn] at pm pid pst pcab
  obtain ⟨k9, hk9, hg9⟩ := atId_of hR.ids pm
  rw [pid] at hk9
  have hp9 := hsz.2.1
  have hpo : partyOf h.parties (nextM h cabin) = h.parties[(atId h.parties (nextM h cabin)).toNat]'(by omega) := partyOf_of (List.getElem?_eq_getElem (by omega))
  rw [hpo] at pid pcab
  repeat' first | refine ST ?_ | intro _ | apply And.intro
  · exact absurd ‹nextM h cabin = 0› hz
  all_goals
   refine rOfF (pHO (h := ?_)) rfl
   exact offer_eq (p := h.parties[(atId h.parties (nextM h cabin)).toNat]'(by omega)) hpo pcab pid hx hn
end SX
end Go.Proofs.YtejojcoaohlfbaaGreat
