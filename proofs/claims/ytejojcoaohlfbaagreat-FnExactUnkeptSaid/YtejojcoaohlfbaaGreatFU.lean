/- Texts of this claim, put together by program. -/
import Derived.Test.YtejojcoaohlfbaaGreatSx9
import Derived.Test.YtejojcoaohlfbaaGreatMdly
import Derived.Test.YtejojcoaohlfbaaGreatA9
import Derived.Test.YtejojcoaohlfbaaGreatMdlm
import Derived.Test.YtejojcoaohlfbaaGreatAE
namespace Go.Proofs.YtejojcoaohlfbaaGreat
namespace SX
open Go Go.RowKit
set_option linter.unusedVariables false
set_option linter.unusedSimpArgs false
set_option maxRecDepth 10000
set_option maxHeartbeats 1000000
attribute [local irreducible] CD DN OPL AT QL QT CND RETG BKP HL HT HO slA slHo slP ptC pull pulls
attribute [local irreducible] curO keepA RWk IsCur
end SX
end Go.Proofs.YtejojcoaohlfbaaGreat
namespace Go.Proofs.YtejojcoaohlfbaaGreat
namespace SX
open Go Go.RowKit
set_option linter.unusedVariables false
set_option linter.unusedSimpArgs false
set_option maxRecDepth 10000
set_option maxHeartbeats 1000000
attribute [local irreducible] CD DN OPL AT QL QT CND RETG BKP HL HT HO slA slHo slP ptC pull pulls
theorem eqI_refl (l : List Int) : eqInts l l = true := eqInts_refl l
theorem sameRow_refl (l : List Entry) : sameRow l l = true := (sameRow_iff _ _).2 rfl
theorem samePins_refl (l : List Pin) : samePins l l = true := (samePins_iff _ _).2 rfl
instance s1Same_c : HC 159 (∀ (W : World) (x y : List Int) (v w : Value), Rs intL W v x → Rs intL W w y →Sp W [] 159 #[v, w] (RV (.bool (eqInts x y)))) := by
 refine ⟨fun W x y v w ⟨a, c, e1, hc, hr⟩ ⟨a2, c2, e2, hc2, hr2⟩ => ?_⟩
 subst e1 e2
 have hl := hr.len; have hl2 := hr2.len
 refine gENT (vs := [_, _]) Tryz.func159 ?_
 repeat' first | refine ST ?_ | intro _ | apply And.intro
 · rw [eqInts_ne (by omega)]
 refine gFOR 5 x.length (fun k => eqInts x y = eqInts (x.drop k) (y.drop k)) rfl fun k hk hv => ?_
 repeat' first | refine ST ?_ | intro _ | apply And.intro
 all_goals grind [eqInts, List.drop_eq_getElem_cons]
instance sSameRules_c : HC 158 (∀ (W : World) (cs cs2 : List Value) (r : Rules), RulesR W cs r → RulesR W cs2 r →Sp W [] 158 #[.agg cs.toArray, .agg cs2.toArray] (RV (.bool true))) := by
 refine ⟨fun W cs cs2 r ⟨a, c, e1, hc, hr⟩ ⟨a2, c2, e2, hc2, hr2⟩ => ?_⟩
 subst e1 e2
 have hq := eqI_refl r.seats
 refine gENT (vs := [_, _]) Tryz.func158 ?_
 repeat' first | exact absurd (hq.symm.trans ‹_ = false›) (by decide) | exact absurd rfl ‹_ ≠ _› | refine ST ?_ | intro _ | apply And.intro
 all_goals first | (simp; done) | (simp [hq]; done) | trace_state
instance sSameWheel_c : HC 254 (∀ (W : World) (w : Wheel) (v v2 : Value), Rs (sl 166 pinL) W v w.spoke → Rs (sl 166 pinL) W v2 w.spoke → w.spoke.flatten.length ≤ 1048576 → wheelOk w = true →Sp W [] 254 #[.agg #[v], .agg #[v2]] (RV (.bool true))) := by
 refine ⟨fun W w v v2 hv hv2 hb hok => ?_⟩
 have hv3 := hv; have hv4 := hv2
 obtain ⟨a, c, e1, hc, hr⟩ := hv
 obtain ⟨a2, c2, e2, hc2, hr2⟩ := hv2
 subst e1 e2
 have hq := samePins_refl (pinsOf w)
 have hb2 : w.spoke.flatten.length ≤ 1000000000 := by omega
 refine gENT (vs := [_, _]) Tryz.func254 ?_
 repeat' first | exact absurd (hok.symm.trans ‹_ = false›) (by decide) | refine ST ?_ | intro _ | apply And.intro
 all_goals first | exact hq | (simp [hq]; done) | trace_state
instance sSameCabin_c : HC 160 (∀ (W : World) (cs cs2 : List Value) (x : Cabin), CabinR 166 W cs x → CabinR 166 W cs2 x → x.wheel.spoke.flatten.length ≤ 1048576 → cabinOk x = true →Sp W [] 160 #[.agg cs.toArray, .agg cs2.toArray] (RV (.bool true))) := by
 refine ⟨fun W cs cs2 x h1 h2 hb hok => ?_⟩
 have h3 := h1; have h4 := h2
 obtain ⟨a1, c1, a2, c2, rfl, p1, p2, p3, p4⟩ := h1
 obtain ⟨a3, c3, a4, c4, rfl, q1, q2, q3, q4⟩ := h2
 have hq := sameRow_refl x.row
 have hwo : wheelOk x.wheel = true := by simp only [cabinOk, Bool.and_eq_true] at hok; exact hok.2
 refine gENT (vs := [_, _]) Tryz.func160 ?_
 repeat' first | exact absurd (hok.symm.trans ‹_ = false›) (by decide) | exact absurd (hq.symm.trans ‹_ = false›) (by decide) | refine ST ?_ | intro _ | apply And.intro
 all_goals first | (simp [hq]; done) | (exfalso; simp_all; done) | trace_state
instance sSameHouse_c : HC 64 (∀ (W : World) (cs cs2 : List Value) (x y : House), HsR W cs x → HsR W cs2 y → x = y → houseOk x = true →Sp W [] 64 #[.agg cs.toArray, .agg cs2.toArray] (RV (.bool true))) := by
 refine ⟨fun W cs cs2 x y h1 h2 hxy hok => ?_⟩
 subst hxy
 have h3 := h1; have h4 := h2
 have hR := hp_of hok
 have hsz := hR.sz
 have hw9 : ∀ c ∈ x.cabins, c.wheel.spoke.flatten.length ≤ 1048576 := fun c hc => (hsz.2.2.2.2.2 c hc).2.2
 obtain ⟨a1, c1, a2, c2, a3, c3, a4, c4, a5, c5, rfl, u1, u2, u3, u4, u5, u6, u7, u8, u9, u10⟩ := h1
 obtain ⟨b1, d1, b2, d2, b3, d3, b4, d4, b5, d5, rfl, w1, w2, w3, w4, w5, w6, w7, w8, w9, w10⟩ := h2
 have q1 := eqI_refl x.todo; have q2 := eqI_refl x.jobs
 have l1 := hR.len
 have hcok : ∀ k (hk : k < x.cabins.length), cabinOk x.cabins[k] = true := fun k hk => by
  have h9 := (houseP_of hok).2.2.2.2.2.2.2 k _ (List.getElem?_eq_getElem hk)
  have ha := h9.2.1
  simp only [agrees, Bool.and_eq_true] at ha
  exact ha.1.1.1.1
 have hwk : ∀ k (hk : k < x.cabins.length), (x.cabins[k]).wheel.spoke.flatten.length ≤ 1048576 := fun k hk => hw9 _ (List.getElem_mem hk)
 refine gENT (vs := [_, _]) Tryz.func64 ?_
 repeat' first | exact absurd (hok.symm.trans ‹_ = false›) (by decide) | exact absurd (q1.symm.trans ‹_ = false›) (by decide) | exact absurd (q2.symm.trans ‹_ = false›) (by decide) | refine ST ?_ | intro _ | apply And.intro
 all_goals try (exfalso; first | exact absurd rfl ‹_ ≠ _› | (simp_all; done))
 have l2 := u8.len
 refine gFOR 5 x.parties.length (fun _ => True) trivial fun k hk _ => ?_
 repeat' first | exact absurd (hok.symm.trans ‹_ = false›) (by decide) | refine ST ?_ | intro _ | apply And.intro
 all_goals try (exfalso; first | exact absurd rfl ‹_ ≠ _› | (simp_all; done))
 all_goals try trivial
 refine gFOR 6 x.cabins.length (fun _ => True) trivial fun k9 hk9 _ => ?_
 by_cases hkc : k9 < x.cabins.length
 · have hc1 := hcok k9 hkc; have hc2 := hwk k9 hkc
   repeat' first | exact absurd (hok.symm.trans ‹_ = false›) (by decide) | refine ST ?_ | intro _ | apply And.intro
   all_goals first | trivial | (exfalso; simp_all; done) | trace_state
 repeat' first | exact absurd (hok.symm.trans ‹_ = false›) (by decide) | refine ST ?_ | intro _ | apply And.intro
 all_goals first | trivial | (exfalso; simp_all; done) | trace_state
end SX
end Go.Proofs.YtejojcoaohlfbaaGreat
