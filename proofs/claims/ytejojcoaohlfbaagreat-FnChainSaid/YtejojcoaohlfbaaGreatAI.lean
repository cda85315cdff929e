/- Texts of this claim, put together by program. -/
import Derived.Test.YtejojcoaohlfbaaGreatAE
import Derived.Test.YtejojcoaohlfbaaGreatSx9
namespace Go.Proofs.YtejojcoaohlfbaaGreat
namespace SX
open Go Go.RowKit
set_option linter.unusedVariables false
set_option linter.unusedSimpArgs false
set_option maxRecDepth 10000
set_option maxHeartbeats 1000000
attribute [local irreducible] CD DN OPL AT QL QT CND RETG BKP HL HT HO slA slHo slP ptC pull pulls
instance sWheelCut_c : HC 276 (∀ (W : World) (w : Wheel) (v : Value) (p : Pin), Rs (sl 166 pinL) W v w.spoke → w.spoke.flatten.length ≤ 1048576 → w.spoke.length ≤ 1048576 →Sp W [] 276 #[.agg #[v], .agg (pinE p).toArray] (RT2 (RWh 199 166 (wheelCut w p)) RBo)) := by
 refine ⟨fun W w v p hv0 hb hn => ?_⟩
 have hv1 := hv0; obtain ⟨a, c, rfl, hc, hr⟩ := hv0
 refine gENT (vs := [_, _]) Tryz.func276 ?_
 repeat' first | refine ST ?_ | intro _ | apply And.intro
 all_goals first | trivial | (rw [wheelCut_no (.inl ‹_›)]) | (rw [wheelCut_no (.inr ‹_›)]) | skip
 have hwo : wheelOk w = true := ‹_›
 have hw9 : w.spoke.length = 9 := (wheelP_of hwo).1
 have hrem := tmod_rng (a := p.at') (n := 9) (by omega) (by omega)
 have hsp : w.spoke[(Int.tmod p.at' 9).toNat]? = some (w.spoke[(Int.tmod p.at' 9).toNat]'(by omega)) := List.getElem?_eq_getElem (by omega)
 have hfm := flat_mem hsp
 refine gFOR 8 (w.spoke[(Int.tmod p.at' 9).toNat]'(by omega)).length (fun k => pinAt (w.spoke[(Int.tmod p.at' 9).toNat]'(by omega)) p = idxF (fun x : Pin => x.at' == p.at' && x.id == p.id) ((w.spoke[(Int.tmod p.at' 9).toNat]'(by omega)).drop k) k) rfl fun k hk hv => ?_
 repeat' first | refine ST ?_ | intro _ | apply And.intro
 all_goals first | trivial | (rw [wrap_of (by omega) (by omega), wheelCut_at hwo (by omega) hsp (hv.trans (by rw [List.drop_eq_getElem_cons (by omega)]; exact pin_hit ‹_›))]; simp [cutAt]; done) | (rw [hv, List.drop_eq_getElem_cons (by omega)]; exact pin_skip ‹_›) | (rw [wheelCut_none hsp (by rw [hv, List.drop_eq_nil_of_le (by omega)]; simp [idxF])])
abbrev HsO := HO9 3 91 70 159 199 166
abbrev RHs := RHo 3 91 70 159 199 166
instance s13Drop_c : HC 272 (∀ (W : World) (cs : List Value) (h : House) (pre : List Ass) (p : Party), HsO cs h pre → HouseSz h → 0 ≤ p.cabin → p.cabin < (h.cabins.length : Int) →Sp W pre 272 #[.agg cs.toArray, .agg (partyE p).toArray] (RHs (dropM h p))) := by
 refine ⟨fun W cs h pre p ⟨⟨⟨a1, c1⟩, ⟨a2, c2⟩, ⟨a3, c3⟩, ⟨a4, c4⟩, a5, c5⟩, e1, e2⟩ hsz hc0 hc1 => ?_⟩
 subst e1 e2
 have hk : p.cabin.toNat < h.cabins.length := by omega
 have hx := List.getElem?_eq_getElem hk
 obtain ⟨hs1, hs2, hs3⟩ := hsz.2.2.2.2.2 _ (List.getElem_mem hk)
 refine gENTO (vs := [_, _]) Tryz.func272 (fun S0 => ?_)
 repeat' first | refine ST ?_ | intro _ | apply And.intro
 all_goals (rw [dropM, modC_of _ hx]; rfl)
instance s13Gone_c : HC 273 (∀ (W : World) (cs : List Value) (h : House) (pre : List Ass) (p : Party), HsO cs h pre → HouseSz h → p.from' < (h.cabins.length : Int) →Sp W pre 273 #[.agg cs.toArray, .agg (partyE p).toArray] (RHs (goneM h p))) := by
 refine ⟨fun W cs h pre p ⟨⟨⟨a1, c1⟩, ⟨a2, c2⟩, ⟨a3, c3⟩, ⟨a4, c4⟩, a5, c5⟩, e1, e2⟩ hsz hf => ?_⟩
 subst e1 e2
 have hs2 := hsz.2.1
 refine gENTO (vs := [_, _]) Tryz.func273 (fun S0 => ?_)
 repeat' first | refine ST ?_ | intro _ | apply And.intro
 all_goals first | (rw [goneM, if_neg (by omega), modC_of _ (List.getElem?_eq_getElem (by omega))]; rfl) | (rw [goneM, if_pos (by omega)])
instance s13Row_c : HC 270 (∀ (W : World) (cs : List Value) (h : House) (pre : List Ass) (p : Party), HsO cs h pre → HouseSz h → 0 ≤ p.cabin → p.cabin < (h.cabins.length : Int) →Sp W pre 270 #[.agg cs.toArray, .agg (partyE p).toArray] (RHs (rowM' h p))) := by
 refine ⟨fun W cs h pre p ⟨⟨⟨a1, c1⟩, ⟨a2, c2⟩, ⟨a3, c3⟩, ⟨a4, c4⟩, a5, c5⟩, e1, e2⟩ hsz hc0 hc1 => ?_⟩
 subst e1 e2
 have hk : p.cabin.toNat < h.cabins.length := by omega
 have hx := List.getElem?_eq_getElem hk
 obtain ⟨hs1, hs2, hs3⟩ := hsz.2.2.2.2.2 _ (List.getElem_mem hk)
 refine gENTO (vs := [_, _]) Tryz.func270 (fun S0 => ?_)
 repeat' first | refine ST ?_ | intro _ | apply And.intro
 all_goals (rw [rowM', modC_of _ hx]; rfl)
@[reducible] def hCl (x : House) (q : H5) : List Value := [.slice q.1.1 x.rules.seats.length q.1.2, vi x.rules.tiers, vi x.rules.room, vi x.rules.size, vi x.rules.period, vi x.rules.window, vi x.rules.rest, vi x.rules.tries, vi x.rules.crew, vi x.now, vi x.turn, .slice q.2.1.1 x.parties.length q.2.1.2, .slice q.2.2.1.1 x.cabins.length q.2.2.1.2, .slice q.2.2.2.1.1 x.todo.length q.2.2.2.1.2, .slice q.2.2.2.2.1 x.jobs.length q.2.2.2.2.2]
abbrev hOs (x : House) (q : H5) : List Ass := hOw 3 91 70 159 199 166 x q
instance s14Fails_c : HC 242 (∀ (W : World) (cs : List Value) (h : House) (pre : List Ass) (p : Party), HsO cs h pre → HRep h → p ∈ h.parties →Sp W pre 242 #[.agg cs.toArray, .agg (partyE p).toArray] (RHs (failsM h p))) := by
 refine ⟨fun W cs h pre p ⟨⟨⟨a1, c1⟩, ⟨a2, c2⟩, ⟨a3, c3⟩, ⟨a4, c4⟩, a5, c5⟩, e1, e2⟩ hR hm => ?_⟩
 subst e1 e2
 have hsz := hR.sz; have g9 := hR.pr hm; have gc9 := g9.cab; have gf9 := g9.frm; have gl9 := hR.cabs; have gp9 := hR.len
 have hc0 : 0 ≤ p.cabin := by omega
 have hc1 : p.cabin < (h.cabins.length : Int) := by omega
 obtain ⟨hzA, hkl, hkr, hkn, hkp, hkt, hkj⟩ := drop_keep (m := dropM h p) rfl hsz
 have hf1 : p.from' < ((dropM h p).cabins.length : Int) := by omega
 have hp1 : (dropM h p).parties.length ≤ 1048576 := by omega
 have hq : failedB h.rules p h.now = true → (failedX h.rules p h.now).cabin = p.cabin := fun hb => failed_cab (m := (failedX h.rules p h.now, failedB h.rules p h.now)) ⟨rfl, rfl⟩ hb
 have hzB : HouseSz ⟨(dropM h p).rules, (dropM h p).now, (dropM h p).turn, partyPut (dropM h p).parties (failedX h.rules p h.now), (dropM h p).cabins, (dropM h p).todo, (dropM h p).jobs⟩ := put_sz hzA (Nat.le_trans (partyPut_len _ _) (by omega))
 refine gENTO (vs := [_, _]) Tryz.func242 (fun S0 => ?_)
 by_cases hb : failedB h.rules p h.now = true
 · have hq1 := hq hb
   have hq2 : 0 ≤ (failedX h.rules p h.now).cabin := by omega
   have hq3 : (failedX h.rules p h.now).cabin < ((dropM h p).cabins.length : Int) := by omega
   repeat' first | refine ST ?_ | intro _ | apply And.intro
   · exact absurd (hb.symm.trans (‹failedB _ _ _ = false› : failedB h.rules p h.now = false)) (by decide)
   · exact fails_yes (m := dropM h p) (q := (failedX h.rules p h.now, failedB h.rules p h.now)) rfl ⟨rfl, rfl⟩ hb rfl
 · repeat' first | refine ST ?_ | intro _ | apply And.intro
   · exact fails_no (m := dropM h p) (q := (failedX h.rules p h.now, failedB h.rules p h.now)) rfl ⟨rfl, rfl⟩ (by simpa using hb) rfl
   all_goals exact absurd (‹failedB _ _ _ = true› : failedB h.rules p h.now = true) hb
instance sl11Copy_c : HC 123 (∀ (W : World) (cs : List Value) (h : House), HsR W cs h → HouseSz h →Sp W [] 123 #[.agg cs.toArray] (RHs h)) := by
 refine ⟨fun W cs h hh hsz => ?_⟩
 have hh1 := hh; obtain ⟨a1, c1, a2, c2, a3, c3, a4, c4, a5, c5, rfl, h1, h2, h3, h4, h5, h6, h7, h8, h9, h10⟩ := hh
 obtain ⟨z1, z2, z3, z4, z5, z6⟩ := hsz
 refine gENT (vs := [_]) Tryz.func123 ?_
 repeat' first | refine ST ?_ | intro _ | apply And.intro
 refine hTL (hPAR [TS.at false [6, 7] [2] [(6, .v (.agg #[.slice a1 h.rules.seats.length c1, vi h.rules.tiers, vi h.rules.room, vi h.rules.size, vi h.rules.period, vi h.rules.window, vi h.rules.rest, vi h.rules.tries, vi h.rules.crew]))] _,
  TS.at false [12, 14, 15] [7, 10] [(14, .v (.slice a2 h.parties.length c2))] _, TS.at false [16, 18, 19] [11, 14] [(18, .v (.slice a4 h.todo.length c4))] _, TS.at false [20, 22, 23] [15, 18] [(22, .v (.slice a5 h.jobs.length c5))] _, TS.at true [3] [20] [] _] [19, 21] 2 [[[], [], [], [], []], [[], [], [], [], [20]]] (fun c => match c with | [_, _, _, _, []] => [0, 1, 2, 3, 4, 5, 6, 7, 8, 9, 10, 11, 12, 13, 14, 15, 16, 17, 18, 20] | _ => [0, 1, 2, 3, 4, 5, 6, 7, 8, 9, 10, 11, 12, 13, 14, 15, 16, 17, 18])
  ⟨thC (fn := 120) (vs := #[.agg #[.slice a1 h.rules.seats.length c1, vi h.rules.tiers, vi h.rules.room, vi h.rules.size, vi h.rules.period, vi h.rules.window, vi h.rules.rest, vi h.rules.tries, vi h.rules.crew]]) (d := 7) (hcon := by intro c Cr w hw; apply c <;> exact SIDE) (by simp [TS.at]) (by simp [TS.at]) (by intro Tr; kernel_rfl) (by exact NO rfl),
   thB (e := 91) (t := 35) (ty := 35) (ty2 := 35) (x := .tmp 14) (c2 := c2) (d1 := 12) (d2 := 15) inferInstance h7 rfl (by omega) (by simp [TS.at]) (by simp [TS.at]) (by simp [TS.at]) (by intro Tr; kernel_rfl) (by intro Tr; kernel_rfl) (by exact NL rfl) (by exact NL rfl) (by kernel_rfl) (by intro a0 Tr; kernel_rfl) (by intro a0 Tr; kernel_rfl),
   thB (e := 3) (t := 22) (ty := 22) (ty2 := 22) (x := .tmp 18) (c2 := c4) (d1 := 16) (d2 := 19) inferInstance h9 rfl (by omega) (by simp [TS.at]) (by simp [TS.at]) (by simp [TS.at]) (by intro Tr; kernel_rfl) (by intro Tr; kernel_rfl) (by exact NL rfl) (by exact NL rfl) (by kernel_rfl) (by intro a0 Tr; kernel_rfl) (by intro a0 Tr; kernel_rfl),
   thB (e := 3) (t := 22) (ty := 22) (ty2 := 22) (x := .tmp 22) (c2 := c5) (d1 := 20) (d2 := 23) inferInstance h10 rfl (by omega) (by simp [TS.at]) (by simp [TS.at]) (by simp [TS.at]) (by intro Tr; kernel_rfl) (by intro Tr; kernel_rfl) (by exact NL rfl) (by exact NL rfl) (by kernel_rfl) (by intro a0 Tr; kernel_rfl) (by intro a0 Tr; kernel_rfl),
   thA (t := 38) (cs := hZ) (d := 3) (by simp [TS.at]) (by simp [TS.at]) (by intro Tr; kernel_rfl), trivial⟩ ⟨⟨by repeat' (first | exact trivial | exact Or.inl rfl | apply And.intro), ?_⟩, ⟨by repeat' (first | exact trivial | exact Or.inl rfl | exact Or.inr rfl | apply And.intro), ?_⟩, trivial⟩)
 all_goals
  rintro _ _ _ ⟨q1, rfl, rfl, rfl⟩ _ _ _ ⟨_, e2, f2, rfl, rfl, rfl⟩ _ _ _ ⟨_, e4, f4, rfl, rfl, rfl⟩ _ _ _ ⟨_, e5, f5, rfl, rfl, rfl⟩
  try rintro _ _ _ ⟨rfl, rfl, rfl⟩
  show HL _ _ _ _ _ _ _ _ _ _ _ _ _ _ _ _ _ _
  repeat' first | refine ST ?_ | intro _ | apply And.intro
  refine gNILN 70 (cabinLx 159 199 166) ?_
  refine gFORG 4 h.cabins.length (fun _ => []) [(2, fun q : HH × List Cabin => [.slice q1.fst h.rules.seats.length q1.snd, vi h.rules.tiers, vi h.rules.room, vi h.rules.size, vi h.rules.period, vi h.rules.window, vi h.rules.rest, vi h.rules.tries, vi h.rules.crew, vi h.now, vi h.turn, .slice e2 h.parties.length f2, .slice q.1.1 q.2.length q.1.2, .slice e4 h.todo.length f4, .slice e5 h.jobs.length f5])]
   (fun q => [slA 70 (cabinLx 159 199 166) (.slice q.1.1 q.2.length q.1.2) q.2]) (fun k q => q.2 = h.cabins.take k) ((none, 0), []) (h0 := rfl) (body := fun k q hk hv => ?_)
  have hql : q.2.length = k := by rw [hv, List.length_take]; omega
  by_cases hkl : k < h.cabins.length
  · have hcz := z6 _ (List.getElem_mem hkl)
    repeat' first | refine ST ?_ | intro _ | apply And.intro
    all_goals first | (exfalso; omega) | (refine gGBACK ((_, _), _) hkl (h := ?_); rw [hv, ← List.take_append_getElem hkl])
  · repeat' first | refine ST ?_ | intro _ | apply And.intro
    all_goals first | (exfalso; omega) | (rw [hv, List.take_of_length_le (by omega)])
end SX
end Go.Proofs.YtejojcoaohlfbaaGreat
