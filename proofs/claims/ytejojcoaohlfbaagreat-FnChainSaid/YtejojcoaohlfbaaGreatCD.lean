/- Texts of this claim, put together by program. -/
import Derived.Test.YtejojcoaohlfbaaGreatAZ
import Derived.Test.YtejojcoaohlfbaaGreatBW
namespace Go.Proofs.YtejojcoaohlfbaaGreat
namespace SX
open Go Go.RowKit
set_option linter.unusedVariables false
set_option linter.unusedSimpArgs false
set_option maxRecDepth 10000
set_option maxHeartbeats 1000000
attribute [local irreducible] CD DN OPL AT QL QT CND RETG BKP HL HT HO slA slHo slP ptC pull pulls
theorem tickT_len {ps : List Party} : ∀ (k : Nat) (l : List Int), (tickT ps k l).length ≤ l.length + k
 | 0, l => by simp [tickT]
 | k + 1, l => by
   have h1 := tickT_len k l (ps := ps)
   unfold tickT
   split
   · unfold todoPut
     split
     · omega
     · rw [List.length_append, List.length_singleton]; omega
   · omega
theorem tickC_zero (h : House) : ∀ (l : List Cabin) (i : Nat), tickC h 0 i l = l
 | [], _ => rfl
 | c :: cs, i => by rw [tickC, if_neg (by omega), tickC_zero h cs]
theorem tickT_on {ps : List Party} {k : Nat} {l : List Int} (h : countGo ps k 0 > 0) : tickT ps (k + 1) l = todoPut (tickT ps k l) k := by rw [tickT, if_pos h]
theorem tickT_off {ps : List Party} {k : Nat} {l : List Int} (h : ¬ countGo ps k 0 > 0) : tickT ps (k + 1) l = tickT ps k l := by rw [tickT, if_neg h]
theorem tickC_on {h : House} {k : Nat} {x : Cabin} (hx : (tickC h k 0 h.cabins)[k]? = some x) : tickC h (k + 1) 0 h.cabins = (tickC h k 0 h.cabins).set k ⟨x.seats, queueOf h.rules h.parties (k : Int) (wr (h.now + 1)), x.wheel⟩ := by
 have h1 := tickC_step h k h.cabins 0
 rw [Nat.zero_add] at h1
 rw [h1, modC_of _ (by simpa using hx)]
 simp
theorem todo_len {h : House} (hp : HRep h) : h.todo.length ≤ h.cabins.length ∧ h.cabins.length ≤ 10 := by
 have hj := JobsP.iff.1 hp.jobs
 have hs := (rr_of hp.rules).seats; have hcb := hp.cabs
 have h1 := nodup_le (m := (List.range h.cabins.length).map (fun i : Nat => (i : Int))) hj.2.1 (fun x hx => by
  have := hp.todoRng hx
  exact List.mem_map.2 ⟨x.toNat, List.mem_range.2 (by omega), by omega⟩)
 rw [List.length_map, List.length_range] at h1
 exact ⟨h1, by omega⟩
theorem tick_facts {h : House} (hv : verdict h ⟨6, 0, 0, 0, 0, 0⟩ = 0) : HRep h ∧ h.now < 1000000 ∧ doM h ⟨6, 0, 0, 0, 0, 0⟩ = tickK h h.cabins.length := by
 have v := verdict_ok hv
 have g := v.v
 refine ⟨v.hp, ?_, ?_⟩
 · have g2 : (if h.now ≥ 1000000 then (15 : Int) else 0) = 0 := by simpa [vKind] using g
   split at g2 <;> omega
 · rw [doM, if_pos hv]; rfl
instance sTick_c : HC 180 (∀ (W : World) (cs : List Value) (h : House), HsR W cs h → HouseSz h →Sp W [] 180 #[.agg cs.toArray] (RT2 (RHs (doM h ⟨6, 0, 0, 0, 0, 0⟩)) (RV (vi (verdict h ⟨6, 0, 0, 0, 0, 0⟩))))) := by
 refine ⟨fun W cs h hh hsz => ?_⟩
 have hh1 := hh; obtain ⟨a1, c1, a2, c2, a3, c3, a4, c4, a5, c5, rfl, h1, h2, h3, h4, h5, h6, h7, h8, h9, h10⟩ := hh
 have hp9 := hsz.2.1; have ht9 := hsz.2.2.2.1
 have hsb : ∀ c ∈ h.cabins, c.wheel.spoke.flatten.length ≤ 1048576 := fun c hc => (hsz.2.2.2.2.2 c hc).2.2
 refine gENT (vs := [_]) Tryz.func180 ?_
 by_cases hv : verdict h ⟨6, 0, 0, 0, 0, 0⟩ = 0
 · obtain ⟨p1, p2, p3⟩ := tick_facts hv
   have hnw := p1.now; have hcb := p1.cabs; have hln := p1.len; have hn10 := (todo_len p1).2
   rw [p3]
   repeat' first | refine ST ?_ | intro _ | apply And.intro
   all_goals first | exact absurd hv ‹verdict h _ ≠ 0› | skip
   rename_i q1 hx0
   refine gFORG 6 h.cabins.length (fun _ => []) [(2, fun q : (List Cabin × List Int) × H5 => [.slice q.2.1.1 h.rules.seats.length q.2.1.2, vi h.rules.tiers, vi h.rules.room, vi h.rules.size, vi h.rules.period, vi h.rules.window, vi h.rules.rest, vi h.rules.tries, vi h.rules.crew, vi (wr (h.now + 1)), vi h.turn, .slice q.2.2.1.1 h.parties.length q.2.2.1.2, .slice q.2.2.2.1.1 h.cabins.length q.2.2.2.1.2, .slice q.2.2.2.2.1.1 q.1.2.length q.2.2.2.2.1.2, .slice q.2.2.2.2.2.1 h.jobs.length q.2.2.2.2.2.2])] (fun q => [slA 3 intL (.slice q.2.1.1 h.rules.seats.length q.2.1.2) h.rules.seats, slA 91 partyL (.slice q.2.2.1.1 h.parties.length q.2.2.1.2) h.parties, slA 70 (cabinLx 159 199 166) (.slice q.2.2.2.1.1 h.cabins.length q.2.2.2.1.2) q.1.1, slA 3 intL (.slice q.2.2.2.2.1.1 q.1.2.length q.2.2.2.2.1.2) q.1.2, slA 3 intL (.slice q.2.2.2.2.2.1 h.jobs.length q.2.2.2.2.2.2) h.jobs]) (fun k q => q.1.1 = tickC h k 0 h.cabins ∧ q.1.2 = tickT h.parties k h.todo) ((h.cabins, h.todo), q1) (h0 := ⟨(tickC_zero h h.cabins 0).symm, rfl⟩) (body := fun k q hk hi => ?_)
   obtain ⟨⟨cl, tl⟩, ⟨b1, d1⟩, ⟨b2, d2⟩, ⟨b3, d3⟩, ⟨b4, d4⟩, b5, d5⟩ := q
   obtain ⟨i1, i2⟩ : cl = tickC h k 0 h.cabins ∧ tl = tickT h.parties k h.todo := hi
   have hcl : cl.length = h.cabins.length := by rw [i1]; exact tickC_len h k h.cabins 0
   have htl : tl.length ≤ 1048576 := by have := tickT_len (ps := h.parties) k h.todo; have h9 := todo_len p1; rw [i2]; omega
   by_cases hkl : k < h.cabins.length
   · have hxk := List.getElem?_eq_getElem (show k < cl.length by omega)
     have ec := tickC_on (h := h) (k := k) (by rw [← i1]; exact hxk)
     rw [← i1] at ec
     repeat' first | refine ST ?_ | intro _ | apply And.intro
     all_goals first
      | exact hv.symm
      | (exfalso; omega)
      | (exfalso; have h9 : ¬ k < cl.length := ‹_›; omega)
      | (have hc : countGo h.parties (k : Int) 0 > 0 := ‹_›
         rename_i x9
         refine dUNC (k := ?_)
         refine gGBACK ((cl.set k ⟨cl[k].seats, queueOf h.rules h.parties (k : Int) (wr (h.now + 1)), cl[k].wheel⟩, todoPut tl k), (b1, d1), (b2, d2), (b3, d3), x9, b5, d5) hkl (hLx := by rfl) (h := ?_)
         exact ⟨ec.symm, by show todoPut tl k = _; rw [tickT_on hc, ← i2]⟩)
      | (have hc : ¬ countGo h.parties (k : Int) 0 > 0 := ‹_›
         refine dUNC (k := ?_)
         refine gGBACK ((cl.set k ⟨cl[k].seats, queueOf h.rules h.parties (k : Int) (wr (h.now + 1)), cl[k].wheel⟩, tl), (_, _), (_, _), (_, _), (_, _), _, _) hkl (hLx := by rfl) (h := ?_)
         exact ⟨ec.symm, by show tl = _; rw [tickT_off hc, ← i2]⟩)
      | trace_state
   · have hkn : k = h.cabins.length := by omega
     rw [hkn] at i1 i2
     repeat' first | refine ST ?_ | intro _ | apply And.intro
     all_goals first
      | exact hv.symm
      | (exfalso; omega)
      | (exfalso; have h9 : k < cl.length := ‹_›; omega)
      | (rw [i1, i2]; rfl)
      | trace_state
 · have hd : doM h ⟨6, 0, 0, 0, 0, 0⟩ = h := by rw [doM, if_neg hv]
   rw [hd]
   repeat' first | refine ST ?_ | intro _ | apply And.intro
   all_goals first | exact absurd ‹_› hv | rfl | trace_state
instance iScan_c : HC 235 (∀ (W : World) (cs : List Value) (h : House) (cabin : Int), HsR W cs h → hasCab h cabin = true →Sp W [] 235 #[.agg cs.toArray, vi cabin] (RT2 (RHs (scan h cabin).1) (RO 3 intL (scan h cabin).2))) := by
 refine ⟨fun W cs h cabin hh hb => ?_⟩
 have hh1 := hh; obtain ⟨a1, c1, a2, c2, a3, c3, a4, c4, a5, c5, rfl, h1, h2, h3, h4, h5, h6, h7, h8, h9, h10⟩ := hh
 obtain ⟨hR, hc0, hc1⟩ := hasCab_rep hb
 obtain ⟨hE1, hE2⟩ := expire_hp hb
 have hsc : scan h cabin = scanM (expireM h cabin) cabin := by rw [scan, if_pos hb]
 refine gENT (vs := [_, _]) Tryz.func235 (gNILN 3 intL ?_)
 repeat' first | refine ST ?_ | refine ST2 ?_ | intro _ | apply And.intro
 rename_i q1
 refine gLPG (fun q : House × H5 × HH × List Int => [(7, .v (.slice q.2.2.1.1 q.2.2.2.length q.2.2.1.2))]) [(2, fun q => hCl q.1 q.2.1)] (fun q => hOs q.1 q.2.1 ++ [slA 3 intL (.slice q.2.2.1.1 q.2.2.2.length q.2.2.1.2) q.2.2.2])
  (fun q => HRep q.1 ∧ hasCab q.1 cabin = true ∧ q.2.2.2.length + waits q.1.parties ≤ 1048576 ∧ scan h cabin = ((scanM q.1 cabin).1, q.2.2.2 ++ (scanM q.1 cabin).2)) (fun q => waits q.1.parties) (expireM h cabin, q1, (none, 0), [])
  (h0 := ⟨hE1, hE2, by have := waits_le (expireM h cabin).parties; have := hE1.len; simp only [List.length_nil]; omega, hsc⟩) (body := fun q hi => ?_)
 obtain ⟨x, ⟨⟨b1, d1⟩, ⟨b2, d2⟩, ⟨b3, d3⟩, ⟨b4, d4⟩, b5, d5⟩, ⟨e, f⟩, ys⟩ := q
 obtain ⟨i1, i2, i3, i4⟩ : HRep x ∧ hasCab x cabin = true ∧ ys.length + waits x.parties ≤ 1048576 ∧ scan h cabin = ((scanM x cabin).1, ys ++ (scanM x cabin).2) := hi
 have hsx := i1.sz
 by_cases hz : nextOffer x cabin = 0
 · have he9 := scanM_end hz
   repeat' first | refine ST ?_ | refine ST2 ?_ | intro _ | apply And.intro
   all_goals first | ((have hq : scan h cabin = (x, ys ++ []) := i4.trans (by rw [he9])); first | exact (congrArg Prod.fst hq).symm | exact ((congrArg Prod.snd hq).trans (List.append_nil ys)).symm) | exact absurd hz ‹_› | trace_state
 · have hst := scanM_step hz
   obtain ⟨o1, o2⟩ := offered_hp hz
   have how := offered_waits hz
   have ho : offer x cabin = offeredM x cabin := by unfold offer; rw [if_neg hz]
   repeat' first | refine ST ?_ | refine ST2 ?_ | intro _ | apply And.intro
   all_goals first
    | exact absurd ‹nextOffer x cabin = 0› hz
    | (rename_i r9 n9 e8 he8 e9 c9 nn9
       refine gLBK (offer x cabin, r9.1, (e9, c9), ys ++ [nextOffer x cabin]) (by show waits (offer x cabin).parties < waits x.parties; rw [ho]; omega) (hLx := by rfl) (h := ?_)
       refine ⟨by show HRep (offer x cabin); rw [ho]; exact o1, by show hasCab (offer x cabin) cabin = true; rw [ho]; exact o2, ?_, ?_⟩
       · show (ys ++ [nextOffer x cabin]).length + waits (offer x cabin).parties ≤ 1048576
         rw [ho]; simp only [List.length_append, List.length_cons, List.length_nil]; omega
       · show scan h cabin = ((scanM (offer x cabin) cabin).1, (ys ++ [nextOffer x cabin]) ++ (scanM (offer x cabin) cabin).2)
         rw [i4, hst, ho]; simp)
    | trace_state
theorem raw_room {h : House} {k : Nat} (hp : HRep h) (hk : k < h.cabins.length) (now : Int) : (queueRaw h.rules h.parties (k : Int) now).length ≤ 12 := by
 have h1 := hp.room (List.getElem?_eq_getElem hk)
 have h2 := count_cnt hp (k : Int)
 have h3 := hp.len
 have h4 := queueRaw_len h.rules (k : Int) now h.parties 0 (by omega) (by omega)
 omega
instance iTick_c : HC 72 (∀ (W : World) (cs : List Value) (h : House), HsR W cs h → HouseSz h →Sp W [] 72 #[.agg cs.toArray] (RT2 (RHs (doM h ⟨6, 0, 0, 0, 0, 0⟩)) (RV (vi (verdict h ⟨6, 0, 0, 0, 0, 0⟩))))) := by
 refine ⟨fun W cs h hh hsz => ?_⟩
 have hh1 := hh; obtain ⟨a1, c1, a2, c2, a3, c3, a4, c4, a5, c5, rfl, h1, h2, h3, h4, h5, h6, h7, h8, h9, h10⟩ := hh
 have hp9 := hsz.2.1; have ht9 := hsz.2.2.2.1
 have hsb : ∀ c ∈ h.cabins, c.wheel.spoke.flatten.length ≤ 1048576 := fun c hc => (hsz.2.2.2.2.2 c hc).2.2
 refine gENT (vs := [_]) Tryz.func72 ?_
 by_cases hv : verdict h ⟨6, 0, 0, 0, 0, 0⟩ = 0
 · obtain ⟨p1, p2, p3⟩ := tick_facts hv
   have hnw := p1.now; have hcb := p1.cabs; have hln := p1.len; have hn10 := (todo_len p1).2
   rw [p3]
   repeat' first | refine ST ?_ | refine ST2 ?_ | intro _ | apply And.intro
   all_goals first | exact absurd hv ‹verdict h _ ≠ 0› | skip
   rename_i q1 hx0
   refine gFORG 23 h.cabins.length (fun _ => []) [(2, fun q : (List Cabin × List Int) × H5 => [.slice q.2.1.1 h.rules.seats.length q.2.1.2, vi h.rules.tiers, vi h.rules.room, vi h.rules.size, vi h.rules.period, vi h.rules.window, vi h.rules.rest, vi h.rules.tries, vi h.rules.crew, vi (wr (h.now + 1)), vi h.turn, .slice q.2.2.1.1 h.parties.length q.2.2.1.2, .slice q.2.2.2.1.1 h.cabins.length q.2.2.2.1.2, .slice q.2.2.2.2.1.1 q.1.2.length q.2.2.2.2.1.2, .slice q.2.2.2.2.2.1 h.jobs.length q.2.2.2.2.2.2])] (fun q => [slA 3 intL (.slice q.2.1.1 h.rules.seats.length q.2.1.2) h.rules.seats, slA 91 partyL (.slice q.2.2.1.1 h.parties.length q.2.2.1.2) h.parties, slA 70 (cabinLx 159 199 166) (.slice q.2.2.2.1.1 h.cabins.length q.2.2.2.1.2) q.1.1, slA 3 intL (.slice q.2.2.2.2.1.1 q.1.2.length q.2.2.2.2.1.2) q.1.2, slA 3 intL (.slice q.2.2.2.2.2.1 h.jobs.length q.2.2.2.2.2.2) h.jobs]) (fun k q => q.1.1 = tickC h k 0 h.cabins ∧ q.1.2 = tickT h.parties k h.todo) ((h.cabins, h.todo), q1) (h0 := ⟨(tickC_zero h h.cabins 0).symm, rfl⟩) (body := fun k q hk hi => ?_)
   obtain ⟨⟨cl, tl⟩, ⟨b1, d1⟩, ⟨b2, d2⟩, ⟨b3, d3⟩, ⟨b4, d4⟩, b5, d5⟩ := q
   obtain ⟨i1, i2⟩ : cl = tickC h k 0 h.cabins ∧ tl = tickT h.parties k h.todo := hi
   have hcl : cl.length = h.cabins.length := by rw [i1]; exact tickC_len h k h.cabins 0
   have htl : tl.length ≤ 1048576 := by have := tickT_len (ps := h.parties) k h.todo; have h9 := todo_len p1; rw [i2]; omega
   by_cases hkl : k < h.cabins.length
   · have hxk := List.getElem?_eq_getElem (show k < cl.length by omega)
     have ec := tickC_on (h := h) (k := k) (by rw [← i1]; exact hxk)
     rw [← i1] at ec
     have hrr := raw_room p1 hkl (wr (h.now + 1))
     repeat' first | refine ST ?_ | refine ST2 ?_ | intro _ | apply And.intro
     all_goals first
      | exact hv.symm
      | (exfalso; omega)
      | (exfalso; have h9 : ¬ k < cl.length := ‹_›; omega)
      | (have hc : countGo h.parties (k : Int) 0 > 0 := ‹_›
         rename_i x9
         refine dUNC (k := ?_)
         refine gGBACK ((cl.set k ⟨cl[k].seats, queueOf h.rules h.parties (k : Int) (wr (h.now + 1)), cl[k].wheel⟩, todoPut tl k), (b1, d1), (b2, d2), (b3, d3), x9, b5, d5) hkl (hLx := by rfl) (h := ?_)
         exact ⟨ec.symm, by show todoPut tl k = _; rw [tickT_on hc, ← i2]⟩)
      | (have hc : ¬ countGo h.parties (k : Int) 0 > 0 := ‹_›
         refine dUNC (k := ?_)
         refine gGBACK ((cl.set k ⟨cl[k].seats, queueOf h.rules h.parties (k : Int) (wr (h.now + 1)), cl[k].wheel⟩, tl), (_, _), (_, _), (_, _), (_, _), _, _) hkl (hLx := by rfl) (h := ?_)
         exact ⟨ec.symm, by show tl = _; rw [tickT_off hc, ← i2]⟩)
      | trace_state
   · have hkn : k = h.cabins.length := by omega
     rw [hkn] at i1 i2
     repeat' first | refine ST ?_ | refine ST2 ?_ | intro _ | apply And.intro
     all_goals first
      | exact hv.symm
      | (exfalso; omega)
      | (exfalso; have h9 : k < cl.length := ‹_›; omega)
      | (rw [i1, i2]; rfl)
      | trace_state
 · have hd : doM h ⟨6, 0, 0, 0, 0, 0⟩ = h := by rw [doM, if_neg hv]
   rw [hd]
   repeat' first | refine ST ?_ | refine ST2 ?_ | intro _ | apply And.intro
   all_goals first | exact absurd ‹_› hv | rfl | trace_state
end SX
end Go.Proofs.YtejojcoaohlfbaaGreat
