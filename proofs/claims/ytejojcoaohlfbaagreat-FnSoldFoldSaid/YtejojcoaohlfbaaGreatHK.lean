/- Texts of this claim, put together by program. -/
import Derived.Test.YtejojcoaohlfbaaGreatGB
import Derived.Test.YtejojcoaohlfbaaGreatDN
import Derived.Test.YtejojcoaohlfbaaGreatFW
import Derived.Test.YtejojcoaohlfbaaGreatSx9
import Derived.Test.YtejojcoaohlfbaaGreatMdb5
/- Draws: a house and requests. -/
namespace Go.Proofs.YtejojcoaohlfbaaGreat
namespace SX
open Go Go.RowKit
set_option linter.unusedVariables false
set_option linter.unusedSimpArgs false
set_option maxRecDepth 10000
set_option maxHeartbeats 1000000
attribute [local irreducible] CD DN OPL AT QL QT CND RETG BKP HL HT HO slA slHo slP ptC pull pulls
attribute [local irreducible] curO keepA RWk IsCur IsKd
instance s12Bent_c : HC 217 (∀ (W : World) (d : Kd) (p : Value) (q : H5) (cs : List Value) (h : House) (hq : List Ass), IsCur p d → HsQ q cs h hq → h.parties.length ≤ 1048576 →Sp W (cuA d p :: hq) 217 #[p, .agg cs.toArray] (WReq (cuA d p :: hq))) := by
 refine ⟨fun W d p q cs h hq _ hh hb => ?_⟩
 obtain ⟨⟨a1, c1⟩, ⟨a2, c2⟩, ⟨a3, c3⟩, ⟨a4, c4⟩, a5, c5⟩ := q
 obtain ⟨e1, e2⟩ := hh
 subst e1 e2
 refine gENTO (vs := [_, _]) Tryz.func217 (fun S0 => ?_)
 repeat' first | refine STD ?_ | refine ST ?_ | refine ST2 ?_ | refine ST3 ?_ | intro _ | apply And.intro
 all_goals first | trivial | (simp; done) | trace_state
instance s17Live_c : HC 216 (∀ (W : World) (d : Kd) (p : Value) (q : H5) (cs : List Value) (h : House) (hq : List Ass), IsCur p d → HsQ q cs h hq → h.parties.length ≤ 1048576 → h.jobs.length ≤ 1048576 →Sp W (cuA d p :: hq) 216 #[p, .agg cs.toArray] (WReq (cuA d p :: hq))) := by
 refine ⟨fun W d p q cs h hq _ hh hb hb2 => ?_⟩
 obtain ⟨⟨a1, c1⟩, ⟨a2, c2⟩, ⟨a3, c3⟩, ⟨a4, c4⟩, a5, c5⟩ := q
 obtain ⟨e1, e2⟩ := hh
 subst e1 e2
 refine gENTO (vs := [_, _]) Tryz.func216 (fun S0 => ?_)
 repeat' first | refine STD ?_ | refine ST ?_ | refine ST2 ?_ | refine ST3 ?_ | intro _ | apply And.intro
 refine gFORG 5 h.parties.length (fun _ : Unit => []) [] (fun _ => [cuA d p, slA 3 intL (.slice a1 h.rules.seats.length c1) h.rules.seats, slA 91 partyL (.slice a2 h.parties.length c2) h.parties, slA 70 (cabinLx 159 199 166) (.slice a3 h.cabins.length c3) h.cabins, slA 3 intL (.slice a4 h.todo.length c4) h.todo, slA 3 intL (.slice a5 h.jobs.length c5) h.jobs]) (fun _ _ => True) () (hp := (by first | exact plS PU (plS PU (pl0)) | exact plS PU (plS PU (plS PU (pl0))) | exact plS PU (plS PU (plS PU (plS PU (pl0)))) | exact plS PU (pl0) | exact plS PU (plS PU (plS PU (plS PU (plS PU (plS PU (pl0)))))) | exact plS PU (plS PU (plS PU (plS PU (plS PU (plS PU (plS PU (pl0))))))) | exact plS PU (plS PU (plS PU (plS PU (plS PU (plS PU (plS PU (plS PU (pl0)))))))) | exact plS PU (plS PU (plS PU (plS PU (plS PU (plS PU (plS PU (plS PU (plS PU (pl0))))))))) | exact plS PU (plS PU (plS PU (plS PU (plS PU (plS PU (plS PU (plS PU (plS PU (plS PU (plS PU (plS PU (pl0)))))))))))) | exact plS PU (plS PU (plS PU (plS PU (plS PU (plS PU (plS PU (plS PU (plS PU (plS PU (plS PU (pl0))))))))))) | exact plS PU (plS PU (plS PU (plS PU (plS PU (plS PU (plS PU (plS PU (plS PU (plS PU (pl0)))))))))))) (h0 := trivial) (body := fun k q hk hi => ?_)
 by_cases hkl : k < h.parties.length
 · repeat' first | exact absurd hkl ‹¬ _› | refine STD ?_ | refine ST ?_ | refine ST2 ?_ | refine ST3 ?_ | intro _ | apply And.intro
   all_goals first | trivial | (refine gGBACK () hkl (hp := (by first | exact plS PU (plS PU (pl0)) | exact plS PU (plS PU (plS PU (pl0))) | exact plS PU (plS PU (plS PU (plS PU (pl0)))) | exact plS PU (pl0) | exact plS PU (plS PU (plS PU (plS PU (plS PU (plS PU (pl0)))))) | exact plS PU (plS PU (plS PU (plS PU (plS PU (plS PU (plS PU (pl0))))))) | exact plS PU (plS PU (plS PU (plS PU (plS PU (plS PU (plS PU (plS PU (pl0)))))))) | exact plS PU (plS PU (plS PU (plS PU (plS PU (plS PU (plS PU (plS PU (plS PU (pl0))))))))) | exact plS PU (plS PU (plS PU (plS PU (plS PU (plS PU (plS PU (plS PU (plS PU (plS PU (plS PU (plS PU (pl0)))))))))))) | exact plS PU (plS PU (plS PU (plS PU (plS PU (plS PU (plS PU (plS PU (plS PU (plS PU (plS PU (pl0))))))))))) | exact plS PU (plS PU (plS PU (plS PU (plS PU (plS PU (plS PU (plS PU (plS PU (plS PU (pl0)))))))))))) (h := trivial)) | trace_state
 · repeat' first | exact absurd ‹k < h.parties.length› hkl | refine STD ?_ | refine ST ?_ | refine ST2 ?_ | refine ST3 ?_ | intro _ | apply And.intro
   all_goals first | trivial | trace_state
abbrev wrq (xs : List Req) (p : HH) : Value := .slice p.1 xs.length p.2
abbrev orq (xs : List Req) (p : HH) : List Ass := [slA 84 reqL (.slice p.1 xs.length p.2) xs]
abbrev WReqs (P : List Req → Prop) (O : List Ass) : Res := RWk (α := List Req) (ι := HH) P wrq orq O
theorem do_sz8 {h : House} {q : Req} (hs : HouseSz h) : HouseSz (doM h q) := by
  by_cases hv : verdict h q = 0
  · exact (do_hp (verdict_ok hv).hp).sz
  · rw [do_no hv]; exact hs
instance s17Reqs_c : HC 108 (∀ (W : World) (d : Kd) (p : Value) (q : H5) (cs : List Value) (h : House) (hq : List Ass) (n : Int), IsCur p d → HsQ q cs h hq → HouseSz h → n ≤ 1048576 →Sp W (cuA d p :: hq) 108 #[p, .agg cs.toArray, vi n] (WReqs (fun l => l.length ≤ n.toNat) (cuA d p :: hq))) := by
 refine ⟨fun W d p q cs h hq n _ hh hsz hn => ?_⟩
 obtain ⟨⟨a1, c1⟩, ⟨a2, c2⟩, ⟨a3, c3⟩, ⟨a4, c4⟩, a5, c5⟩ := q
 obtain ⟨e1, e2⟩ := hh
 subst e1 e2
 refine gENTO (vs := [_, _, _]) Tryz.func108 (fun S0 => ?_)
 repeat' first | refine STD ?_ | refine ST ?_ | refine ST2 ?_ | refine ST3 ?_ | intro _ | apply And.intro
 rename_i e0 hn0
 refine gFORG 8 n.toNat (fun q : Bool × House × H5 × HH × List Req => [(7, .v (.slice q.2.2.2.1.1 q.2.2.2.2.length q.2.2.2.1.2))]) [(0, fun q => hCl q.2.1 q.2.2.1)] (fun q => Bool.rec ([cuA d p] ++ hOs h ((a1, c1), (a2, c2), (a3, c3), (a4, c4), a5, c5) ++ [slA 84 reqL (.slice q.2.2.2.1.1 q.2.2.2.2.length q.2.2.2.1.2) q.2.2.2.2]) ([cuA d p] ++ hOs h ((a1, c1), (a2, c2), (a3, c3), (a4, c4), a5, c5) ++ hOs q.2.1 q.2.2.1 ++ [slA 84 reqL (.slice q.2.2.2.1.1 q.2.2.2.2.length q.2.2.2.1.2) q.2.2.2.2]) q.1) (fun k q => HouseSz q.2.1 ∧ q.2.2.2.2.length = k ∧ (q.1 = false → q.2.1 = h ∧ q.2.2.1 = ((a1, c1), (a2, c2), (a3, c3), (a4, c4), a5, c5))) (false, h, ((a1, c1), (a2, c2), (a3, c3), (a4, c4), a5, c5), (e0, 0), []) (hp := (by first | exact plS PU (plS PU (pl0)) | exact plS PU (plS PU (plS PU (pl0))) | exact plS PU (plS PU (plS PU (plS PU (pl0)))) | exact plS PU (pl0) | exact plS PU (plS PU (plS PU (plS PU (plS PU (plS PU (pl0)))))) | exact plS PU (plS PU (plS PU (plS PU (plS PU (plS PU (plS PU (pl0))))))) | exact plS PU (plS PU (plS PU (plS PU (plS PU (plS PU (plS PU (plS PU (pl0)))))))) | exact plS PU (plS PU (plS PU (plS PU (plS PU (plS PU (plS PU (plS PU (plS PU (pl0))))))))) | exact plS PU (plS PU (plS PU (plS PU (plS PU (plS PU (plS PU (plS PU (plS PU (plS PU (plS PU (plS PU (pl0)))))))))))) | exact plS PU (plS PU (plS PU (plS PU (plS PU (plS PU (plS PU (plS PU (plS PU (plS PU (plS PU (pl0))))))))))) | exact plS PU (plS PU (plS PU (plS PU (plS PU (plS PU (plS PU (plS PU (plS PU (plS PU (pl0)))))))))))) (h0 := ⟨hsz, rfl, fun _ => ⟨rfl, rfl⟩⟩) (body := fun k q hk hi => ?_)
 obtain ⟨own, x, qx, ⟨e, f⟩, ys⟩ := q
 obtain ⟨hsx, i2, i3⟩ : HouseSz x ∧ ys.length = k ∧ (own = false → x = h ∧ qx = ((a1, c1), (a2, c2), (a3, c3), (a4, c4), a5, c5)) := hi
 have hp1 := hsx.2.1; have hp2 := hsx.2.2.2.2.1
 have hs9 : ∀ q, HouseSz (doM x q) := fun q => do_sz8 hsx
 cases own
 · obtain ⟨rfl, rfl⟩ := i3 rfl
   by_cases hkn : (k : Int) < n
   · repeat' first | exact absurd hkn ‹¬ _› | (refine idJN 6 ?_; refine gJM 6 (fun _ : Req => []) [(1, fun z => reqE z)] ([cuA d p] ++ hOs x ((a1, c1), (a2, c2), (a3, c3), (a4, c4), a5, c5)) (fun _ => True) (plS PU (plS PU (plS PU (plS PU (plS PU (plS PU pl0)))))) ?_ (fun z _ => ?_)) | (refine idJN 8 ?_; refine gJM 8 (fun _ : Req => []) [(1, fun z => reqE z)] ([cuA d p] ++ hOs x ((a1, c1), (a2, c2), (a3, c3), (a4, c4), a5, c5)) (fun _ => True) (plS PU (plS PU (plS PU (plS PU (plS PU (plS PU pl0)))))) ?_ (fun z _ => ?_)) | (refine idJM ?_; refine gJW [] (‹Req› : Req) (hp := (plS PU (plS PU (plS PU (plS PU (plS PU (plS PU pl0))))))) (h := trivial)) | refine STD ?_ | refine ST ?_ | refine ST2 ?_ | refine ST3 ?_ | intro _ | apply And.intro
     all_goals first
      | (rename_i e9 c9 _ x9
         refine gGBACK (true, doM x _, x9.1, (e9, c9), ys ++ [_]) (show k < n.toNat by omega) (hLx := by rfl) (hp := (by first | exact plS PU (plS PU (pl0)) | exact plS PU (plS PU (plS PU (pl0))) | exact plS PU (plS PU (plS PU (plS PU (pl0)))) | exact plS PU (pl0) | exact plS PU (plS PU (plS PU (plS PU (plS PU (plS PU (pl0)))))) | exact plS PU (plS PU (plS PU (plS PU (plS PU (plS PU (plS PU (pl0))))))) | exact plS PU (plS PU (plS PU (plS PU (plS PU (plS PU (plS PU (plS PU (pl0)))))))) | exact plS PU (plS PU (plS PU (plS PU (plS PU (plS PU (plS PU (plS PU (plS PU (pl0))))))))) | exact plS PU (plS PU (plS PU (plS PU (plS PU (plS PU (plS PU (plS PU (plS PU (plS PU (plS PU (plS PU (pl0)))))))))))) | exact plS PU (plS PU (plS PU (plS PU (plS PU (plS PU (plS PU (plS PU (plS PU (plS PU (plS PU (pl0))))))))))) | exact plS PU (plS PU (plS PU (plS PU (plS PU (plS PU (plS PU (plS PU (plS PU (plS PU (pl0)))))))))))) (h := ?_)
         exact ⟨hs9 _, by rw [List.length_append, i2]; rfl, fun w => by cases w⟩)
      | trace_state
   · repeat' first | exact absurd ‹(k : Int) < n› hkn | refine STD ?_ | refine ST ?_ | refine ST2 ?_ | refine ST3 ?_ | intro _ | apply And.intro
     all_goals first | (show ys.length ≤ n.toNat; omega) | trace_state
 · obtain ⟨⟨b1, d1⟩, ⟨b2, d2⟩, ⟨b3, d3⟩, ⟨b4, d4⟩, b5, d5⟩ := qx
   by_cases hkn : (k : Int) < n
   · repeat' first | exact absurd hkn ‹¬ _› | (refine idJN 6 ?_; refine gJM 6 (fun _ : Req => []) [(1, fun z => reqE z)] ([cuA d p] ++ hOs x ((b1, d1), (b2, d2), (b3, d3), (b4, d4), b5, d5)) (fun _ => True) (plS PU (plS PU (plS PU (plS PU (plS PU (plS PU pl0)))))) ?_ (fun z _ => ?_)) | (refine idJN 8 ?_; refine gJM 8 (fun _ : Req => []) [(1, fun z => reqE z)] ([cuA d p] ++ hOs x ((b1, d1), (b2, d2), (b3, d3), (b4, d4), b5, d5)) (fun _ => True) (plS PU (plS PU (plS PU (plS PU (plS PU (plS PU pl0)))))) ?_ (fun z _ => ?_)) | (refine idJM ?_; refine gJW [] (‹Req› : Req) (hp := (plS PU (plS PU (plS PU (plS PU (plS PU (plS PU pl0))))))) (h := trivial)) | refine STD ?_ | refine ST ?_ | refine ST2 ?_ | refine ST3 ?_ | intro _ | apply And.intro
     all_goals first
      | (rename_i e9 c9 _ x9
         refine gGBACK (true, doM x _, x9.1, (e9, c9), ys ++ [_]) (show k < n.toNat by omega) (hLx := by rfl) (hp := (by first | exact plS PU (plS PU (pl0)) | exact plS PU (plS PU (plS PU (pl0))) | exact plS PU (plS PU (plS PU (plS PU (pl0)))) | exact plS PU (pl0) | exact plS PU (plS PU (plS PU (plS PU (plS PU (plS PU (pl0)))))) | exact plS PU (plS PU (plS PU (plS PU (plS PU (plS PU (plS PU (pl0))))))) | exact plS PU (plS PU (plS PU (plS PU (plS PU (plS PU (plS PU (plS PU (pl0)))))))) | exact plS PU (plS PU (plS PU (plS PU (plS PU (plS PU (plS PU (plS PU (plS PU (pl0))))))))) | exact plS PU (plS PU (plS PU (plS PU (plS PU (plS PU (plS PU (plS PU (plS PU (plS PU (plS PU (plS PU (pl0)))))))))))) | exact plS PU (plS PU (plS PU (plS PU (plS PU (plS PU (plS PU (plS PU (plS PU (plS PU (plS PU (pl0))))))))))) | exact plS PU (plS PU (plS PU (plS PU (plS PU (plS PU (plS PU (plS PU (plS PU (plS PU (pl0)))))))))))) (h := ?_)
         exact ⟨hs9 _, by rw [List.length_append, i2]; rfl, fun w => by cases w⟩)
      | trace_state
   · repeat' first | exact absurd ‹(k : Int) < n› hkn | refine STD ?_ | refine ST ?_ | refine ST2 ?_ | refine ST3 ?_ | intro _ | apply And.intro
     all_goals first | (show ys.length ≤ n.toNat; omega) | trace_state
end SX
end Go.Proofs.YtejojcoaohlfbaaGreat
/- Draws: a house and requests; with a number. -/
namespace Go.Proofs.YtejojcoaohlfbaaGreat
namespace SX
open Go Go.RowKit
set_option linter.unusedVariables false
set_option linter.unusedSimpArgs false
set_option maxRecDepth 10000
set_option maxHeartbeats 1000000
attribute [local irreducible] CD DN OPL AT QL QT CND RETG BKP HL HT HO slA slHo slP ptC pull pulls
attribute [local irreducible] curO keepA RWk IsCur IsKd
instance sDrawDoAll_c : HC 33 (∀ (W : World) (d : Kd) (v : Value), IsKd v d →Sp W [keepA d] 33 #[v] (RWk (α := House × List Req) (ι := H5 × HH) (fun x => HouseSz x.1 ∧ x.2.length ≤ 1048576) (W2v hV wrq) (W2w hO9 orq) [keepA d])) := by
 refine ⟨fun W d v hv => ?_⟩
 refine gENTO (vs := [_]) Tryz.func33 (fun S0 => cKV (d := d) (k := fun hok => ?_))
 obtain ⟨a, c, xs, e, hc, hs⟩ := hok
 have e2 : v = .slice a xs.length c := (show d.v = v from by unfold IsKd at hv; exact hv).symm.trans e
 subst e2
 have hxl : xs.length ≤ 9223372036854775807 := by have := hs.1; simp only [maxLen] at this; omega
 clear hs e
 repeat' first | exact ‹HouseSz _› | (refine idRN ?_; refine cCK (k := ?_)) | (refine idRET ?_; refine rW2v (h1 := RPW) (h2 := RPW) (hO := plS PU pl0) (hP := ?_)) | refine STD ?_ | refine ST ?_ | refine ST2 ?_ | refine ST3 ?_ | intro _ | apply And.intro
 all_goals first | (dsimp only; omega) | trace_state
end SX
end Go.Proofs.YtejojcoaohlfbaaGreat
