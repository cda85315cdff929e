/- The reference's side: chains of upgrades. -/
import Derived.Test.YtejojcoaohlfbaaGreatAP
import Derived.Test.YtejojcoaohlfbaaGreatMdb3
import Derived.Test.YtejojcoaohlfbaaGreatLC
import Derived.Test.YtejojcoaohlfbaaGreatMdc2
import Derived.Test.YtejojcoaohlfbaaGreatAN
import Derived.Test.YtejojcoaohlfbaaGreatA9
import Derived.Test.YtejojcoaohlfbaaGreatMdlg
namespace Go.Proofs.YtejojcoaohlfbaaGreat
namespace SX
open Go Go.RowKit
set_option linter.unusedVariables false
set_option linter.unusedSimpArgs false
set_option maxRecDepth 10000
set_option maxHeartbeats 1000000
attribute [local irreducible] CD DN OPL AT QL QT CND RETG BKP HL HT HO slA slHo slP ptC pull pulls
structure PickV (h : House) (q : Req) : Prop where
 hp : HRep h
 v : verdict h q = 0
 k7 : q.kind = 7
 id : 0 ≤ q.id ∧ q.id < (h.jobs.length : Int)
 job : 0 ≤ jobAt h q.id ∧ jobAt h q.id < (h.cabins.length : Int)
 cab : hasCab h (jobAt h q.id) = true
 ids : idsM h q = (scanM (expireM h (jobAt h q.id)) (jobAt h q.id)).2
 par : (doM h q).parties = (scanM (expireM h (jobAt h q.id)) (jobAt h q.id)).1.parties
theorem zcG {h : House} {q : Req} (hs : HouseSz h) : HouseSz (doM h q) := by
 by_cases hv : verdict h q = 0
 · exact (do_hp (verdict_ok hv).hp).sz
 · rw [zcl hv]; exact hs
attribute [local irreducible] zJ
def zH (c f : Int) (p : Party) : Bool := p.cabin == c && p.from' == f
theorem zby {h : House} {c : Int} {k : Nat} (hf : zL h c k = true) : zn h c (k + 1) = zn h c k ++ [(k : Int)] := if_pos hf
theorem zbx {h : House} {c : Int} {k : Nat} (hf : zL h c k = false) : zn h c (k + 1) = zn h c k := if_neg (by rw [hf]; decide)
theorem zb8 {h : House} {c f : Int} {j : Nat} (hj : j < h.parties.length) (hv : zL h c f = (h.parties.drop j).any (zH c f)) : zL h c f = ((h.parties[j].cabin == c && h.parties[j].from' == f) || (h.parties.drop (j + 1)).any (zH c f)) := by
 rw [hv, List.drop_eq_getElem_cons hj, List.any_cons]; rfl
instance zcJ : HC 149 (∀ (W : World) (cs : List Value) (h : House) (cabin : Int), HsR W cs h → HouseSz h →Sp W [] 149 #[.agg cs.toArray, vi cabin] (RO 3 intL (zf h cabin))) := by
 refine ⟨fun W cs h cabin hh hsz => ?_⟩
 have hh1 := hh; obtain ⟨a1, c1, a2, c2, a3, c3, a4, c4, a5, c5, rfl, h1, h2, h3, h4, h5, h6, h7, h8, h9, h10⟩ := hh
 have hp9 := hsz.2.1; have hc9 := hsz.2.2.1
 refine gENT (vs := [_, _]) Tryz.func149 ?_
 repeat' first | refine ST ?_ | intro _ | apply And.intro
 refine gFORO 6 h.cabins.length 5 (fun _ : Unit => []) (fun k _ xs => xs = zn h cabin k) () (h0 := rfl) (body := fun k _ a c xs hk hv => ?_)
 have hln : xs.length ≤ k := by rw [hv]; exact zC h cabin k
 by_cases hkl : k < h.cabins.length
 · repeat' first | exact absurd hkl ‹¬ k < h.cabins.length› | refine ST ?_ | intro _ | apply And.intro
   refine gFOR 7 h.parties.length (fun j => zL h cabin k = (h.parties.drop j).any (zH cabin k)) rfl fun j hj hv2 => ?_
   by_cases hjl : j < h.parties.length
   · have hon := zb8 hjl hv2
     repeat' first | refine ST ?_ | intro _ | apply And.intro
     all_goals first | exact LEN | (exfalso; omega) | (rw [zby (by rw [hon]; simp [*]), hv]; done) | (rw [hon]; simp [*]; done)
   · have hno : zL h cabin k = false := by rw [hv2, List.drop_eq_nil_of_le (by omega)]; rfl
     repeat' first | refine ST ?_ | intro _ | apply And.intro
     all_goals first | (exfalso; omega) | (rw [zbx hno, hv]; done)
 · repeat' first | refine ST ?_ | intro _ | apply And.intro
   all_goals first | (exfalso; omega) | exact rEX (a, c) (plS PU pl0) (by rw [hv]; rfl) | (rw [hv, show k = h.cabins.length by omega]; rfl)
theorem za0 {ls ms : List Int} {j : Nat} (hj : j < ls.length) : (ls.drop j).foldl todoPut ms = (ls.drop (j + 1)).foldl todoPut (todoPut ms ls[j]) := by rw [List.drop_eq_getElem_cons hj]; rfl
theorem zaL (l : List Int) (x : Int) : l.length ≤ (todoPut l x).length := by unfold todoPut; split <;> simp
instance zc2 : HC 56 (∀ (W : World) (cs : List Value) (h : House) (cabin : Int), HsR W cs h → HouseSz h →Sp W [] 56 #[.agg cs.toArray, vi cabin] (RO 3 intL (ze h cabin))) := by
 refine ⟨fun W cs h cabin hh hsz => ?_⟩
 have hh1 := hh; obtain ⟨a1, c1, a2, c2, a3, c3, a4, c4, a5, c5, rfl, h1, h2, h3, h4, h5, h6, h7, h8, h9, h10⟩ := hh
 have hc9 := hsz.2.2.1
 refine gENT (vs := [_, _]) Tryz.func56 ?_
 by_cases hb : hasCab h cabin = true
 · obtain ⟨hR, hc0, hc1⟩ := hasCab_rep hb
   have h4 := z8 hb
   have hch : ze h cabin = zk (zi h h.cabins.length 0 [cabin]) h.cabins.length := if_pos hb
   have hf0 : Few h.cabins.length [cabin] := ⟨by simp, fun x hx => by simp at hx; omega⟩
   rw [hch]
   repeat' first | exact absurd (‹hasCab h cabin = false›.symm.trans hb) (by decide) | refine ST ?_ | refine ST2 ?_ | intro _ | apply And.intro
   rename_i e0 he0 hb0 e1 he1
   refine gLPG (fun q : Nat × HH × List Int => [(7, I (q.1 : Int)), (6, .v (.slice q.2.1.1 q.2.2.length q.2.1.2))]) [] (fun q => [slA 3 intL (.slice q.2.1.1 q.2.2.length q.2.1.2) q.2.2]) (fun q => Few h.cabins.length q.2.2 ∧ q.1 ≤ q.2.2.length ∧ zi h h.cabins.length 0 [cabin] = zi h (h.cabins.length - q.1) q.1 q.2.2) (fun q => h.cabins.length + 1 - q.1) (0, (e1, 1), [cabin]) (h0 := ⟨hf0, by simp, rfl⟩) (body := fun q hi => ?_)
   obtain ⟨k, ⟨e, f⟩, ms⟩ := q
   obtain ⟨i1, i2, i3⟩ : Few h.cabins.length ms ∧ k ≤ ms.length ∧ zi h h.cabins.length 0 [cabin] = zi h (h.cabins.length - k) k ms := hi
   have hml := zw _ _ i1
   by_cases hkl : k < ms.length
   · rw [zab (by omega) (List.getElem?_eq_getElem hkl)] at i3
     have hll := zC h ms[k] h.cabins.length
     have hll2 : (zf h ms[k]).length ≤ h.cabins.length := hll
     repeat' first | exact absurd hkl ‹¬ k < ms.length› | refine ST ?_ | refine ST2 ?_ | intro _ | apply And.intro
     rename_i e9 c9
     refine gFORG 9 (zf h ms[k]).length (fun q : HH × List Int => [(6, .v (.slice q.1.1 q.2.length q.1.2))]) [] (fun q => [slA 3 intL (.slice q.1.1 q.2.length q.1.2) q.2]) (fun j q => Few h.cabins.length q.2 ∧ ms.length ≤ q.2.length ∧ (zf h ms[k]).foldl todoPut ms = ((zf h ms[k]).drop j).foldl todoPut q.2) ((e, f), ms) (h0 := ⟨i1, Nat.le_refl _, rfl⟩) (body := fun j q hj hi2 => ?_)
     obtain ⟨⟨e2, f2⟩, zs⟩ := q
     obtain ⟨n1, n2, n3⟩ : Few h.cabins.length zs ∧ ms.length ≤ zs.length ∧ (zf h ms[k]).foldl todoPut ms = ((zf h ms[k]).drop j).foldl todoPut zs := hi2
     have hzl := zw _ _ n1
     by_cases hjl : j < (zf h ms[k]).length
     · have hlm := zE h ms[k] h.cabins.length (zf h ms[k])[j] (List.getElem_mem hjl)
       have hge := zaL zs (zf h ms[k])[j]
       rw [za0 hjl] at n3
       repeat' first | exact absurd hjl ‹¬ j < _› | (refine idDN ?_; refine idBK ?_; refine zak ?_) | refine ST ?_ | refine ST2 ?_ | intro _ | apply And.intro
       all_goals
        unfold zJ
        rename_i x9
        exact gGBACK (x9, todoPut zs (zf h ms[k])[j]) hjl (h := ⟨n1.put hlm.1 hlm.2, by dsimp only; omega, n3⟩)
     · rw [List.drop_eq_nil_of_le (by omega)] at n3
       repeat' first | exact absurd ‹j < (zf h ms[k]).length› hjl | (refine idDN ?_; refine idBK ?_; refine zak ?_) | refine ST ?_ | refine ST2 ?_ | intro _ | apply And.intro
       all_goals
        unfold zJ
        refine gLBK (k + 1, (e2, f2), zs) (by dsimp only; omega) (h := ?_)
        exact ⟨n1, by dsimp only; omega, by dsimp only; rw [i3, n3]; rfl⟩
   · rw [zan (by omega)] at i3
     rw [i3]
     repeat' first | exact absurd ‹k < ms.length› hkl | refine ST ?_ | refine ST2 ?_ | intro _ | apply And.intro
     refine gFORO 10 h.cabins.length 5 (fun _ : Unit => []) (fun j _ xs => xs = zk ms j) () (h0 := rfl) (body := fun j _ a c xs hj hv => ?_)
     have hln : xs.length ≤ j := by rw [hv]; exact zaR ms j
     have hpt : ms.any (fun x => x == (j : Int)) = true → zk ms (j + 1) = zk ms j ++ [(j : Int)] := fun w => if_pos w
     have hpf : ms.any (fun x => x == (j : Int)) = false → zk ms (j + 1) = zk ms j := fun w => if_neg (by rw [w]; decide)
     by_cases hjl : j < h.cabins.length
     · repeat' first | exact absurd hjl ‹¬ j < h.cabins.length› | refine ST ?_ | refine ST2 ?_ | intro _ | apply And.intro
       all_goals first | exact LEN | (exfalso; omega) | (rw [hpt ‹_›, hv]; done) | (rw [hpf ‹_›, hv]; done)
     · repeat' first | exact absurd ‹j < h.cabins.length› hjl | refine ST ?_ | refine ST2 ?_ | intro _ | apply And.intro
       all_goals first | (exfalso; omega) | exact rEX (a, c) (plS PU pl0) (by rw [hv, show j = h.cabins.length by omega]) | (rw [hv, show j = h.cabins.length by omega]; done)
 · have hch : ze h cabin = [] := if_neg hb
   rw [hch]
   repeat' first | refine ST ?_ | intro _ | apply And.intro
   all_goals first | exact absurd ‹hasCab h cabin = true› hb | rfl
end SX
end Go.Proofs.YtejojcoaohlfbaaGreat
