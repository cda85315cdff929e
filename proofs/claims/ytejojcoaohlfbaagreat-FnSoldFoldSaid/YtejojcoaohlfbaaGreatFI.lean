/- Texts of this claim, put together by program. -/
import Derived.Test.YtejojcoaohlfbaaGreatFE
import Derived.Test.YtejojcoaohlfbaaGreatA9
import Derived.Test.YtejojcoaohlfbaaGreatMdlz
import Derived.Test.YtejojcoaohlfbaaGreatAP
/- Draws: rows of entries. -/
namespace Go.Proofs.YtejojcoaohlfbaaGreat
namespace SX
open Go Go.RowKit
set_option linter.unusedVariables false
set_option linter.unusedSimpArgs false
set_option maxRecDepth 10000
set_option maxHeartbeats 1000000
attribute [local irreducible] CD DN OPL AT QL QT CND RETG BKP HL HT HO slA slHo slP ptC pull pulls
attribute [local irreducible] curO keepA RWk IsCur
abbrev WEs (P : List Entry → Prop) (O : List Ass) : Res := RWk (α := List Entry) (ι := HH) P (fun xs p => .slice p.1 xs.length p.2) (fun xs p => [slA 159 entryL (.slice p.1 xs.length p.2) xs]) O
instance sQueuePutW_c : HC 384 (∀ (W : World) (list : List Entry) (v : Value) (e : Entry), Rs entryL W v list → list.length ≤ 1000 →Sp W [] 384 #[v, .agg (entryE e).toArray] (RW2 (α := List Entry) (β := Bool) (ι := HH) (fun x => x.1.length ≤ list.length + 1) (fun xs p => .slice p.1 xs.length p.2) (fun xs p => [slA 159 entryL (.slice p.1 xs.length p.2) xs]) (fun b => .bool b) [])) := by
 refine ⟨fun W list v e ⟨a, c, e1, hc, hr⟩ hb => ?_⟩
 subst e1
 have hq : (qIns list e).length = list.length + 1 := by rw [qIns_eq, (insL_perm e list).length_eq]; rfl
 refine gENT (vs := [_, _]) Tryz.func384 ?_
 repeat' first | refine STD ?_ | refine ST ?_ | refine ST2 ?_ | refine ST3 ?_ | intro _ | apply And.intro
 all_goals dsimp only at *
 all_goals first | omega | trace_state
instance s7Right_c : HC 361 (∀ (W : World) (d : Kd) (p : Value), IsCur p d →Sp W [cuA d p] 361 #[p] (WEs (fun xs => xs.length ≤ 13) [cuA d p])) := by
 refine ⟨fun W d p _ => ?_⟩
 refine gENTO (vs := [_]) Tryz.func361 (fun S0 => ?_)
 repeat' first | refine STD ?_ | refine ST ?_ | refine ST2 ?_ | refine ST3 ?_ | intro _ | apply And.intro
 · rename_i x hx _
   have w1 : wr (10 + x) = 10 + x := wr_of (by omega) (by omega)
   refine gFORG 5 14 (fun q : HH × List Entry => [(3, .v (.slice q.1.1 q.2.length q.1.2))]) [] (fun q => [cuA d p, slA 159 entryL (.slice q.1.1 q.2.length q.1.2) q.2]) (fun k q => q.2.length ≤ k ∧ k ≤ 13) ((_, 0), []) (hp := (by first | exact plS PU (plS PU (pl0)) | exact plS PU (plS PU (plS PU (pl0))) | exact plS PU (plS PU (plS PU (plS PU (pl0)))) | exact plS PU (pl0) | exact plS PU (plS PU (plS PU (plS PU (plS PU (plS PU (pl0)))))) | exact plS PU (plS PU (plS PU (plS PU (plS PU (plS PU (plS PU (pl0))))))) | exact plS PU (plS PU (plS PU (plS PU (plS PU (plS PU (plS PU (plS PU (pl0)))))))) | exact plS PU (plS PU (plS PU (plS PU (plS PU (plS PU (plS PU (plS PU (plS PU (pl0))))))))) | exact plS PU (plS PU (plS PU (plS PU (plS PU (plS PU (plS PU (plS PU (plS PU (plS PU (plS PU (plS PU (pl0)))))))))))) | exact plS PU (plS PU (plS PU (plS PU (plS PU (plS PU (plS PU (plS PU (plS PU (plS PU (plS PU (pl0))))))))))) | exact plS PU (plS PU (plS PU (plS PU (plS PU (plS PU (plS PU (plS PU (plS PU (plS PU (pl0)))))))))))) (h0 := ⟨by simp, by omega⟩) (body := fun k q hk hi => ?_)
   obtain ⟨⟨e, f⟩, xs⟩ := q
   obtain ⟨i1, i2⟩ : xs.length ≤ k ∧ k ≤ 13 := hi
   repeat' first | refine STD ?_ | refine ST ?_ | refine ST2 ?_ | refine ST3 ?_ | intro _ | apply And.intro
   all_goals dsimp only at *
   all_goals try omega
   all_goals refine gGBACK ((_, _), _) (by omega) (hp := (by first | exact plS PU (plS PU (pl0)) | exact plS PU (plS PU (plS PU (pl0))) | exact plS PU (plS PU (plS PU (plS PU (pl0)))) | exact plS PU (pl0) | exact plS PU (plS PU (plS PU (plS PU (plS PU (plS PU (pl0)))))) | exact plS PU (plS PU (plS PU (plS PU (plS PU (plS PU (plS PU (pl0))))))) | exact plS PU (plS PU (plS PU (plS PU (plS PU (plS PU (plS PU (plS PU (pl0)))))))) | exact plS PU (plS PU (plS PU (plS PU (plS PU (plS PU (plS PU (plS PU (plS PU (pl0))))))))) | exact plS PU (plS PU (plS PU (plS PU (plS PU (plS PU (plS PU (plS PU (plS PU (plS PU (plS PU (plS PU (pl0)))))))))))) | exact plS PU (plS PU (plS PU (plS PU (plS PU (plS PU (plS PU (plS PU (plS PU (plS PU (plS PU (pl0))))))))))) | exact plS PU (plS PU (plS PU (plS PU (plS PU (plS PU (plS PU (plS PU (plS PU (plS PU (pl0)))))))))))) (h := ?_)
   all_goals exact ⟨Nat.le_trans ‹_› (Nat.succ_le_succ i1), by omega⟩
 · refine gFORG 5 14 (fun q : HH × List Entry => [(3, .v (.slice q.1.1 q.2.length q.1.2))]) [] (fun q => [cuA d p, slA 159 entryL (.slice q.1.1 q.2.length q.1.2) q.2]) (fun k q => q.2.length ≤ k ∧ k ≤ 13) ((_, 0), []) (hp := (by first | exact plS PU (plS PU (pl0)) | exact plS PU (plS PU (plS PU (pl0))) | exact plS PU (plS PU (plS PU (plS PU (pl0)))) | exact plS PU (pl0) | exact plS PU (plS PU (plS PU (plS PU (plS PU (plS PU (pl0)))))) | exact plS PU (plS PU (plS PU (plS PU (plS PU (plS PU (plS PU (pl0))))))) | exact plS PU (plS PU (plS PU (plS PU (plS PU (plS PU (plS PU (plS PU (pl0)))))))) | exact plS PU (plS PU (plS PU (plS PU (plS PU (plS PU (plS PU (plS PU (plS PU (pl0))))))))) | exact plS PU (plS PU (plS PU (plS PU (plS PU (plS PU (plS PU (plS PU (plS PU (plS PU (plS PU (plS PU (pl0)))))))))))) | exact plS PU (plS PU (plS PU (plS PU (plS PU (plS PU (plS PU (plS PU (plS PU (plS PU (plS PU (pl0))))))))))) | exact plS PU (plS PU (plS PU (plS PU (plS PU (plS PU (plS PU (plS PU (plS PU (plS PU (pl0)))))))))))) (h0 := ⟨by simp, by omega⟩) (body := fun k q hk hi => ?_)
   obtain ⟨⟨e, f⟩, xs⟩ := q
   obtain ⟨i1, i2⟩ : xs.length ≤ k ∧ k ≤ 13 := hi
   repeat' first | refine STD ?_ | refine ST ?_ | refine ST2 ?_ | refine ST3 ?_ | intro _ | apply And.intro
   all_goals dsimp only at *
   all_goals try omega
   all_goals refine gGBACK ((_, _), _) (by omega) (hp := (by first | exact plS PU (plS PU (pl0)) | exact plS PU (plS PU (plS PU (pl0))) | exact plS PU (plS PU (plS PU (plS PU (pl0)))) | exact plS PU (pl0) | exact plS PU (plS PU (plS PU (plS PU (plS PU (plS PU (pl0)))))) | exact plS PU (plS PU (plS PU (plS PU (plS PU (plS PU (plS PU (pl0))))))) | exact plS PU (plS PU (plS PU (plS PU (plS PU (plS PU (plS PU (plS PU (pl0)))))))) | exact plS PU (plS PU (plS PU (plS PU (plS PU (plS PU (plS PU (plS PU (plS PU (pl0))))))))) | exact plS PU (plS PU (plS PU (plS PU (plS PU (plS PU (plS PU (plS PU (plS PU (plS PU (plS PU (plS PU (pl0)))))))))))) | exact plS PU (plS PU (plS PU (plS PU (plS PU (plS PU (plS PU (plS PU (plS PU (plS PU (plS PU (pl0))))))))))) | exact plS PU (plS PU (plS PU (plS PU (plS PU (plS PU (plS PU (plS PU (plS PU (plS PU (pl0)))))))))))) (h := ?_)
   all_goals exact ⟨Nat.le_trans ‹_› (Nat.succ_le_succ i1), by omega⟩
instance s7Draw_c : HC 307 (∀ (W : World) (d : Kd) (p : Value), IsCur p d →Sp W [cuA d p] 307 #[p] (WEs (fun xs => xs.length ≤ 14) [cuA d p])) := by
 refine ⟨fun W d p _ => ?_⟩
 refine gENTO (vs := [_]) Tryz.func307 (fun S0 => ?_)
 repeat' first | refine STD ?_ | refine ST ?_ | refine ST2 ?_ | refine ST3 ?_ | intro _ | apply And.intro
 all_goals try dsimp only at *
 all_goals first | omega | (simp; omega) | trace_state
end SX
end Go.Proofs.YtejojcoaohlfbaaGreat
/- Draws: wheels, cabins. -/
namespace Go.Proofs.YtejojcoaohlfbaaGreat
namespace SX
open Go Go.RowKit
set_option linter.unusedVariables false
set_option linter.unusedSimpArgs false
set_option maxRecDepth 10000
set_option maxHeartbeats 1000000
attribute [local irreducible] CD DN OPL AT QL QT CND RETG BKP HL HT HO slA slHo slP ptC pull pulls
attribute [local irreducible] curO keepA RWk IsCur
abbrev WPs (P : List Pin → Prop) (O : List Ass) : Res := RWk (α := List Pin) (ι := HH) P (fun xs p => .slice p.1 xs.length p.2) (fun xs p => [slA 166 pinL (.slice p.1 xs.length p.2) xs]) O
abbrev WCab (O : List Ass) : Res := RWk (α := Cabin) (ι := HH × HH) CabinSz wcab ocab O
instance s9Pins_c : HC 385 (∀ (W : World) (d : Kd) (p : Value), IsCur p d →Sp W [cuA d p] 385 #[p] (WPs (fun xs => xs.length ≤ 8) [cuA d p])) := by
 refine ⟨fun W d p _ => ?_⟩
 refine gENTO (vs := [_]) Tryz.func385 (fun S0 => ?_)
 repeat' first | refine STD ?_ | refine ST ?_ | refine ST2 ?_ | refine ST3 ?_ | intro _ | apply And.intro
 refine gFORG 5 8 (fun q : HH × List Pin => [(3, .v (.slice q.1.1 q.2.length q.1.2))]) [] (fun q => [cuA d p, slA 166 pinL (.slice q.1.1 q.2.length q.1.2) q.2]) (fun k q => q.2.length = k) ((_, 0), []) (hp := (by first | exact plS PU (plS PU (pl0)) | exact plS PU (plS PU (plS PU (pl0))) | exact plS PU (plS PU (plS PU (plS PU (pl0)))) | exact plS PU (pl0) | exact plS PU (plS PU (plS PU (plS PU (plS PU (plS PU (pl0)))))) | exact plS PU (plS PU (plS PU (plS PU (plS PU (plS PU (plS PU (pl0))))))) | exact plS PU (plS PU (plS PU (plS PU (plS PU (plS PU (plS PU (plS PU (pl0)))))))) | exact plS PU (plS PU (plS PU (plS PU (plS PU (plS PU (plS PU (plS PU (plS PU (pl0))))))))) | exact plS PU (plS PU (plS PU (plS PU (plS PU (plS PU (plS PU (plS PU (plS PU (plS PU (plS PU (plS PU (pl0)))))))))))) | exact plS PU (plS PU (plS PU (plS PU (plS PU (plS PU (plS PU (plS PU (plS PU (plS PU (plS PU (pl0))))))))))) | exact plS PU (plS PU (plS PU (plS PU (plS PU (plS PU (plS PU (plS PU (plS PU (plS PU (pl0)))))))))))) (h0 := by rfl) (body := fun k q hk hi => ?_)
 obtain ⟨⟨e, f⟩, xs⟩ := q
 have i1 : xs.length = k := hi
 repeat' first | refine STD ?_ | refine ST ?_ | refine ST2 ?_ | refine ST3 ?_ | intro _ | apply And.intro
 all_goals try omega
 refine gGBACK ((_, _), _) (by omega) (hp := (by first | exact plS PU (plS PU (pl0)) | exact plS PU (plS PU (plS PU (pl0))) | exact plS PU (plS PU (plS PU (plS PU (pl0)))) | exact plS PU (pl0) | exact plS PU (plS PU (plS PU (plS PU (plS PU (plS PU (pl0)))))) | exact plS PU (plS PU (plS PU (plS PU (plS PU (plS PU (plS PU (pl0))))))) | exact plS PU (plS PU (plS PU (plS PU (plS PU (plS PU (plS PU (plS PU (pl0)))))))) | exact plS PU (plS PU (plS PU (plS PU (plS PU (plS PU (plS PU (plS PU (plS PU (pl0))))))))) | exact plS PU (plS PU (plS PU (plS PU (plS PU (plS PU (plS PU (plS PU (plS PU (plS PU (plS PU (plS PU (pl0)))))))))))) | exact plS PU (plS PU (plS PU (plS PU (plS PU (plS PU (plS PU (plS PU (plS PU (plS PU (plS PU (pl0))))))))))) | exact plS PU (plS PU (plS PU (plS PU (plS PU (plS PU (plS PU (plS PU (plS PU (plS PU (pl0)))))))))))) (h := ?_)
 simp [i1]
instance s9Right_c : HC 363 (∀ (W : World) (d : Kd) (p : Value), IsCur p d →Sp W [cuA d p] 363 #[p] (WWh (fun x => x.spoke.length = 9 ∧ x.spoke.flatten.length ≤ 18) [cuA d p])) := by
 refine ⟨fun W d p _ => ?_⟩
 refine gENTO (vs := [_]) Tryz.func363 (fun S0 => ?_)
 repeat' first | refine STD ?_ | refine ST ?_ | refine ST2 ?_ | refine ST3 ?_ | intro _ | apply And.intro
 · rename_i wh hw qw li hli qli _ _ _ _
   refine gFORG 5 10 (fun q : HH × List Pin => [(4, .v (.slice q.1.1 q.2.length q.1.2))]) [] (fun q => [slA 166 pinL (.slice q.1.1 q.2.length q.1.2) q.2]) (fun k q => q.2.length = li.length + k) (qli, li) (hp := (by first | exact plS PU (plS PU (pl0)) | exact plS PU (plS PU (plS PU (pl0))) | exact plS PU (plS PU (plS PU (plS PU (pl0)))) | exact plS PU (pl0) | exact plS PU (plS PU (plS PU (plS PU (plS PU (plS PU (pl0)))))) | exact plS PU (plS PU (plS PU (plS PU (plS PU (plS PU (plS PU (pl0))))))) | exact plS PU (plS PU (plS PU (plS PU (plS PU (plS PU (plS PU (plS PU (pl0)))))))) | exact plS PU (plS PU (plS PU (plS PU (plS PU (plS PU (plS PU (plS PU (plS PU (pl0))))))))) | exact plS PU (plS PU (plS PU (plS PU (plS PU (plS PU (plS PU (plS PU (plS PU (plS PU (plS PU (plS PU (pl0)))))))))))) | exact plS PU (plS PU (plS PU (plS PU (plS PU (plS PU (plS PU (plS PU (plS PU (plS PU (plS PU (pl0))))))))))) | exact plS PU (plS PU (plS PU (plS PU (plS PU (plS PU (plS PU (plS PU (plS PU (plS PU (pl0)))))))))))) (h0 := by rfl) (body := fun k q hk hi => ?_)
   obtain ⟨⟨e9, f9⟩, xs⟩ := q
   have i0 : xs.length = li.length + k := hi
   repeat' first | refine STD ?_ | refine ST ?_ | refine ST2 ?_ | refine ST3 ?_ | intro _ | apply And.intro
   · refine gGBACK ((_, _), _) (by omega) (hp := (by first | exact plS PU (plS PU (pl0)) | exact plS PU (plS PU (plS PU (pl0))) | exact plS PU (plS PU (plS PU (plS PU (pl0)))) | exact plS PU (pl0) | exact plS PU (plS PU (plS PU (plS PU (plS PU (plS PU (pl0)))))) | exact plS PU (plS PU (plS PU (plS PU (plS PU (plS PU (plS PU (pl0))))))) | exact plS PU (plS PU (plS PU (plS PU (plS PU (plS PU (plS PU (plS PU (pl0)))))))) | exact plS PU (plS PU (plS PU (plS PU (plS PU (plS PU (plS PU (plS PU (plS PU (pl0))))))))) | exact plS PU (plS PU (plS PU (plS PU (plS PU (plS PU (plS PU (plS PU (plS PU (plS PU (plS PU (plS PU (pl0)))))))))))) | exact plS PU (plS PU (plS PU (plS PU (plS PU (plS PU (plS PU (plS PU (plS PU (plS PU (plS PU (pl0))))))))))) | exact plS PU (plS PU (plS PU (plS PU (plS PU (plS PU (plS PU (plS PU (plS PU (plS PU (pl0)))))))))))) (h := ?_)
     simp [i0]; omega
   refine gFORG 6 xs.length (fun q : HH × List (List Pin) => []) [(1, fun q => [.slice q.1.1 q.2.length q.1.2])] (fun q => [slA 199 (sl 166 pinL) (.slice q.1.1 q.2.length q.1.2) q.2]) (fun k q => q.2.length = 9 ∧ q.2.flatten.length ≤ k) (qw, wh.spoke) (hp := (by first | exact plS PU (plS PU (pl0)) | exact plS PU (plS PU (plS PU (pl0))) | exact plS PU (plS PU (plS PU (plS PU (pl0)))) | exact plS PU (pl0) | exact plS PU (plS PU (plS PU (plS PU (plS PU (plS PU (pl0)))))) | exact plS PU (plS PU (plS PU (plS PU (plS PU (plS PU (plS PU (pl0))))))) | exact plS PU (plS PU (plS PU (plS PU (plS PU (plS PU (plS PU (plS PU (pl0)))))))) | exact plS PU (plS PU (plS PU (plS PU (plS PU (plS PU (plS PU (plS PU (plS PU (pl0))))))))) | exact plS PU (plS PU (plS PU (plS PU (plS PU (plS PU (plS PU (plS PU (plS PU (plS PU (plS PU (plS PU (pl0)))))))))))) | exact plS PU (plS PU (plS PU (plS PU (plS PU (plS PU (plS PU (plS PU (plS PU (plS PU (plS PU (pl0))))))))))) | exact plS PU (plS PU (plS PU (plS PU (plS PU (plS PU (plS PU (plS PU (plS PU (plS PU (pl0)))))))))))) (h0 := ⟨hw.1, Nat.le_of_eq hw.2⟩) (body := fun k q hk hi => ?_)
   obtain ⟨⟨e, f⟩, ss⟩ := q
   obtain ⟨i1, i2⟩ : ss.length = 9 ∧ ss.flatten.length ≤ k := hi
   repeat' first | refine STD ?_ | refine ST ?_ | refine ST2 ?_ | refine ST3 ?_ | intro _ | apply And.intro
   · refine gGBACK ((_, _), _) (by exact ‹k < _›) (hp := (by first | exact plS PU (plS PU (pl0)) | exact plS PU (plS PU (plS PU (pl0))) | exact plS PU (plS PU (plS PU (plS PU (pl0)))) | exact plS PU (pl0) | exact plS PU (plS PU (plS PU (plS PU (plS PU (plS PU (pl0)))))) | exact plS PU (plS PU (plS PU (plS PU (plS PU (plS PU (plS PU (pl0))))))) | exact plS PU (plS PU (plS PU (plS PU (plS PU (plS PU (plS PU (plS PU (pl0)))))))) | exact plS PU (plS PU (plS PU (plS PU (plS PU (plS PU (plS PU (plS PU (plS PU (pl0))))))))) | exact plS PU (plS PU (plS PU (plS PU (plS PU (plS PU (plS PU (plS PU (plS PU (plS PU (plS PU (plS PU (pl0)))))))))))) | exact plS PU (plS PU (plS PU (plS PU (plS PU (plS PU (plS PU (plS PU (plS PU (plS PU (plS PU (pl0))))))))))) | exact plS PU (plS PU (plS PU (plS PU (plS PU (plS PU (plS PU (plS PU (plS PU (plS PU (pl0)))))))))))) (h := ?_)
     exact ⟨(wheelPut_len2 _ _).1.trans i1, Nat.le_trans (wheelPut_len2 _ _).2 (Nat.succ_le_succ i2)⟩
   · exact i1
   · exact Nat.le_trans i2 (by omega)
 · rename_i wh hw qw li hli qli _ _ _ _
   refine gFORG 6 li.length (fun q : HH × List (List Pin) => []) [(1, fun q => [.slice q.1.1 q.2.length q.1.2])] (fun q => [slA 199 (sl 166 pinL) (.slice q.1.1 q.2.length q.1.2) q.2]) (fun k q => q.2.length = 9 ∧ q.2.flatten.length ≤ k) (qw, wh.spoke) (hp := (by first | exact plS PU (plS PU (pl0)) | exact plS PU (plS PU (plS PU (pl0))) | exact plS PU (plS PU (plS PU (plS PU (pl0)))) | exact plS PU (pl0) | exact plS PU (plS PU (plS PU (plS PU (plS PU (plS PU (pl0)))))) | exact plS PU (plS PU (plS PU (plS PU (plS PU (plS PU (plS PU (pl0))))))) | exact plS PU (plS PU (plS PU (plS PU (plS PU (plS PU (plS PU (plS PU (pl0)))))))) | exact plS PU (plS PU (plS PU (plS PU (plS PU (plS PU (plS PU (plS PU (plS PU (pl0))))))))) | exact plS PU (plS PU (plS PU (plS PU (plS PU (plS PU (plS PU (plS PU (plS PU (plS PU (plS PU (plS PU (pl0)))))))))))) | exact plS PU (plS PU (plS PU (plS PU (plS PU (plS PU (plS PU (plS PU (plS PU (plS PU (plS PU (pl0))))))))))) | exact plS PU (plS PU (plS PU (plS PU (plS PU (plS PU (plS PU (plS PU (plS PU (plS PU (pl0)))))))))))) (h0 := ⟨hw.1, Nat.le_of_eq hw.2⟩) (body := fun k q hk hi => ?_)
   obtain ⟨⟨e, f⟩, ss⟩ := q
   obtain ⟨i1, i2⟩ : ss.length = 9 ∧ ss.flatten.length ≤ k := hi
   repeat' first | refine STD ?_ | refine ST ?_ | refine ST2 ?_ | refine ST3 ?_ | intro _ | apply And.intro
   · refine gGBACK ((_, _), _) (by exact ‹k < _›) (hp := (by first | exact plS PU (plS PU (pl0)) | exact plS PU (plS PU (plS PU (pl0))) | exact plS PU (plS PU (plS PU (plS PU (pl0)))) | exact plS PU (pl0) | exact plS PU (plS PU (plS PU (plS PU (plS PU (plS PU (pl0)))))) | exact plS PU (plS PU (plS PU (plS PU (plS PU (plS PU (plS PU (pl0))))))) | exact plS PU (plS PU (plS PU (plS PU (plS PU (plS PU (plS PU (plS PU (pl0)))))))) | exact plS PU (plS PU (plS PU (plS PU (plS PU (plS PU (plS PU (plS PU (plS PU (pl0))))))))) | exact plS PU (plS PU (plS PU (plS PU (plS PU (plS PU (plS PU (plS PU (plS PU (plS PU (plS PU (plS PU (pl0)))))))))))) | exact plS PU (plS PU (plS PU (plS PU (plS PU (plS PU (plS PU (plS PU (plS PU (plS PU (plS PU (pl0))))))))))) | exact plS PU (plS PU (plS PU (plS PU (plS PU (plS PU (plS PU (plS PU (plS PU (plS PU (pl0)))))))))))) (h := ?_)
     exact ⟨(wheelPut_len2 _ _).1.trans i1, Nat.le_trans (wheelPut_len2 _ _).2 (Nat.succ_le_succ i2)⟩
   · exact i1
   · exact Nat.le_trans i2 (by omega)
end SX
end Go.Proofs.YtejojcoaohlfbaaGreat
/- Draws: a cabin made of parties; is there room. -/
namespace Go.Proofs.YtejojcoaohlfbaaGreat
namespace SX
open Go Go.RowKit
set_option linter.unusedVariables false
set_option linter.unusedSimpArgs false
set_option maxRecDepth 10000
set_option maxHeartbeats 1000000
attribute [local irreducible] CD DN OPL AT QL QT CND RETG BKP HL HT HO slA slHo slP ptC pull pulls
attribute [local irreducible] curO keepA RWk IsCur
instance s10Made_c : HC 305 (∀ (W : World) (cs : List Value) (r : Rules) (list : List Party) (v : Value) (cabin now free : Int), RulesR W cs r → Rs partyL W v list → 0 ≤ cabin → cabin < (r.seats.length : Int) → list.length ≤ 1000 →Sp W [] 305 #[.agg cs.toArray, v, vi cabin, vi now, vi free] (WCab [])) := by
 refine ⟨fun W cs r list v cabin now free hr hv hc0 hc1 hb => ?_⟩
 have hr1 := hr; have hv1 := hv
 obtain ⟨a, c, rfl, hc, hr2⟩ := hr
 obtain ⟨a2, c2, rfl, hc2, hv2⟩ := hv
 refine gENT (vs := [_, _, _, _, _]) Tryz.func305 ?_
 repeat' first | refine STD ?_ | refine ST ?_ | refine ST2 ?_ | refine ST3 ?_ | intro _ | apply And.intro
 rename_i wh hw qw qp
 have hpl : (pinsGo list cabin []).length ≤ 1000 := Nat.le_trans (pinsGo_len0 cabin list) hb
 refine gFORG 13 (pinsGo list cabin []).length (fun q : HH × List (List Pin) => []) [(2, fun q => [.slice q.1.1 q.2.length q.1.2])] (fun q => [slA 199 (sl 166 pinL) (.slice q.1.1 q.2.length q.1.2) q.2]) (fun k q => q.2.length = 9 ∧ q.2.flatten.length ≤ k) (qw, wh.spoke) (hp := (by first | exact plS PU (plS PU (pl0)) | exact plS PU (plS PU (plS PU (pl0))) | exact plS PU (plS PU (plS PU (plS PU (pl0)))) | exact plS PU (pl0) | exact plS PU (plS PU (plS PU (plS PU (plS PU (plS PU (pl0)))))) | exact plS PU (plS PU (plS PU (plS PU (plS PU (plS PU (plS PU (pl0))))))) | exact plS PU (plS PU (plS PU (plS PU (plS PU (plS PU (plS PU (plS PU (pl0)))))))) | exact plS PU (plS PU (plS PU (plS PU (plS PU (plS PU (plS PU (plS PU (plS PU (pl0))))))))) | exact plS PU (plS PU (plS PU (plS PU (plS PU (plS PU (plS PU (plS PU (plS PU (plS PU (plS PU (plS PU (pl0)))))))))))) | exact plS PU (plS PU (plS PU (plS PU (plS PU (plS PU (plS PU (plS PU (plS PU (plS PU (plS PU (pl0))))))))))) | exact plS PU (plS PU (plS PU (plS PU (plS PU (plS PU (plS PU (plS PU (plS PU (plS PU (pl0)))))))))))) (h0 := ⟨hw.1, Nat.le_of_eq hw.2⟩) (body := fun k q hk hi => ?_)
 obtain ⟨⟨e, f⟩, ss⟩ := q
 obtain ⟨i1, i2⟩ : ss.length = 9 ∧ ss.flatten.length ≤ k := hi
 have hql := queueOf_len r cabin now list
 repeat' first | refine STD ?_ | refine ST ?_ | refine ST2 ?_ | refine ST3 ?_ | intro _ | apply And.intro
 · refine gGBACK ((_, _), _) (by exact ‹k < _›) (hp := (by first | exact plS PU (plS PU (pl0)) | exact plS PU (plS PU (plS PU (pl0))) | exact plS PU (plS PU (plS PU (plS PU (pl0)))) | exact plS PU (pl0) | exact plS PU (plS PU (plS PU (plS PU (plS PU (plS PU (pl0)))))) | exact plS PU (plS PU (plS PU (plS PU (plS PU (plS PU (plS PU (pl0))))))) | exact plS PU (plS PU (plS PU (plS PU (plS PU (plS PU (plS PU (plS PU (pl0)))))))) | exact plS PU (plS PU (plS PU (plS PU (plS PU (plS PU (plS PU (plS PU (plS PU (pl0))))))))) | exact plS PU (plS PU (plS PU (plS PU (plS PU (plS PU (plS PU (plS PU (plS PU (plS PU (plS PU (plS PU (pl0)))))))))))) | exact plS PU (plS PU (plS PU (plS PU (plS PU (plS PU (plS PU (plS PU (plS PU (plS PU (plS PU (pl0))))))))))) | exact plS PU (plS PU (plS PU (plS PU (plS PU (plS PU (plS PU (plS PU (plS PU (plS PU (pl0)))))))))))) (h := ?_)
   exact ⟨(wheelPut_len2 _ _).1.trans i1, Nat.le_trans (wheelPut_len2 _ _).2 (Nat.succ_le_succ i2)⟩
 all_goals dsimp only at *
 all_goals first | omega | (have := hql; omega) | trace_state
def roomP (h : House) (q : Party) (i : Nat) : Bool := h.rules.seats[i]?.any fun s => !decide (wr (heldGo (h.parties ++ [q]) i 0 + tiedGo (h.parties ++ [q]) i 0) > s)
instance s11Room_c : HC 304 (∀ (W : World) (cs : List Value) (h : House) (q : Party), HsR W cs h → h.cabins.length ≤ h.rules.seats.length → h.parties.length ≤ 1000 →Sp W [] 304 #[.agg cs.toArray, .agg (partyE q).toArray] (RV (.bool (allGo (roomP h q) h.cabins.length 0)))) := by
 refine ⟨fun W cs h q hh hc hb => ?_⟩
 have hh1 := hh; obtain ⟨a1, c1, a2, c2, a3, c3, a4, c4, a5, c5, rfl, h1, h2, h3, h4, h5, h6, h7, h8, h9, h10⟩ := hh
 have hcl := h8.len; have hpl := h7.len
 refine gENT (vs := [_, _]) Tryz.func304 ?_
 repeat' first | refine STD ?_ | refine ST ?_ | refine ST2 ?_ | refine ST3 ?_ | intro _ | apply And.intro
 all_goals refine gFOR 6 h.cabins.length (fun k => allGo (roomP h q) h.cabins.length 0 = allGo (roomP h q) h.cabins.length k) rfl fun k hk hv => ?_
 all_goals repeat' first | refine STD ?_ | refine ST ?_ | refine ST2 ?_ | refine ST3 ?_ | intro _ | apply And.intro
 all_goals first
  | (rw [hv, allGo_ge (by omega)]; done)
  | (have e1 : roomP h q k = false := by simp only [roomP, List.getElem?_eq_getElem (show k < h.rules.seats.length by omega), Option.any_some, Bool.not_eq_false', decide_eq_true_eq]; assumption
     rw [hv, allGo_lt (by omega), e1]; rfl)
  | (have e1 : roomP h q k = true := by simp only [roomP, List.getElem?_eq_getElem (show k < h.rules.seats.length by omega), Option.any_some, Bool.not_eq_true', decide_eq_false_iff_not]; assumption
     rw [hv, allGo_lt (by omega), e1]; rfl)
  | trace_state
end SX
end Go.Proofs.YtejojcoaohlfbaaGreat
/- Draws: wheels and cabins that may be wrong. -/
namespace Go.Proofs.YtejojcoaohlfbaaGreat
namespace SX
open Go Go.RowKit
set_option linter.unusedVariables false
set_option linter.unusedSimpArgs false
set_option maxRecDepth 10000
set_option maxHeartbeats 1000000
attribute [local irreducible] CD DN OPL AT QL QT CND RETG BKP HL HT HO slA slHo slP ptC pull pulls
attribute [local irreducible] curO keepA RWk IsCur
theorem sp_le {x : Wheel} {n k : Nat} (h : x.spoke.flatten.length ≤ n) (hk : k < x.spoke.length) : x.spoke[k].length ≤ n := by
  obtain ⟨l⟩ := x
  have h2 : ∀ (l : List (List Pin)) (k : Nat) (hk : k < l.length), l[k].length ≤ l.flatten.length := by
    intro l
    induction l with
    | nil => intro k hk; simp at hk
    | cons y l ih =>
      intro k hk
      cases k with
      | zero => simp
      | succ k => have := ih k (by simpa using hk); simp at this ⊢; omega
  exact Nat.le_trans (h2 l k hk) h
instance s9Draw_c : HC 308 (∀ (W : World) (d : Kd) (p : Value), IsCur p d →Sp W [cuA d p] 308 #[p] (WWh (fun x => x.spoke.length ≤ 1048576 ∧ x.spoke.flatten.length ≤ 1048576) [cuA d p])) := by
 refine ⟨fun W d p _ => ?_⟩
 refine gENTO (vs := [_]) Tryz.func308 (fun S0 => ?_)
 repeat' first | (refine idHO ?_; refine goP ?_; refine hAPP (hlen := by refine Nat.le_trans (Nat.add_le_add_right (sp_le (‹_ = 9 ∧ _ ≤ 18› : _ = 9 ∧ _ ≤ 18).2 _) _) ?_; decide) (k := ?_)) | refine STD ?_ | refine ST ?_ | refine ST2 ?_ | refine ST3 ?_ | intro _ | apply And.intro
 all_goals dsimp only at *
 all_goals first | (simp only [List.length_set, List.length_append, List.length_cons, List.length_nil, List.length_take]; omega) | (refine Nat.le_trans (flat_set_le _ _ _) ?_; rw [List.length_append]; refine Nat.le_trans (Nat.add_le_add (‹_ = 9 ∧ _ ≤ 18› : _ = 9 ∧ _ ≤ 18).2 (Nat.add_le_add_right (sp_le (‹_ = 9 ∧ _ ≤ 18› : _ = 9 ∧ _ ≤ 18).2 _) _)) ?_; simp; done) | (simp only [List.flatten_append, List.length_append, List.flatten_cons, List.flatten_nil, List.length_nil, List.append_nil]; omega) | (refine Nat.le_trans (flat_take_le _ _) ?_; omega) | omega | trace_state
instance s10Right_c : HC 309 (∀ (W : World) (d : Kd) (p : Value), IsCur p d →Sp W [cuA d p] 309 #[p] (WCab [cuA d p])) := by
 refine ⟨fun W d p _ => ?_⟩
 refine gENTO (vs := [_]) Tryz.func309 (fun S0 => ?_)
 repeat' first | refine STD ?_ | refine ST ?_ | refine ST2 ?_ | refine ST3 ?_ | intro _ | apply And.intro
 all_goals dsimp only at *
 all_goals first | omega | trace_state
instance s10Draw_c : HC 214 (∀ (W : World) (d : Kd) (p : Value), IsCur p d →Sp W [cuA d p] 214 #[p] (WCab [cuA d p])) := by
 refine ⟨fun W d p _ => ?_⟩
 refine gENTO (vs := [_]) Tryz.func214 (fun S0 => ?_)
 repeat' first | refine STD ?_ | refine ST ?_ | refine ST2 ?_ | refine ST3 ?_ | intro _ | apply And.intro
 all_goals dsimp only at *
 all_goals first | omega | assumption | exact (‹CabinSz _›).1 | exact (‹CabinSz _›).2.1 | exact (‹CabinSz _›).2.2 | trace_state
end SX
end Go.Proofs.YtejojcoaohlfbaaGreat
