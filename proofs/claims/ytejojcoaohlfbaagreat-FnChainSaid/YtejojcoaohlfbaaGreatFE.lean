/- Draws: houses that are new. -/
import Derived.Test.YtejojcoaohlfbaaGreatLC
import Derived.Test.YtejojcoaohlfbaaGreatAE
import Derived.Test.YtejojcoaohlfbaaGreatA9
import Derived.Test.YtejojcoaohlfbaaGreatMdly
import Derived.Test.YtejojcoaohlfbaaGreatAP
import Derived.Test.YtejojcoaohlfbaaGreatSx9
namespace Go.Proofs.YtejojcoaohlfbaaGreat
namespace SX
open Go Go.RowKit
set_option linter.unusedVariables false
set_option linter.unusedSimpArgs false
set_option maxRecDepth 10000
set_option maxHeartbeats 1000000
attribute [local irreducible] CD DN OPL AT QL QT CND RETG BKP HL HT HO slA slHo slP ptC pull pulls
attribute [local irreducible] curO keepA RWk IsCur
abbrev WWh (P : Wheel → Prop) (O : List Ass) : Res := RWk (α := Wheel) (ι := HH) P (fun x p => .agg #[.slice p.1 x.spoke.length p.2]) (fun x p => [slA 199 (sl 166 pinL) (.slice p.1 x.spoke.length p.2) x.spoke]) O
def zdu (x : Cabin) (q : HH × HH) : Value := .agg #[vi x.seats.total, vi x.seats.free, vi x.seats.held, vi x.seats.sold, vi x.seats.tied, .slice q.1.1 x.row.length q.1.2, .slice q.2.1 x.wheel.spoke.length q.2.2]
def zdp (x : Cabin) (q : HH × HH) : List Ass := [slA 159 entryL (.slice q.1.1 x.row.length q.1.2) x.row, slA 199 (sl 166 pinL) (.slice q.2.1 x.wheel.spoke.length q.2.2) x.wheel.spoke]
abbrev hO9 := hOw 3 91 70 159 199 166
instance zcE : HC 228 (∀ (W : World) ,Sp W [] 228 #[] (WWh (fun x => x.spoke.length = 9 ∧ x.spoke.flatten.length = 0) [])) := by
 refine ⟨fun W => ?_⟩
 refine gENT (vs := []) Tryz.func228 (gNILN 199 (sl 166 pinL) ?_)
 repeat' first | refine STD ?_ | refine ST ?_ | refine ST2 ?_ | refine ST3 ?_ | intro _ | apply And.intro
 refine gFORG 2 9 (fun q : HH × List (List Pin) => []) [(1, fun q => [.slice q.1.1 q.2.length q.1.2])] (fun q => [slA 199 (sl 166 pinL) (.slice q.1.1 q.2.length q.1.2) q.2]) (fun k q => q.2.length = k ∧ q.2.flatten.length = 0) ((none, 0), []) (h0 := ⟨rfl, rfl⟩) (body := fun k q hk hi => ?_)
 obtain ⟨⟨e, f⟩, xs⟩ := q
 obtain ⟨i1, i2⟩ : xs.length = k ∧ xs.flatten.length = 0 := hi
 repeat' first | refine STD ?_ | refine ST ?_ | refine ST2 ?_ | refine ST3 ?_ | intro _ | apply And.intro
 · refine gGBACK ((_, _), _) (by omega) (h := ?_)
   simp [i1, i2]
 all_goals dsimp only at *
 · omega
 · exact i2
instance zcv : HC 227 (∀ (W : World) (n : Int),Sp W [] 227 #[vi n] (RW2 (α := Ledger) (β := Bool) (ι := Unit) (fun _ => True) (fun x _ => .agg (ledgerE x).toArray) (fun _ _ => []) (fun b => .bool b) [])) := by
 refine ⟨fun W n => ?_⟩
 refine gENT (vs := [_]) Tryz.func227 ?_
 repeat' first | refine STD ?_ | refine ST ?_ | refine ST2 ?_ | refine ST3 ?_ | intro _ | apply And.intro
 all_goals trivial
instance zcK : HC 121 (∀ (W : World) (n : Int),Sp W [] 121 #[vi n] (RW2 (α := Cabin) (β := Bool) (ι := HH × HH) (fun x => CabinSz x.1) zdu zdp (fun b => .bool b) [])) := by
 refine ⟨fun W n => ?_⟩
 refine gENT (vs := [_]) Tryz.func121 (gNILN 159 entryL (gNILN 199 (sl 166 pinL) ?_))
 repeat' first | refine STD ?_ | refine ST ?_ | refine ST2 ?_ | refine ST3 ?_ | intro _ | apply And.intro
 all_goals dsimp only at *
 all_goals first | (simp; done) | omega
instance zdn : HC 360 (∀ (W : World) (d : Kd) (p : Value), IsCur p d →Sp W [cuA d p] 360 #[p] (zdB [cuA d p])) := by
 refine ⟨fun W d p _ => ?_⟩
 refine gENTO (vs := [_]) Tryz.func360 (fun S0 => ?_)
 repeat' first | refine STD ?_ | refine ST ?_ | refine ST2 ?_ | refine ST3 ?_ | intro _ | apply And.intro
 all_goals first | trivial
instance zdq : HC 306 (∀ (W : World) (d : Kd) (p : Value), IsCur p d →Sp W [cuA d p] 306 #[p] (zdB [cuA d p])) := by
 refine ⟨fun W d p _ => ?_⟩
 refine gENTO (vs := [_]) Tryz.func306 (fun S0 => ?_)
 repeat' first | refine STD ?_ | refine ST ?_ | refine ST2 ?_ | refine ST3 ?_ | intro _ | apply And.intro
 all_goals first | trivial
instance zdc : HC 362 (∀ (W : World) (d : Kd) (p : Value), IsCur p d →Sp W [cuA d p] 362 #[p] (zc5 [cuA d p])) := by
 refine ⟨fun W d p _ => ?_⟩
 refine gENTO (vs := [_]) Tryz.func362 (fun S0 => ?_)
 repeat' first | refine STD ?_ | refine ST ?_ | refine ST2 ?_ | refine ST3 ?_ | intro _ | apply And.intro
 all_goals first | trivial
instance zdP : HC 364 (∀ (W : World) (d : Kd) (p : Value), IsCur p d →Sp W [cuA d p] 364 #[p] (zdZ [cuA d p])) := by
 refine ⟨fun W d p _ => ?_⟩
 refine gENTO (vs := [_]) Tryz.func364 (fun S0 => ?_)
 repeat' first | refine STD ?_ | refine ST ?_ | refine ST2 ?_ | refine ST3 ?_ | intro _ | apply And.intro
 all_goals first | trivial
abbrev WEs (P : List Entry → Prop) (O : List Ass) : Res := RWk (α := List Entry) (ι := HH) P (fun xs p => .slice p.1 xs.length p.2) (fun xs p => [slA 159 entryL (.slice p.1 xs.length p.2) xs]) O
instance zct : HC 384 (∀ (W : World) (list : List Entry) (v : Value) (e : Entry), Rs entryL W v list → list.length ≤ 1000 →Sp W [] 384 #[v, .agg (entryE e).toArray] (RW2 (α := List Entry) (β := Bool) (ι := HH) (fun x => x.1.length ≤ list.length + 1) (fun xs p => .slice p.1 xs.length p.2) (fun xs p => [slA 159 entryL (.slice p.1 xs.length p.2) xs]) (fun b => .bool b) [])) := by
 refine ⟨fun W list v e ⟨a, c, e1, hc, hr⟩ hb => ?_⟩
 subst e1
 have hq : (qIns list e).length = list.length + 1 := by rw [qIns_eq, (insL_perm e list).length_eq]; rfl
 refine gENT (vs := [_, _]) Tryz.func384 ?_
 repeat' first | refine STD ?_ | refine ST ?_ | refine ST2 ?_ | refine ST3 ?_ | intro _ | apply And.intro
 all_goals dsimp only at *
 all_goals first | omega
instance zc9 : HC 361 (∀ (W : World) (d : Kd) (p : Value), IsCur p d →Sp W [cuA d p] 361 #[p] (WEs (fun xs => xs.length ≤ 13) [cuA d p])) := by
 refine ⟨fun W d p _ => ?_⟩
 refine gENTO (vs := [_]) Tryz.func361 (fun S0 => ?_)
 repeat' first | refine STD ?_ | refine ST ?_ | refine ST2 ?_ | refine ST3 ?_ | intro _ | apply And.intro
 · rename_i x hx _
   have w1 : wr (10 + x) = 10 + x := wr_of (by omega) (by omega)
   refine gFORG 5 14 (fun q : HH × List Entry => [(3, .v (.slice q.1.1 q.2.length q.1.2))]) [] (fun q => [cuA d p, slA 159 entryL (.slice q.1.1 q.2.length q.1.2) q.2]) (fun k q => q.2.length ≤ k ∧ k ≤ 13) ((_, 0), []) (hp := (by first | exact plS PU (plS PU (pl0)) | exact plS PU (plS PU (plS PU (pl0))) | exact plS PU (plS PU (plS PU (plS PU (pl0)))) | exact plS PU (pl0) | exact plS PU (plS PU (plS PU (plS PU (plS PU (plS PU (pl0)))))) | exact plS PU (plS PU (plS PU (plS PU (plS PU (plS PU (plS PU (pl0))))))) | exact plS PU (plS PU (plS PU (plS PU (plS PU (plS PU (plS PU (plS PU (pl0)))))))) | exact plS PU (plS PU (plS PU (plS PU (plS PU (plS PU (plS PU (plS PU (plS PU (pl0))))))))) | exact plS PU (plS PU (plS PU (plS PU (plS PU (plS PU (plS PU (plS PU (plS PU (plS PU (plS PU (plS PU (pl0)))))))))))) | exact plS PU (plS PU (plS PU (plS PU (plS PU (plS PU (plS PU (plS PU (plS PU (plS PU (plS PU (pl0))))))))))) | exact plS PU (plS PU (plS PU (plS PU (plS PU (plS PU (plS PU (plS PU (plS PU (plS PU (pl0)))))))))))) (h0 := ⟨by simp, by omega⟩) (body := fun k q hk hi => ?_)
   obtain ⟨⟨e, f⟩, xs⟩ := q
   obtain ⟨i1, i2⟩ : xs.length ≤ k ∧ k ≤ 13 := hi
   repeat' first | refine STD ?_ | refine ST ?_ | refine ST2 ?_ | refine ST3 ?_ | intro _ | apply And.intro
   all_goals dsimp only at *
   all_goals try omega
   all_goals refine gGBACK ((_, _), _) (by omega) (hp := (by first | exact plS PU (plS PU (pl0)) | exact plS PU (plS PU (plS PU (pl0))) | exact plS PU (plS PU (plS PU (plS PU (pl0)))) | exact plS PU (pl0) | exact plS PU (plS PU (plS PU (plS PU (plS PU (plS PU (pl0)))))) | exact plS PU (plS PU (plS PU (plS PU (plS PU (plS PU (plS PU (pl0))))))) | exact plS PU (plS PU (plS PU (plS PU (plS PU (plS PU (plS PU (plS PU (pl0)))))))) | exact plS PU (plS PU (plS PU (plS PU (plS PU (plS PU (plS PU (plS PU (plS PU (pl0))))))))) | exact plS PU (plS PU (plS PU (plS PU (plS PU (plS PU (plS PU (plS PU (plS PU (plS PU (plS PU (plS PU (pl0)))))))))))) | exact plS PU (plS PU (plS PU (plS PU (plS PU (plS PU (plS PU (plS PU (plS PU (plS PU (plS PU (pl0))))))))))) | exact plS PU (plS PU (plS PU (plS PU (plS PU (plS PU (plS PU (plS PU (plS PU (plS PU (pl0)))))))))))) (h := ?_)
   all_goals exact ⟨Nat.le_trans ‹_› (Nat.succ_le_succ i1), by omega⟩
 · refine gFORG 5 14 (fun q : HH × List Entry => [(3, .v (.slice q.1.1 q.2.length q.1.2))]) [] (fun q => [cuA d p, slA 159 entryL (.slice q.1.1 q.2.length q.1.2) q.2]) (fun k q => q.2.length ≤ k ∧ k ≤ 13) ((_, 0), []) (hp := (by first | exact plS PU (plS PU (pl0)) | exact plS PU (plS PU (plS PU (pl0))) | exact plS PU (plS PU (plS PU (plS PU (pl0)))) | exact plS PU (pl0) | exact plS PU (plS PU (plS PU (plS PU (plS PU (plS PU (pl0)))))) | exact plS PU (plS PU (plS PU (plS PU (plS PU (plS PU (plS PU (pl0))))))) | exact plS PU (plS PU (plS PU (plS PU (plS PU (plS PU (plS PU (plS PU (pl0)))))))) | exact plS PU (plS PU (plS PU (plS PU (plS PU (plS PU (plS PU (plS PU (plS PU (pl0))))))))) | exact plS PU (plS PU (plS PU (plS PU (plS PU (plS PU (plS PU (plS PU (plS PU (plS PU (plS PU (plS PU (pl0)))))))))))) | exact plS PU (plS PU (plS PU (plS PU (plS PU (plS PU (plS PU (plS PU (plS PU (plS PU (plS PU (pl0))))))))))) | exact plS PU (plS PU (plS PU (plS PU (plS PU (plS PU (plS PU (plS PU (plS PU (plS PU (pl0)))))))))))) (h0 := ⟨by simp, by omega⟩) (body := fun k q hk hi => ?_)
   obtain ⟨⟨e, f⟩, xs⟩ := q
   obtain ⟨i1, i2⟩ : xs.length ≤ k ∧ k ≤ 13 := hi
   repeat' first | refine STD ?_ | refine ST ?_ | refine ST2 ?_ | refine ST3 ?_ | intro _ | apply And.intro
   all_goals dsimp only at *
   all_goals try omega
   all_goals refine gGBACK ((_, _), _) (by omega) (hp := (by first | exact plS PU (plS PU (pl0)) | exact plS PU (plS PU (plS PU (pl0))) | exact plS PU (plS PU (plS PU (plS PU (pl0)))) | exact plS PU (pl0) | exact plS PU (plS PU (plS PU (plS PU (plS PU (plS PU (pl0)))))) | exact plS PU (plS PU (plS PU (plS PU (plS PU (plS PU (plS PU (pl0))))))) | exact plS PU (plS PU (plS PU (plS PU (plS PU (plS PU (plS PU (plS PU (pl0)))))))) | exact plS PU (plS PU (plS PU (plS PU (plS PU (plS PU (plS PU (plS PU (plS PU (pl0))))))))) | exact plS PU (plS PU (plS PU (plS PU (plS PU (plS PU (plS PU (plS PU (plS PU (plS PU (plS PU (plS PU (pl0)))))))))))) | exact plS PU (plS PU (plS PU (plS PU (plS PU (plS PU (plS PU (plS PU (plS PU (plS PU (plS PU (pl0))))))))))) | exact plS PU (plS PU (plS PU (plS PU (plS PU (plS PU (plS PU (plS PU (plS PU (plS PU (pl0)))))))))))) (h := ?_)
   all_goals exact ⟨Nat.le_trans ‹_› (Nat.succ_le_succ i1), by omega⟩
instance zds : HC 307 (∀ (W : World) (d : Kd) (p : Value), IsCur p d →Sp W [cuA d p] 307 #[p] (WEs (fun xs => xs.length ≤ 14) [cuA d p])) := by
 refine ⟨fun W d p _ => ?_⟩
 refine gENTO (vs := [_]) Tryz.func307 (fun S0 => ?_)
 repeat' first | refine STD ?_ | refine ST ?_ | refine ST2 ?_ | refine ST3 ?_ | intro _ | apply And.intro
 all_goals try dsimp only at *
 all_goals first | omega | (simp; omega)
abbrev WPs (P : List Pin → Prop) (O : List Ass) : Res := RWk (α := List Pin) (ι := HH) P (fun xs p => .slice p.1 xs.length p.2) (fun xs p => [slA 166 pinL (.slice p.1 xs.length p.2) xs]) O
abbrev zc0 (O : List Ass) : Res := RWk (α := Cabin) (ι := HH × HH) CabinSz zdu zdp O
instance zdz : HC 385 (∀ (W : World) (d : Kd) (p : Value), IsCur p d →Sp W [cuA d p] 385 #[p] (WPs (fun xs => xs.length ≤ 8) [cuA d p])) := by
 refine ⟨fun W d p _ => ?_⟩
 refine gENTO (vs := [_]) Tryz.func385 (fun S0 => ?_)
 repeat' first | refine STD ?_ | refine ST ?_ | refine ST2 ?_ | refine ST3 ?_ | intro _ | apply And.intro
 refine gFORG 5 8 (fun q : HH × List Pin => [(3, .v (.slice q.1.1 q.2.length q.1.2))]) [] (fun q => [cuA d p, slA 166 pinL (.slice q.1.1 q.2.length q.1.2) q.2]) (fun k q => q.2.length = k) ((_, 0), []) (hp := (by first | exact plS PU (plS PU (pl0)) | exact plS PU (plS PU (plS PU (pl0))) | exact plS PU (plS PU (plS PU (plS PU (pl0)))) | exact plS PU (pl0) | exact plS PU (plS PU (plS PU (plS PU (plS PU (plS PU (pl0)))))) | exact plS PU (plS PU (plS PU (plS PU (plS PU (plS PU (plS PU (pl0))))))) | exact plS PU (plS PU (plS PU (plS PU (plS PU (plS PU (plS PU (plS PU (pl0)))))))) | exact plS PU (plS PU (plS PU (plS PU (plS PU (plS PU (plS PU (plS PU (plS PU (pl0))))))))) | exact plS PU (plS PU (plS PU (plS PU (plS PU (plS PU (plS PU (plS PU (plS PU (plS PU (plS PU (plS PU (pl0)))))))))))) | exact plS PU (plS PU (plS PU (plS PU (plS PU (plS PU (plS PU (plS PU (plS PU (plS PU (plS PU (pl0))))))))))) | exact plS PU (plS PU (plS PU (plS PU (plS PU (plS PU (plS PU (plS PU (plS PU (plS PU (pl0)))))))))))) (h0 := by rfl) (body := fun k q hk hi => ?_)
 obtain ⟨⟨e, f⟩, xs⟩ := q
 have i1 : xs.length = k := hi
 repeat' first | refine STD ?_ | refine ST ?_ | refine ST2 ?_ | refine ST3 ?_ | intro _ | apply And.intro
 all_goals try omega
 refine gGBACK ((_, _), _) (by omega) (hp := (by first | exact plS PU (plS PU (pl0)) | exact plS PU (plS PU (plS PU (pl0))) | exact plS PU (plS PU (plS PU (plS PU (pl0)))) | exact plS PU (pl0) | exact plS PU (plS PU (plS PU (plS PU (plS PU (plS PU (pl0)))))) | exact plS PU (plS PU (plS PU (plS PU (plS PU (plS PU (plS PU (pl0))))))) | exact plS PU (plS PU (plS PU (plS PU (plS PU (plS PU (plS PU (plS PU (pl0)))))))) | exact plS PU (plS PU (plS PU (plS PU (plS PU (plS PU (plS PU (plS PU (plS PU (pl0))))))))) | exact plS PU (plS PU (plS PU (plS PU (plS PU (plS PU (plS PU (plS PU (plS PU (plS PU (plS PU (plS PU (pl0)))))))))))) | exact plS PU (plS PU (plS PU (plS PU (plS PU (plS PU (plS PU (plS PU (plS PU (plS PU (plS PU (pl0))))))))))) | exact plS PU (plS PU (plS PU (plS PU (plS PU (plS PU (plS PU (plS PU (plS PU (plS PU (pl0)))))))))))) (h := ?_)
 simp [i1]
instance zdb : HC 363 (∀ (W : World) (d : Kd) (p : Value), IsCur p d →Sp W [cuA d p] 363 #[p] (WWh (fun x => x.spoke.length = 9 ∧ x.spoke.flatten.length ≤ 18) [cuA d p])) := by
 refine ⟨fun W d p _ => ?_⟩
 refine gENTO (vs := [_]) Tryz.func363 (fun S0 => ?_)
 repeat' first | refine STD ?_ | refine ST ?_ | refine ST2 ?_ | refine ST3 ?_ | intro _ | apply And.intro
 · rename_i wh hw qw li hli qli _ _ _ _
   refine gFORG 5 10 (fun q : HH × List Pin => [(4, .v (.slice q.1.1 q.2.length q.1.2))]) [] (fun q => [slA 166 pinL (.slice q.1.1 q.2.length q.1.2) q.2]) (fun k q => q.2.length = li.length + k) (qli, li) (hp := (by first | exact plS PU (plS PU (pl0)) | exact plS PU (plS PU (plS PU (pl0))) | exact plS PU (plS PU (plS PU (plS PU (pl0)))) | exact plS PU (pl0) | exact plS PU (plS PU (plS PU (plS PU (plS PU (plS PU (pl0)))))) | exact plS PU (plS PU (plS PU (plS PU (plS PU (plS PU (plS PU (pl0))))))) | exact plS PU (plS PU (plS PU (plS PU (plS PU (plS PU (plS PU (plS PU (pl0)))))))) | exact plS PU (plS PU (plS PU (plS PU (plS PU (plS PU (plS PU (plS PU (plS PU (pl0))))))))) | exact plS PU (plS PU (plS PU (plS PU (plS PU (plS PU (plS PU (plS PU (plS PU (plS PU (plS PU (plS PU (pl0)))))))))))) | exact plS PU (plS PU (plS PU (plS PU (plS PU (plS PU (plS PU (plS PU (plS PU (plS PU (plS PU (pl0))))))))))) | exact plS PU (plS PU (plS PU (plS PU (plS PU (plS PU (plS PU (plS PU (plS PU (plS PU (pl0)))))))))))) (h0 := by rfl) (body := fun k q hk hi => ?_)
   obtain ⟨⟨e9, f9⟩, xs⟩ := q
   have i0 : xs.length = li.length + k := hi
   repeat' first | refine STD ?_ | refine ST ?_ | refine ST2 ?_ | refine ST3 ?_ | intro _ | apply And.intro
   · refine gGBACK ((_, _), _) (by omega) (hp := (by first | exact plS PU (plS PU (pl0)) | exact plS PU (plS PU (plS PU (pl0))) | exact plS PU (plS PU (plS PU (plS PU (pl0)))) | exact plS PU (pl0) | exact plS PU (plS PU (plS PU (plS PU (plS PU (plS PU (pl0)))))) | exact plS PU (plS PU (plS PU (plS PU (plS PU (plS PU (plS PU (pl0))))))) | exact plS PU (plS PU (plS PU (plS PU (plS PU (plS PU (plS PU (plS PU (pl0)))))))) | exact plS PU (plS PU (plS PU (plS PU (plS PU (plS PU (plS PU (plS PU (plS PU (pl0))))))))) | exact plS PU (plS PU (plS PU (plS PU (plS PU (plS PU (plS PU (plS PU (plS PU (plS PU (plS PU (plS PU (pl0)))))))))))) | exact plS PU (plS PU (plS PU (plS PU (plS PU (plS PU (plS PU (plS PU (plS PU (plS PU (plS PU (pl0))))))))))) | exact plS PU (plS PU (plS PU (plS PU (plS PU (plS PU (plS PU (plS PU (plS PU (plS PU (pl0)))))))))))) (h := ?_)
     simp [i0]; omega
   refine gFORG 6 xs.length (fun q : HH × List (List Pin) => []) [(1, fun q => [.slice q.1.1 q.2.length q.1.2])] (fun q => [slA 199 (sl 166 pinL) (.slice q.1.1 q.2.length q.1.2) q.2]) (fun k q => q.2.length = 9 ∧ q.2.flatten.length ≤ k) (qw, wh.spoke) (hp := (by first | exact plS PU (plS PU (pl0)) | exact plS PU (plS PU (plS PU (pl0))) | exact plS PU (plS PU (plS PU (plS PU (pl0)))) | exact plS PU (pl0) | exact plS PU (plS PU (plS PU (plS PU (plS PU (plS PU (pl0)))))) | exact plS PU (plS PU (plS PU (plS PU (plS PU (plS PU (plS PU (pl0))))))) | exact plS PU (plS PU (plS PU (plS PU (plS PU (plS PU (plS PU (plS PU (pl0)))))))) | exact plS PU (plS PU (plS PU (plS PU (plS PU (plS PU (plS PU (plS PU (plS PU (pl0))))))))) | exact plS PU (plS PU (plS PU (plS PU (plS PU (plS PU (plS PU (plS PU (plS PU (plS PU (plS PU (plS PU (pl0)))))))))))) | exact plS PU (plS PU (plS PU (plS PU (plS PU (plS PU (plS PU (plS PU (plS PU (plS PU (plS PU (pl0))))))))))) | exact plS PU (plS PU (plS PU (plS PU (plS PU (plS PU (plS PU (plS PU (plS PU (plS PU (pl0)))))))))))) (h0 := ⟨hw.1, Nat.le_of_eq hw.2⟩) (body := fun k q hk hi => ?_)
   obtain ⟨⟨e, f⟩, ss⟩ := q
   obtain ⟨i1, i2⟩ : ss.length = 9 ∧ ss.flatten.length ≤ k := hi
   repeat' first | refine STD ?_ | refine ST ?_ | refine ST2 ?_ | refine ST3 ?_ | intro _ | apply And.intro
   · refine gGBACK ((_, _), _) (by exact ‹k < _›) (hp := (by first | exact plS PU (plS PU (pl0)) | exact plS PU (plS PU (plS PU (pl0))) | exact plS PU (plS PU (plS PU (plS PU (pl0)))) | exact plS PU (pl0) | exact plS PU (plS PU (plS PU (plS PU (plS PU (plS PU (pl0)))))) | exact plS PU (plS PU (plS PU (plS PU (plS PU (plS PU (plS PU (pl0))))))) | exact plS PU (plS PU (plS PU (plS PU (plS PU (plS PU (plS PU (plS PU (pl0)))))))) | exact plS PU (plS PU (plS PU (plS PU (plS PU (plS PU (plS PU (plS PU (plS PU (pl0))))))))) | exact plS PU (plS PU (plS PU (plS PU (plS PU (plS PU (plS PU (plS PU (plS PU (plS PU (plS PU (plS PU (pl0)))))))))))) | exact plS PU (plS PU (plS PU (plS PU (plS PU (plS PU (plS PU (plS PU (plS PU (plS PU (plS PU (pl0))))))))))) | exact plS PU (plS PU (plS PU (plS PU (plS PU (plS PU (plS PU (plS PU (plS PU (plS PU (pl0)))))))))))) (h := ?_)
     exact ⟨(zq _ _).1.trans i1, Nat.le_trans (zq _ _).2 (Nat.succ_le_succ i2)⟩
   · exact i1
   · exact Nat.le_trans i2 (by omega)
 · rename_i wh hw qw li hli qli _ _ _ _
   refine gFORG 6 li.length (fun q : HH × List (List Pin) => []) [(1, fun q => [.slice q.1.1 q.2.length q.1.2])] (fun q => [slA 199 (sl 166 pinL) (.slice q.1.1 q.2.length q.1.2) q.2]) (fun k q => q.2.length = 9 ∧ q.2.flatten.length ≤ k) (qw, wh.spoke) (hp := (by first | exact plS PU (plS PU (pl0)) | exact plS PU (plS PU (plS PU (pl0))) | exact plS PU (plS PU (plS PU (plS PU (pl0)))) | exact plS PU (pl0) | exact plS PU (plS PU (plS PU (plS PU (plS PU (plS PU (pl0)))))) | exact plS PU (plS PU (plS PU (plS PU (plS PU (plS PU (plS PU (pl0))))))) | exact plS PU (plS PU (plS PU (plS PU (plS PU (plS PU (plS PU (plS PU (pl0)))))))) | exact plS PU (plS PU (plS PU (plS PU (plS PU (plS PU (plS PU (plS PU (plS PU (pl0))))))))) | exact plS PU (plS PU (plS PU (plS PU (plS PU (plS PU (plS PU (plS PU (plS PU (plS PU (plS PU (plS PU (pl0)))))))))))) | exact plS PU (plS PU (plS PU (plS PU (plS PU (plS PU (plS PU (plS PU (plS PU (plS PU (plS PU (pl0))))))))))) | exact plS PU (plS PU (plS PU (plS PU (plS PU (plS PU (plS PU (plS PU (plS PU (plS PU (pl0)))))))))))) (h0 := ⟨hw.1, Nat.le_of_eq hw.2⟩) (body := fun k q hk hi => ?_)
   obtain ⟨⟨e, f⟩, ss⟩ := q
   obtain ⟨i1, i2⟩ : ss.length = 9 ∧ ss.flatten.length ≤ k := hi
   repeat' first | refine STD ?_ | refine ST ?_ | refine ST2 ?_ | refine ST3 ?_ | intro _ | apply And.intro
   · refine gGBACK ((_, _), _) (by exact ‹k < _›) (hp := (by first | exact plS PU (plS PU (pl0)) | exact plS PU (plS PU (plS PU (pl0))) | exact plS PU (plS PU (plS PU (plS PU (pl0)))) | exact plS PU (pl0) | exact plS PU (plS PU (plS PU (plS PU (plS PU (plS PU (pl0)))))) | exact plS PU (plS PU (plS PU (plS PU (plS PU (plS PU (plS PU (pl0))))))) | exact plS PU (plS PU (plS PU (plS PU (plS PU (plS PU (plS PU (plS PU (pl0)))))))) | exact plS PU (plS PU (plS PU (plS PU (plS PU (plS PU (plS PU (plS PU (plS PU (pl0))))))))) | exact plS PU (plS PU (plS PU (plS PU (plS PU (plS PU (plS PU (plS PU (plS PU (plS PU (plS PU (plS PU (pl0)))))))))))) | exact plS PU (plS PU (plS PU (plS PU (plS PU (plS PU (plS PU (plS PU (plS PU (plS PU (plS PU (pl0))))))))))) | exact plS PU (plS PU (plS PU (plS PU (plS PU (plS PU (plS PU (plS PU (plS PU (plS PU (pl0)))))))))))) (h := ?_)
     exact ⟨(zq _ _).1.trans i1, Nat.le_trans (zq _ _).2 (Nat.succ_le_succ i2)⟩
   · exact i1
   · exact Nat.le_trans i2 (by omega)
instance zdd : HC 305 (∀ (W : World) (cs : List Value) (r : Rules) (list : List Party) (v : Value) (cabin now free : Int), RulesR W cs r → Rs partyL W v list → 0 ≤ cabin → cabin < (r.seats.length : Int) → list.length ≤ 1000 →Sp W [] 305 #[.agg cs.toArray, v, vi cabin, vi now, vi free] (zc0 [])) := by
 refine ⟨fun W cs r list v cabin now free hr hv hc0 hc1 hb => ?_⟩
 have hr1 := hr; have hv1 := hv
 obtain ⟨a, c, rfl, hc, hr2⟩ := hr
 obtain ⟨a2, c2, rfl, hc2, hv2⟩ := hv
 refine gENT (vs := [_, _, _, _, _]) Tryz.func305 ?_
 repeat' first | refine STD ?_ | refine ST ?_ | refine ST2 ?_ | refine ST3 ?_ | intro _ | apply And.intro
 rename_i wh hw qw qp
 have hpl : (pinsGo list cabin []).length ≤ 1000 := Nat.le_trans (zbt cabin list) hb
 refine gFORG 13 (pinsGo list cabin []).length (fun q : HH × List (List Pin) => []) [(2, fun q => [.slice q.1.1 q.2.length q.1.2])] (fun q => [slA 199 (sl 166 pinL) (.slice q.1.1 q.2.length q.1.2) q.2]) (fun k q => q.2.length = 9 ∧ q.2.flatten.length ≤ k) (qw, wh.spoke) (hp := (by first | exact plS PU (plS PU (pl0)) | exact plS PU (plS PU (plS PU (pl0))) | exact plS PU (plS PU (plS PU (plS PU (pl0)))) | exact plS PU (pl0) | exact plS PU (plS PU (plS PU (plS PU (plS PU (plS PU (pl0)))))) | exact plS PU (plS PU (plS PU (plS PU (plS PU (plS PU (plS PU (pl0))))))) | exact plS PU (plS PU (plS PU (plS PU (plS PU (plS PU (plS PU (plS PU (pl0)))))))) | exact plS PU (plS PU (plS PU (plS PU (plS PU (plS PU (plS PU (plS PU (plS PU (pl0))))))))) | exact plS PU (plS PU (plS PU (plS PU (plS PU (plS PU (plS PU (plS PU (plS PU (plS PU (plS PU (plS PU (pl0)))))))))))) | exact plS PU (plS PU (plS PU (plS PU (plS PU (plS PU (plS PU (plS PU (plS PU (plS PU (plS PU (pl0))))))))))) | exact plS PU (plS PU (plS PU (plS PU (plS PU (plS PU (plS PU (plS PU (plS PU (plS PU (pl0)))))))))))) (h0 := ⟨hw.1, Nat.le_of_eq hw.2⟩) (body := fun k q hk hi => ?_)
 obtain ⟨⟨e, f⟩, ss⟩ := q
 obtain ⟨i1, i2⟩ : ss.length = 9 ∧ ss.flatten.length ≤ k := hi
 have hql := zap r cabin now list
 repeat' first | refine STD ?_ | refine ST ?_ | refine ST2 ?_ | refine ST3 ?_ | intro _ | apply And.intro
 · refine gGBACK ((_, _), _) (by exact ‹k < _›) (hp := (by first | exact plS PU (plS PU (pl0)) | exact plS PU (plS PU (plS PU (pl0))) | exact plS PU (plS PU (plS PU (plS PU (pl0)))) | exact plS PU (pl0) | exact plS PU (plS PU (plS PU (plS PU (plS PU (plS PU (pl0)))))) | exact plS PU (plS PU (plS PU (plS PU (plS PU (plS PU (plS PU (pl0))))))) | exact plS PU (plS PU (plS PU (plS PU (plS PU (plS PU (plS PU (plS PU (pl0)))))))) | exact plS PU (plS PU (plS PU (plS PU (plS PU (plS PU (plS PU (plS PU (plS PU (pl0))))))))) | exact plS PU (plS PU (plS PU (plS PU (plS PU (plS PU (plS PU (plS PU (plS PU (plS PU (plS PU (plS PU (pl0)))))))))))) | exact plS PU (plS PU (plS PU (plS PU (plS PU (plS PU (plS PU (plS PU (plS PU (plS PU (plS PU (pl0))))))))))) | exact plS PU (plS PU (plS PU (plS PU (plS PU (plS PU (plS PU (plS PU (plS PU (plS PU (pl0)))))))))))) (h := ?_)
   exact ⟨(zq _ _).1.trans i1, Nat.le_trans (zq _ _).2 (Nat.succ_le_succ i2)⟩
 all_goals dsimp only at *
 all_goals first | omega | (have := hql; omega)
def zaS (h : House) (q : Party) (i : Nat) : Bool := h.rules.seats[i]?.any fun s => !decide (wr (heldGo (h.parties ++ [q]) i 0 + tiedGo (h.parties ++ [q]) i 0) > s)
instance zdl : HC 304 (∀ (W : World) (cs : List Value) (h : House) (q : Party), HsR W cs h → h.cabins.length ≤ h.rules.seats.length → h.parties.length ≤ 1000 →Sp W [] 304 #[.agg cs.toArray, .agg (partyE q).toArray] (RV (.bool (allGo (zaS h q) h.cabins.length 0)))) := by
 refine ⟨fun W cs h q hh hc hb => ?_⟩
 have hh1 := hh; obtain ⟨a1, c1, a2, c2, a3, c3, a4, c4, a5, c5, rfl, h1, h2, h3, h4, h5, h6, h7, h8, h9, h10⟩ := hh
 have hcl := h8.len; have hpl := h7.len
 refine gENT (vs := [_, _]) Tryz.func304 ?_
 repeat' first | refine STD ?_ | refine ST ?_ | refine ST2 ?_ | refine ST3 ?_ | intro _ | apply And.intro
 all_goals refine gFOR 6 h.cabins.length (fun k => allGo (zaS h q) h.cabins.length 0 = allGo (zaS h q) h.cabins.length k) rfl fun k hk hv => ?_
 all_goals repeat' first | refine STD ?_ | refine ST ?_ | refine ST2 ?_ | refine ST3 ?_ | intro _ | apply And.intro
 all_goals first
  | (rw [hv, allGo_ge (by omega)]; done)
  | (have e1 : zaS h q k = false := by simp only [zaS, List.getElem?_eq_getElem (show k < h.rules.seats.length by omega), Option.any_some, Bool.not_eq_false', decide_eq_true_eq]; assumption
     rw [hv, allGo_lt (by omega), e1]; rfl)
  | (have e1 : zaS h q k = true := by simp only [zaS, List.getElem?_eq_getElem (show k < h.rules.seats.length by omega), Option.any_some, Bool.not_eq_true', decide_eq_false_iff_not]; assumption
     rw [hv, allGo_lt (by omega), e1]; rfl)
theorem zaG {l : List Int} {x : Int} : allSeats (l ++ [x]) = (allSeats l && inB x 1 60) := by
 induction l with
 | nil => simp [allSeats]
 | cons y l ih => simp [allSeats, ih, Bool.and_assoc]
instance zc8 : HC 211 (∀ (W : World) (d : Kd) (p : Value), IsCur p d →Sp W [cuA d p] 211 #[p] (WRu (fun r => rulesOk r = true) [cuA d p])) := by
 refine ⟨fun W d p _ => ?_⟩
 refine gENTO (vs := [_]) Tryz.func211 (fun S0 => gNILN 3 intL ?_)
 repeat' first | refine STD ?_ | refine ST ?_ | refine ST2 ?_ | refine ST3 ?_ | intro _ | apply And.intro
 rename_i x1 f1 q1 x2 f2 q2 x3 f3 q3 x4 f4 q4 x5 f5 q5 x6 f6 q6 x7 f7 q7 x8 f8 q8 x9 f9 q9
 refine gFORG 5 4 (fun q : HH × List Int => []) [(1, fun q => [.slice q.1.1 q.2.length q.1.2, vi (wr (1 + x1)), vi (wr (2 + x2)), vi (wr (1 + x3)), vi (wr (1 + x4)), vi (wr (1 + x5)), vi x6, vi (wr (1 + x7)), vi (wr (1 + x8))])] (fun q => [cuA d p, slA 3 intL (.slice q.1.1 q.2.length q.1.2) q.2]) (fun k q => q.2.length = k ∧ k ≤ 3 ∧ allSeats q.2 = true) ((none, 0), []) (hp := (by first | exact plS PU (plS PU (pl0)) | exact plS PU (plS PU (plS PU (pl0))) | exact plS PU (plS PU (plS PU (plS PU (pl0)))) | exact plS PU (pl0) | exact plS PU (plS PU (plS PU (plS PU (plS PU (plS PU (pl0)))))) | exact plS PU (plS PU (plS PU (plS PU (plS PU (plS PU (plS PU (pl0))))))) | exact plS PU (plS PU (plS PU (plS PU (plS PU (plS PU (plS PU (plS PU (pl0)))))))) | exact plS PU (plS PU (plS PU (plS PU (plS PU (plS PU (plS PU (plS PU (plS PU (pl0))))))))) | exact plS PU (plS PU (plS PU (plS PU (plS PU (plS PU (plS PU (plS PU (plS PU (plS PU (plS PU (plS PU (pl0)))))))))))) | exact plS PU (plS PU (plS PU (plS PU (plS PU (plS PU (plS PU (plS PU (plS PU (plS PU (plS PU (pl0))))))))))) | exact plS PU (plS PU (plS PU (plS PU (plS PU (plS PU (plS PU (plS PU (plS PU (plS PU (pl0)))))))))))) (h0 := ⟨rfl, by omega, rfl⟩) (body := fun k q hk hi => ?_)
 obtain ⟨⟨e, f⟩, xs⟩ := q
 obtain ⟨i1, i2, i3⟩ : xs.length = k ∧ k ≤ 3 ∧ allSeats xs = true := hi
 have w1 : wr (1 + x9) = 1 + x9 := wr_of (by omega) (by omega)
 repeat' first | refine STD ?_ | refine ST ?_ | refine ST2 ?_ | refine ST3 ?_ | intro _ | apply And.intro
 · refine gGBACK ((_, _), _) (by omega) (hp := (by first | exact plS PU (plS PU (pl0)) | exact plS PU (plS PU (plS PU (pl0))) | exact plS PU (plS PU (plS PU (plS PU (pl0)))) | exact plS PU (pl0) | exact plS PU (plS PU (plS PU (plS PU (plS PU (plS PU (pl0)))))) | exact plS PU (plS PU (plS PU (plS PU (plS PU (plS PU (plS PU (pl0))))))) | exact plS PU (plS PU (plS PU (plS PU (plS PU (plS PU (plS PU (plS PU (pl0)))))))) | exact plS PU (plS PU (plS PU (plS PU (plS PU (plS PU (plS PU (plS PU (plS PU (pl0))))))))) | exact plS PU (plS PU (plS PU (plS PU (plS PU (plS PU (plS PU (plS PU (plS PU (plS PU (plS PU (plS PU (pl0)))))))))))) | exact plS PU (plS PU (plS PU (plS PU (plS PU (plS PU (plS PU (plS PU (plS PU (plS PU (plS PU (pl0))))))))))) | exact plS PU (plS PU (plS PU (plS PU (plS PU (plS PU (plS PU (plS PU (plS PU (plS PU (pl0)))))))))))) (h := ?_)
   rename_i x _ _ _ _ _ _ _
   have w2 : IntKind.i64.wrap (2 + x) = 2 + x := wr_of (by omega) (by omega)
   dsimp only
   refine ⟨by simp [i1], by omega, ?_⟩
   rw [zaG, i3, w2]
   simp only [inB, Bool.true_and, Bool.and_eq_true, decide_eq_true_eq]
   omega
 · dsimp only at *
   simp only [rulesOk, i3, inB, Bool.and_true, Bool.and_eq_true, decide_eq_true_eq]
   refine ⟨⟨⟨⟨⟨⟨⟨⟨?_, ?_⟩, ?_⟩, ?_⟩, ?_⟩, ?_⟩, ?_⟩, ?_⟩, ?_⟩ <;> first | omega | (rw [wr_of (by omega) (by omega)]; omega)
instance zcH : HC 39 (∀ (W : World) (cs : List Value) (r : Rules), RulesR W cs r →Sp W [] 39 #[.agg cs.toArray] (RW2 (α := House) (β := Bool) (ι := H5) (fun x => x.1.cabins.length ≤ 4 ∧ (rulesOk r = true → x.1.rules = r ∧ x.1.cabins.length = r.seats.length) ∧ x.1.parties = [] ∧ x.1.todo = [] ∧ x.1.jobs.length ≤ 3 ∧ x.1.rules.seats.length ≤ 4 ∧ ∀ c ∈ x.1.cabins, CabinSz c) hV hO9 (fun b => .bool b) [])) := by
 refine ⟨fun W cs r hr => ?_⟩
 obtain ⟨a, c, rfl, hc, hr2⟩ := hr
 refine gENT (vs := [_]) Tryz.func39 (gNILN 3 intL (gNILN 3 intL (gNILN 3 intL (gNILN 91 partyL (gNILN 70 (cabinLx 159 199 166) ?_)))))
 by_cases hok : rulesOk r = true
 · have hrr := rr_of hok
   have hs4 := hrr.seats; have hcr := hrr.crew
   repeat' first | exact absurd (‹rulesOk r = false›.symm.trans hok) (by decide) | refine STD ?_ | refine ST ?_ | refine ST2 ?_ | refine ST3 ?_ | intro _ | apply And.intro
   rename_i x9
   refine gFORG 5 r.seats.length (fun q : HH × List Cabin => []) [(2, fun q => [.slice x9.1 r.seats.length x9.2, vi r.tiers, vi r.room, vi r.size, vi r.period, vi r.window, vi r.rest, vi r.tries, vi r.crew, vi 0, vi 1, .slice none 0 0, .slice q.1.1 q.2.length q.1.2, .slice none 0 0, .slice none 0 0])] (fun q => [slA 70 (cabinLx 159 199 166) (.slice q.1.1 q.2.length q.1.2) q.2]) (fun k q => q.2.length = k ∧ ∀ c ∈ q.2, CabinSz c) ((none, 0), []) (h0 := ⟨rfl, by simp⟩) (body := fun k q hk hi => ?_)
   obtain ⟨⟨e, f⟩, xs⟩ := q
   obtain ⟨i1, i2⟩ : xs.length = k ∧ ∀ c ∈ xs, CabinSz c := hi
   repeat' first | refine STD ?_ | refine ST ?_ | refine ST2 ?_ | refine ST3 ?_ | intro _ | apply And.intro
   · refine gGBACK ((_, _), _) (by omega) (h := ?_)
     refine ⟨by simp [i1], fun c hc => ?_⟩
     rcases List.mem_append.1 hc with h | h
     · exact i2 c h
     · rw [List.mem_singleton.1 h]; exact ‹CabinSz _›
   · refine gFORG 8 3 (fun q : HH × List Int => []) [(2, fun q => [.slice x9.1 r.seats.length x9.2, vi r.tiers, vi r.room, vi r.size, vi r.period, vi r.window, vi r.rest, vi r.tries, vi r.crew, vi 0, vi 1, .slice none 0 0, .slice e xs.length f, .slice none 0 0, .slice q.1.1 q.2.length q.1.2])] (fun q => [slA 3 intL (.slice q.1.1 q.2.length q.1.2) q.2]) (fun k q => q.2.length = k) ((none, 0), []) (h0 := rfl) (body := fun k9 q hk9 hi9 => ?_)
     obtain ⟨⟨e9, f9⟩, ys⟩ := q
     have j1 : ys.length = k9 := hi9
     repeat' first | refine STD ?_ | refine ST ?_ | refine ST2 ?_ | refine ST3 ?_ | intro _ | apply And.intro
     · refine gGBACK ((_, _), _) (by omega) (h := ?_)
       simp [j1]
     all_goals dsimp only at *
     all_goals first | omega | rfl | exact i2 | exact (i2 _ (by assumption)).1 | exact (i2 _ (by assumption)).2.1 | exact (i2 _ (by assumption)).2.2
 · repeat' first | exact absurd ‹rulesOk r = true› hok | refine STD ?_ | refine ST ?_ | refine ST2 ?_ | refine ST3 ?_ | intro _ | apply And.intro
   all_goals first | (simp_all; done)
end SX
end Go.Proofs.YtejojcoaohlfbaaGreat
