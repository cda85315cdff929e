/- Texts of this claim, put together by program. -/
import Derived.Test.YtapbooddmdkgjaaGreatSut
import Derived.Test.YtapbooddmdkgjaaGreatMdln
import Derived.Test.YtapbooddmdkgjaaGreatA9
import Derived.Test.YtapbooddmdkgjaaGreatAE
import Derived.Test.YtapbooddmdkgjaaGreatMdlz
import Derived.Test.YtapbooddmdkgjaaGreatAP
import Derived.Test.YtapbooddmdkgjaaGreatSx9
/- Draws: cursors, numbers, rules, parties, entries, ledgers, pins. -/
namespace Go.Proofs.YtapbooddmdkgjaaGreat
namespace SX
open Go Go.RowKit
set_option linter.unusedVariables false
set_option linter.unusedSimpArgs false
set_option maxRecDepth 10000
set_option maxHeartbeats 1000000
attribute [local irreducible] CD DN OPL AT QL QT CND RETG BKP HL HT HO slA slHo slP ptC pull pulls
attribute [local irreducible] curO keepA RWk IsCur
abbrev cuA (d : Kd) (p : Value) : Ass := curO d 176 p
abbrev WI (P : Int → Prop) (O : List Ass) : Res := RWk (α := Int) (ι := Unit) P (fun x _ => vi x) (fun _ _ => []) O
abbrev WB (O : List Ass) : Res := RWk (α := Bool) (ι := Unit) (fun _ => True) (fun x _ => .bool x) (fun _ _ => []) O
abbrev WParty (O : List Ass) : Res := RWk (α := Party) (ι := Unit) (fun _ => True) (fun x _ => .agg (partyE x).toArray) (fun _ _ => []) O
abbrev WEntry (O : List Ass) : Res := RWk (α := Entry) (ι := Unit) (fun _ => True) (fun x _ => .agg (entryE x).toArray) (fun _ _ => []) O
abbrev WPin (O : List Ass) : Res := RWk (α := Pin) (ι := Unit) (fun _ => True) (fun x _ => .agg (pinE x).toArray) (fun _ _ => []) O
abbrev WLed (O : List Ass) : Res := RWk (α := Ledger) (ι := Unit) (fun _ => True) (fun x _ => .agg (ledgerE x).toArray) (fun _ _ => []) O
abbrev WRu (P : Rules → Prop) (O : List Ass) : Res := RWk (α := Rules) (ι := HH) P (fun x p => .agg #[.slice p.1 x.seats.length p.2, vi x.tiers, vi x.room, vi x.size, vi x.period, vi x.window, vi x.rest, vi x.tries, vi x.crew]) (fun x p => [slA 3 intL (.slice p.1 x.seats.length p.2) x.seats]) O
instance s1New_c : HC 92 (∀ (W : World) (d : Kd) (v : Value), IsKd v d →Sp W [keepA d] 92 #[v] (RWk (α := Nat) (ι := Unit) (fun b => IsCur (.pointer (some ⟨b, 0, none⟩)) d) (fun b _ => .pointer (some ⟨b, 0, none⟩)) (fun b _ => [cuA d (.pointer (some ⟨b, 0, none⟩))]) [])) := by
 refine ⟨fun W d v hv => ?_⟩
 refine gENTO (vs := [_]) Tryz.func92 (fun S0 => cKV (d := d) (k := fun hok => ?_))
 obtain ⟨a, c, xs, e, hc, hs⟩ := hok
 obtain ⟨W0, f0, v0⟩ := d
 dsimp only at e hs hv
 subst hv
 subst e
 have hln := hs.1
 simp only [maxLen] at hln
 repeat' first | refine STD ?_ | refine ST ?_ | refine ST2 ?_ | intro _ | apply And.intro
 refine gFORA 4 xs.length (fun h : Int => [(3, .v (vi h))]) (fun _ _ => True) (wr (28285 + (xs.length : Int))) trivial fun k h hk _ => ?_
 repeat' first | (refine idAT ?_; refine aIx ?_; refine aIK (hs := hs) (hz := by omega) (k := ?_)) | (refine idAT ?_; refine aLd ?_; refine aLK (hs := hs) (hz := by omega) (k := ?_)) | refine STD ?_ | refine ST ?_ | refine ST2 ?_ | intro _ | apply And.intro
 · trivial
 all_goals
   refine cOP (k := fun bs hb => ?_)
   obtain ⟨b, rfl⟩ := len1 hb
   simp only [expT, expS, expC, List.getElem?_cons_zero, List.getElem?_cons_succ, List.cons_append, List.nil_append]
   refine cPV (d := 2) (b := b) rfl (cCC (d := ⟨W0, f0, .slice a xs.length c⟩) (b := b) (hi := Int.le_refl 0) (k := ?_))
   repeat' first | refine STD ?_ | refine ST ?_ | intro _ | apply And.intro
   all_goals exact rWN b () isCur (plS PU pl0)
instance s1Byte_c : HC 191 (∀ (W : World) (d : Kd) (p : Value), IsCur p d →Sp W [cuA d p] 191 #[p] (WI (fun x => 0 ≤ x ∧ x < 256) [cuA d p])) := by
 refine ⟨fun W d p _ => ?_⟩
 refine gENTO (vs := [_]) Tryz.func191 (fun S0 => cOC (hp := pu0) (k := fun b i h hp hi => cKV (d := d) (k := fun hok => ?_)))
 obtain ⟨a, c, xs, e, hc, hs⟩ := hok
 subst hp
 obtain ⟨W0, f0, v0⟩ := d
 dsimp only at e hs
 subst e
 have hln := hs.1
 simp only [maxLen] at hln
 refine cVP (d := 0) rfl ?_
 repeat' first | (refine idAT ?_; refine aIx ?_; refine aIKz (d := ⟨W0, f0, .slice a xs.length c⟩) (hs := hs) (h0 := by omega) (hz := by omega) (k := ?_)) | (refine idAT ?_; refine aLd ?_; refine aLK (d := ⟨W0, f0, .slice a xs.length c⟩) (hs := hs) (hz := by omega) (k := ?_)) | (refine idQT ?_; refine qIx ?_; refine qIX (ha := hs.isS (by omega)) (h0 := by omega) (hn := by omega) (k := ?_)) | (refine idQT ?_; refine qLd ?_; refine qLK (d := ⟨W0, f0, .slice a xs.length c⟩) (hs := hs) (hz := by omega) (k := ?_)) | (refine idRN ?_; refine cCC (d := ⟨W0, f0, .slice a xs.length c⟩) (b := b) (hi := by first | assumption | (rw [wr_of (by omega) (by omega)]; omega)) (k := ?_)) | refine STD ?_ | refine ST ?_ | refine ST2 ?_ | intro _ | apply And.intro
 all_goals first | exact (and255 _).1 | exact (and255 _).2 | trace_state
theorem w4_nn {x y z w : Int} (h1 : 0 ≤ x ∧ x < 256) (h2 : 0 ≤ y ∧ y < 256) (h3 : 0 ≤ z ∧ z < 256) (h4 : 0 ≤ w ∧ w < 256) : 0 ≤ wr (wr (wr (wr (x * 16777216) + wr (y * 65536)) + wr (z * 256)) + w) := by
  rw [wr_of (x := x * 16777216) (by omega) (by omega), wr_of (x := y * 65536) (by omega) (by omega), wr_of (x := z * 256) (by omega) (by omega), wr_of (x := x * 16777216 + y * 65536) (by omega) (by omega), wr_of (x := x * 16777216 + y * 65536 + z * 256) (by omega) (by omega), wr_of (by omega) (by omega)]
  omega
instance s1Below_c : HC 95 (∀ (W : World) (d : Kd) (p : Value) (n : Int), IsCur p d →Sp W [cuA d p] 95 #[p, vi n] (WI (fun x => 0 ≤ x ∧ (0 < n → x < n)) [cuA d p])) := by
 refine ⟨fun W d p n _ => ?_⟩
 refine gENTO (vs := [_, _]) Tryz.func95 (fun S0 => ?_)
 repeat' first | refine STD ?_ | refine ST ?_ | refine ST2 ?_ | intro _ | apply And.intro
 all_goals first | omega | exact Int.tmod_nonneg _ (by omega) | exact Int.tmod_nonneg _ (w4_nn ‹_› ‹_› ‹_› ‹_›) | exact Int.tmod_lt_of_pos _ ‹_› | trace_state
instance s1Once_c : HC 112 (∀ (W : World) (d : Kd) (p : Value) (n : Int), IsCur p d →Sp W [cuA d p] 112 #[p, vi n] (WB [cuA d p])) := by
 refine ⟨fun W d p n _ => ?_⟩
 refine gENTO (vs := [_, _]) Tryz.func112 (fun S0 => ?_)
 repeat' first | refine STD ?_ | refine ST ?_ | refine ST2 ?_ | intro _ | apply And.intro
 all_goals trivial
instance s1PickInt_c : HC 114 (∀ (W : World) (d : Kd) (p v : Value) (l : List Int) (pre : List Ass), IsCur p d → SO9 3 intL v l pre → 0 < l.length →Sp W (cuA d p :: pre) 114 #[p, v] (WI (fun _ => True) [cuA d p])) := by
 refine ⟨fun W d p v l pre _ ⟨a, c, e1, e2⟩ hl => ?_⟩
 subst e1 e2
 refine gENTO (vs := [_, _]) Tryz.func114 (fun S0 => ?_)
 repeat' first | refine STD ?_ | refine ST ?_ | refine ST2 ?_ | intro _ | apply And.intro
 all_goals first | trivial | trace_state
end SX
end Go.Proofs.YtapbooddmdkgjaaGreat
/- Draws: wheels, cabins, houses that are new; ledgers; pins. -/
namespace Go.Proofs.YtapbooddmdkgjaaGreat
namespace SX
open Go Go.RowKit
set_option linter.unusedVariables false
set_option linter.unusedSimpArgs false
set_option maxRecDepth 10000
set_option maxHeartbeats 1000000
attribute [local irreducible] CD DN OPL AT QL QT CND RETG BKP HL HT HO slA slHo slP ptC pull pulls
attribute [local irreducible] curO keepA RWk IsCur
abbrev WWh (P : Wheel → Prop) (O : List Ass) : Res := RWk (α := Wheel) (ι := HH) P (fun x p => .agg #[.slice p.1 x.spoke.length p.2]) (fun x p => [slA 172 (sl 163 pinL) (.slice p.1 x.spoke.length p.2) x.spoke]) O
def wcab (x : Cabin) (q : HH × HH) : Value := .agg #[vi x.seats.total, vi x.seats.free, vi x.seats.held, vi x.seats.sold, vi x.seats.tied, .slice q.1.1 x.row.length q.1.2, .slice q.2.1 x.wheel.spoke.length q.2.2]
def ocab (x : Cabin) (q : HH × HH) : List Ass := [slA 198 entryL (.slice q.1.1 x.row.length q.1.2) x.row, slA 172 (sl 163 pinL) (.slice q.2.1 x.wheel.spoke.length q.2.2) x.wheel.spoke]
abbrev hO9 := hOw 3 58 83 198 172 163
instance sWheelNew_c : HC 318 (∀ (W : World) ,Sp W [] 318 #[] (WWh (fun x => x.spoke.length = 9 ∧ x.spoke.flatten.length = 0) [])) := by
 refine ⟨fun W => ?_⟩
 refine gENT (vs := []) Tryz.func318 (gNILN 172 (sl 163 pinL) ?_)
 repeat' first | refine STD ?_ | refine ST ?_ | refine ST2 ?_ | refine ST3 ?_ | intro _ | apply And.intro
 refine gFORG 2 9 (fun q : HH × List (List Pin) => []) [(1, fun q => [.slice q.1.1 q.2.length q.1.2])] (fun q => [slA 172 (sl 163 pinL) (.slice q.1.1 q.2.length q.1.2) q.2]) (fun k q => q.2.length = k ∧ q.2.flatten.length = 0) ((none, 0), []) (h0 := ⟨rfl, rfl⟩) (body := fun k q hk hi => ?_)
 obtain ⟨⟨e, f⟩, xs⟩ := q
 obtain ⟨i1, i2⟩ : xs.length = k ∧ xs.flatten.length = 0 := hi
 repeat' first | refine STD ?_ | refine ST ?_ | refine ST2 ?_ | refine ST3 ?_ | intro _ | apply And.intro
 · refine gGBACK ((_, _), _) (by omega) (h := ?_)
   simp [i1, i2]
 all_goals dsimp only at *
 · omega
 · exact i2
instance sLedgerNew_c : HC 324 (∀ (W : World) (n : Int),Sp W [] 324 #[vi n] (RW2 (α := Ledger) (β := Bool) (ι := Unit) (fun _ => True) (fun x _ => .agg (ledgerE x).toArray) (fun _ _ => []) (fun b => .bool b) [])) := by
 refine ⟨fun W n => ?_⟩
 refine gENT (vs := [_]) Tryz.func324 ?_
 repeat' first | refine STD ?_ | refine ST ?_ | refine ST2 ?_ | refine ST3 ?_ | intro _ | apply And.intro
 all_goals trivial
instance sCabinNew_c : HC 289 (∀ (W : World) (n : Int),Sp W [] 289 #[vi n] (RW2 (α := Cabin) (β := Bool) (ι := HH × HH) (fun x => CabinSz x.1) wcab ocab (fun b => .bool b) [])) := by
 refine ⟨fun W n => ?_⟩
 refine gENT (vs := [_]) Tryz.func289 (gNILN 198 entryL (gNILN 172 (sl 163 pinL) ?_))
 repeat' first | refine STD ?_ | refine ST ?_ | refine ST2 ?_ | refine ST3 ?_ | intro _ | apply And.intro
 all_goals dsimp only at *
 all_goals first | (simp; done) | omega | trace_state
instance s8Right_c : HC 319 (∀ (W : World) (d : Kd) (p : Value), IsCur p d →Sp W [cuA d p] 319 #[p] (WLed [cuA d p])) := by
 refine ⟨fun W d p _ => ?_⟩
 refine gENTO (vs := [_]) Tryz.func319 (fun S0 => ?_)
 repeat' first | refine STD ?_ | refine ST ?_ | refine ST2 ?_ | refine ST3 ?_ | intro _ | apply And.intro
 all_goals first | trivial | trace_state
instance s8Draw_c : HC 285 (∀ (W : World) (d : Kd) (p : Value), IsCur p d →Sp W [cuA d p] 285 #[p] (WLed [cuA d p])) := by
 refine ⟨fun W d p _ => ?_⟩
 refine gENTO (vs := [_]) Tryz.func285 (fun S0 => ?_)
 repeat' first | refine STD ?_ | refine ST ?_ | refine ST2 ?_ | refine ST3 ?_ | intro _ | apply And.intro
 all_goals first | trivial | trace_state
instance s7Entry_c : HC 321 (∀ (W : World) (d : Kd) (p : Value), IsCur p d →Sp W [cuA d p] 321 #[p] (WEntry [cuA d p])) := by
 refine ⟨fun W d p _ => ?_⟩
 refine gENTO (vs := [_]) Tryz.func321 (fun S0 => ?_)
 repeat' first | refine STD ?_ | refine ST ?_ | refine ST2 ?_ | refine ST3 ?_ | intro _ | apply And.intro
 all_goals first | trivial | trace_state
instance s9Pin_c : HC 323 (∀ (W : World) (d : Kd) (p : Value), IsCur p d →Sp W [cuA d p] 323 #[p] (WPin [cuA d p])) := by
 refine ⟨fun W d p _ => ?_⟩
 refine gENTO (vs := [_]) Tryz.func323 (fun S0 => ?_)
 repeat' first | refine STD ?_ | refine ST ?_ | refine ST2 ?_ | refine ST3 ?_ | intro _ | apply And.intro
 all_goals first | trivial | trace_state
end SX
end Go.Proofs.YtapbooddmdkgjaaGreat
/- Draws: rows of entries. -/
namespace Go.Proofs.YtapbooddmdkgjaaGreat
namespace SX
open Go Go.RowKit
set_option linter.unusedVariables false
set_option linter.unusedSimpArgs false
set_option maxRecDepth 10000
set_option maxHeartbeats 1000000
attribute [local irreducible] CD DN OPL AT QL QT CND RETG BKP HL HT HO slA slHo slP ptC pull pulls
attribute [local irreducible] curO keepA RWk IsCur
abbrev WEs (P : List Entry → Prop) (O : List Ass) : Res := RWk (α := List Entry) (ι := HH) P (fun xs p => .slice p.1 xs.length p.2) (fun xs p => [slA 198 entryL (.slice p.1 xs.length p.2) xs]) O
instance sQueuePutW_c : HC 338 (∀ (W : World) (list : List Entry) (v : Value) (e : Entry), Rs entryL W v list → list.length ≤ 1000 →Sp W [] 338 #[v, .agg (entryE e).toArray] (RW2 (α := List Entry) (β := Bool) (ι := HH) (fun x => x.1.length ≤ list.length + 1) (fun xs p => .slice p.1 xs.length p.2) (fun xs p => [slA 198 entryL (.slice p.1 xs.length p.2) xs]) (fun b => .bool b) [])) := by
 refine ⟨fun W list v e ⟨a, c, e1, hc, hr⟩ hb => ?_⟩
 subst e1
 have hq : (qIns list e).length = list.length + 1 := by rw [qIns_eq, (insL_perm e list).length_eq]; rfl
 refine gENT (vs := [_, _]) Tryz.func338 ?_
 repeat' first | refine STD ?_ | refine ST ?_ | refine ST2 ?_ | refine ST3 ?_ | intro _ | apply And.intro
 all_goals dsimp only at *
 all_goals first | omega | trace_state
instance s7Right_c : HC 320 (∀ (W : World) (d : Kd) (p : Value), IsCur p d →Sp W [cuA d p] 320 #[p] (WEs (fun xs => xs.length ≤ 13) [cuA d p])) := by
 refine ⟨fun W d p _ => ?_⟩
 refine gENTO (vs := [_]) Tryz.func320 (fun S0 => ?_)
 repeat' first | refine STD ?_ | refine ST ?_ | refine ST2 ?_ | refine ST3 ?_ | intro _ | apply And.intro
 · rename_i x hx _
   have w1 : wr (10 + x) = 10 + x := wr_of (by omega) (by omega)
   refine gFORG 5 14 (fun q : HH × List Entry => [(3, .v (.slice q.1.1 q.2.length q.1.2))]) [] (fun q => [cuA d p, slA 198 entryL (.slice q.1.1 q.2.length q.1.2) q.2]) (fun k q => q.2.length ≤ k ∧ k ≤ 13) ((_, 0), []) (hp := (by first | exact plS PU (plS PU (pl0)) | exact plS PU (plS PU (plS PU (pl0))) | exact plS PU (plS PU (plS PU (plS PU (pl0)))) | exact plS PU (pl0) | exact plS PU (plS PU (plS PU (plS PU (plS PU (plS PU (pl0)))))) | exact plS PU (plS PU (plS PU (plS PU (plS PU (plS PU (plS PU (pl0))))))) | exact plS PU (plS PU (plS PU (plS PU (plS PU (plS PU (plS PU (plS PU (pl0)))))))) | exact plS PU (plS PU (plS PU (plS PU (plS PU (plS PU (plS PU (plS PU (plS PU (pl0))))))))))) (h0 := ⟨by simp, by omega⟩) (body := fun k q hk hi => ?_)
   obtain ⟨⟨e, f⟩, xs⟩ := q
   obtain ⟨i1, i2⟩ : xs.length ≤ k ∧ k ≤ 13 := hi
   repeat' first | refine STD ?_ | refine ST ?_ | refine ST2 ?_ | refine ST3 ?_ | intro _ | apply And.intro
   all_goals dsimp only at *
   all_goals try omega
   all_goals refine gGBACK ((_, _), _) (by omega) (hp := (by first | exact plS PU (plS PU (pl0)) | exact plS PU (plS PU (plS PU (pl0))) | exact plS PU (plS PU (plS PU (plS PU (pl0)))) | exact plS PU (pl0) | exact plS PU (plS PU (plS PU (plS PU (plS PU (plS PU (pl0)))))) | exact plS PU (plS PU (plS PU (plS PU (plS PU (plS PU (plS PU (pl0))))))) | exact plS PU (plS PU (plS PU (plS PU (plS PU (plS PU (plS PU (plS PU (pl0)))))))) | exact plS PU (plS PU (plS PU (plS PU (plS PU (plS PU (plS PU (plS PU (plS PU (pl0))))))))))) (h := ?_)
   all_goals exact ⟨Nat.le_trans ‹_› (Nat.succ_le_succ i1), by omega⟩
 · refine gFORG 5 14 (fun q : HH × List Entry => [(3, .v (.slice q.1.1 q.2.length q.1.2))]) [] (fun q => [cuA d p, slA 198 entryL (.slice q.1.1 q.2.length q.1.2) q.2]) (fun k q => q.2.length ≤ k ∧ k ≤ 13) ((_, 0), []) (hp := (by first | exact plS PU (plS PU (pl0)) | exact plS PU (plS PU (plS PU (pl0))) | exact plS PU (plS PU (plS PU (plS PU (pl0)))) | exact plS PU (pl0) | exact plS PU (plS PU (plS PU (plS PU (plS PU (plS PU (pl0)))))) | exact plS PU (plS PU (plS PU (plS PU (plS PU (plS PU (plS PU (pl0))))))) | exact plS PU (plS PU (plS PU (plS PU (plS PU (plS PU (plS PU (plS PU (pl0)))))))) | exact plS PU (plS PU (plS PU (plS PU (plS PU (plS PU (plS PU (plS PU (plS PU (pl0))))))))))) (h0 := ⟨by simp, by omega⟩) (body := fun k q hk hi => ?_)
   obtain ⟨⟨e, f⟩, xs⟩ := q
   obtain ⟨i1, i2⟩ : xs.length ≤ k ∧ k ≤ 13 := hi
   repeat' first | refine STD ?_ | refine ST ?_ | refine ST2 ?_ | refine ST3 ?_ | intro _ | apply And.intro
   all_goals dsimp only at *
   all_goals try omega
   all_goals refine gGBACK ((_, _), _) (by omega) (hp := (by first | exact plS PU (plS PU (pl0)) | exact plS PU (plS PU (plS PU (pl0))) | exact plS PU (plS PU (plS PU (plS PU (pl0)))) | exact plS PU (pl0) | exact plS PU (plS PU (plS PU (plS PU (plS PU (plS PU (pl0)))))) | exact plS PU (plS PU (plS PU (plS PU (plS PU (plS PU (plS PU (pl0))))))) | exact plS PU (plS PU (plS PU (plS PU (plS PU (plS PU (plS PU (plS PU (pl0)))))))) | exact plS PU (plS PU (plS PU (plS PU (plS PU (plS PU (plS PU (plS PU (plS PU (pl0))))))))))) (h := ?_)
   all_goals exact ⟨Nat.le_trans ‹_› (Nat.succ_le_succ i1), by omega⟩
instance s7Draw_c : HC 286 (∀ (W : World) (d : Kd) (p : Value), IsCur p d →Sp W [cuA d p] 286 #[p] (WEs (fun xs => xs.length ≤ 14) [cuA d p])) := by
 refine ⟨fun W d p _ => ?_⟩
 refine gENTO (vs := [_]) Tryz.func286 (fun S0 => ?_)
 repeat' first | refine STD ?_ | refine ST ?_ | refine ST2 ?_ | refine ST3 ?_ | intro _ | apply And.intro
 all_goals try dsimp only at *
 all_goals first | omega | (simp; omega) | trace_state
end SX
end Go.Proofs.YtapbooddmdkgjaaGreat
/- Draws: wheels, cabins. -/
namespace Go.Proofs.YtapbooddmdkgjaaGreat
namespace SX
open Go Go.RowKit
set_option linter.unusedVariables false
set_option linter.unusedSimpArgs false
set_option maxRecDepth 10000
set_option maxHeartbeats 1000000
attribute [local irreducible] CD DN OPL AT QL QT CND RETG BKP HL HT HO slA slHo slP ptC pull pulls
attribute [local irreducible] curO keepA RWk IsCur
abbrev WPs (P : List Pin → Prop) (O : List Ass) : Res := RWk (α := List Pin) (ι := HH) P (fun xs p => .slice p.1 xs.length p.2) (fun xs p => [slA 163 pinL (.slice p.1 xs.length p.2) xs]) O
abbrev WCab (O : List Ass) : Res := RWk (α := Cabin) (ι := HH × HH) CabinSz wcab ocab O
instance s9Pins_c : HC 339 (∀ (W : World) (d : Kd) (p : Value), IsCur p d →Sp W [cuA d p] 339 #[p] (WPs (fun xs => xs.length ≤ 8) [cuA d p])) := by
 refine ⟨fun W d p _ => ?_⟩
 refine gENTO (vs := [_]) Tryz.func339 (fun S0 => ?_)
 repeat' first | refine STD ?_ | refine ST ?_ | refine ST2 ?_ | refine ST3 ?_ | intro _ | apply And.intro
 refine gFORG 5 8 (fun q : HH × List Pin => [(3, .v (.slice q.1.1 q.2.length q.1.2))]) [] (fun q => [cuA d p, slA 163 pinL (.slice q.1.1 q.2.length q.1.2) q.2]) (fun k q => q.2.length = k) ((_, 0), []) (hp := (by first | exact plS PU (plS PU (pl0)) | exact plS PU (plS PU (plS PU (pl0))) | exact plS PU (plS PU (plS PU (plS PU (pl0)))) | exact plS PU (pl0) | exact plS PU (plS PU (plS PU (plS PU (plS PU (plS PU (pl0)))))) | exact plS PU (plS PU (plS PU (plS PU (plS PU (plS PU (plS PU (pl0))))))) | exact plS PU (plS PU (plS PU (plS PU (plS PU (plS PU (plS PU (plS PU (pl0)))))))) | exact plS PU (plS PU (plS PU (plS PU (plS PU (plS PU (plS PU (plS PU (plS PU (pl0))))))))))) (h0 := by rfl) (body := fun k q hk hi => ?_)
 obtain ⟨⟨e, f⟩, xs⟩ := q
 have i1 : xs.length = k := hi
 repeat' first | refine STD ?_ | refine ST ?_ | refine ST2 ?_ | refine ST3 ?_ | intro _ | apply And.intro
 all_goals try omega
 refine gGBACK ((_, _), _) (by omega) (hp := (by first | exact plS PU (plS PU (pl0)) | exact plS PU (plS PU (plS PU (pl0))) | exact plS PU (plS PU (plS PU (plS PU (pl0)))) | exact plS PU (pl0) | exact plS PU (plS PU (plS PU (plS PU (plS PU (plS PU (pl0)))))) | exact plS PU (plS PU (plS PU (plS PU (plS PU (plS PU (plS PU (pl0))))))) | exact plS PU (plS PU (plS PU (plS PU (plS PU (plS PU (plS PU (plS PU (pl0)))))))) | exact plS PU (plS PU (plS PU (plS PU (plS PU (plS PU (plS PU (plS PU (plS PU (pl0))))))))))) (h := ?_)
 simp [i1]
instance s9Right_c : HC 322 (∀ (W : World) (d : Kd) (p : Value), IsCur p d →Sp W [cuA d p] 322 #[p] (WWh (fun x => x.spoke.length = 9 ∧ x.spoke.flatten.length ≤ 18) [cuA d p])) := by
 refine ⟨fun W d p _ => ?_⟩
 refine gENTO (vs := [_]) Tryz.func322 (fun S0 => ?_)
 repeat' first | refine STD ?_ | refine ST ?_ | refine ST2 ?_ | refine ST3 ?_ | intro _ | apply And.intro
 · rename_i wh hw qw li hli qli _ _ _ _
   refine gFORG 5 10 (fun q : HH × List Pin => [(4, .v (.slice q.1.1 q.2.length q.1.2))]) [] (fun q => [slA 163 pinL (.slice q.1.1 q.2.length q.1.2) q.2]) (fun k q => q.2.length = li.length + k) (qli, li) (hp := (by first | exact plS PU (plS PU (pl0)) | exact plS PU (plS PU (plS PU (pl0))) | exact plS PU (plS PU (plS PU (plS PU (pl0)))) | exact plS PU (pl0) | exact plS PU (plS PU (plS PU (plS PU (plS PU (plS PU (pl0)))))) | exact plS PU (plS PU (plS PU (plS PU (plS PU (plS PU (plS PU (pl0))))))) | exact plS PU (plS PU (plS PU (plS PU (plS PU (plS PU (plS PU (plS PU (pl0)))))))) | exact plS PU (plS PU (plS PU (plS PU (plS PU (plS PU (plS PU (plS PU (plS PU (pl0))))))))))) (h0 := by rfl) (body := fun k q hk hi => ?_)
   obtain ⟨⟨e9, f9⟩, xs⟩ := q
   have i0 : xs.length = li.length + k := hi
   repeat' first | refine STD ?_ | refine ST ?_ | refine ST2 ?_ | refine ST3 ?_ | intro _ | apply And.intro
   · refine gGBACK ((_, _), _) (by omega) (hp := (by first | exact plS PU (plS PU (pl0)) | exact plS PU (plS PU (plS PU (pl0))) | exact plS PU (plS PU (plS PU (plS PU (pl0)))) | exact plS PU (pl0) | exact plS PU (plS PU (plS PU (plS PU (plS PU (plS PU (pl0)))))) | exact plS PU (plS PU (plS PU (plS PU (plS PU (plS PU (plS PU (pl0))))))) | exact plS PU (plS PU (plS PU (plS PU (plS PU (plS PU (plS PU (plS PU (pl0)))))))) | exact plS PU (plS PU (plS PU (plS PU (plS PU (plS PU (plS PU (plS PU (plS PU (pl0))))))))))) (h := ?_)
     simp [i0]; omega
   refine gFORG 6 xs.length (fun q : HH × List (List Pin) => []) [(1, fun q => [.slice q.1.1 q.2.length q.1.2])] (fun q => [slA 172 (sl 163 pinL) (.slice q.1.1 q.2.length q.1.2) q.2]) (fun k q => q.2.length = 9 ∧ q.2.flatten.length ≤ k) (qw, wh.spoke) (hp := (by first | exact plS PU (plS PU (pl0)) | exact plS PU (plS PU (plS PU (pl0))) | exact plS PU (plS PU (plS PU (plS PU (pl0)))) | exact plS PU (pl0) | exact plS PU (plS PU (plS PU (plS PU (plS PU (plS PU (pl0)))))) | exact plS PU (plS PU (plS PU (plS PU (plS PU (plS PU (plS PU (pl0))))))) | exact plS PU (plS PU (plS PU (plS PU (plS PU (plS PU (plS PU (plS PU (pl0)))))))) | exact plS PU (plS PU (plS PU (plS PU (plS PU (plS PU (plS PU (plS PU (plS PU (pl0))))))))))) (h0 := ⟨hw.1, Nat.le_of_eq hw.2⟩) (body := fun k q hk hi => ?_)
   obtain ⟨⟨e, f⟩, ss⟩ := q
   obtain ⟨i1, i2⟩ : ss.length = 9 ∧ ss.flatten.length ≤ k := hi
   repeat' first | refine STD ?_ | refine ST ?_ | refine ST2 ?_ | refine ST3 ?_ | intro _ | apply And.intro
   · refine gGBACK ((_, _), _) (by exact ‹k < _›) (hp := (by first | exact plS PU (plS PU (pl0)) | exact plS PU (plS PU (plS PU (pl0))) | exact plS PU (plS PU (plS PU (plS PU (pl0)))) | exact plS PU (pl0) | exact plS PU (plS PU (plS PU (plS PU (plS PU (plS PU (pl0)))))) | exact plS PU (plS PU (plS PU (plS PU (plS PU (plS PU (plS PU (pl0))))))) | exact plS PU (plS PU (plS PU (plS PU (plS PU (plS PU (plS PU (plS PU (pl0)))))))) | exact plS PU (plS PU (plS PU (plS PU (plS PU (plS PU (plS PU (plS PU (plS PU (pl0))))))))))) (h := ?_)
     exact ⟨(wheelPut_len2 _ _).1.trans i1, Nat.le_trans (wheelPut_len2 _ _).2 (Nat.succ_le_succ i2)⟩
   · exact i1
   · exact Nat.le_trans i2 (by omega)
 · rename_i wh hw qw li hli qli _ _ _ _
   refine gFORG 6 li.length (fun q : HH × List (List Pin) => []) [(1, fun q => [.slice q.1.1 q.2.length q.1.2])] (fun q => [slA 172 (sl 163 pinL) (.slice q.1.1 q.2.length q.1.2) q.2]) (fun k q => q.2.length = 9 ∧ q.2.flatten.length ≤ k) (qw, wh.spoke) (hp := (by first | exact plS PU (plS PU (pl0)) | exact plS PU (plS PU (plS PU (pl0))) | exact plS PU (plS PU (plS PU (plS PU (pl0)))) | exact plS PU (pl0) | exact plS PU (plS PU (plS PU (plS PU (plS PU (plS PU (pl0)))))) | exact plS PU (plS PU (plS PU (plS PU (plS PU (plS PU (plS PU (pl0))))))) | exact plS PU (plS PU (plS PU (plS PU (plS PU (plS PU (plS PU (plS PU (pl0)))))))) | exact plS PU (plS PU (plS PU (plS PU (plS PU (plS PU (plS PU (plS PU (plS PU (pl0))))))))))) (h0 := ⟨hw.1, Nat.le_of_eq hw.2⟩) (body := fun k q hk hi => ?_)
   obtain ⟨⟨e, f⟩, ss⟩ := q
   obtain ⟨i1, i2⟩ : ss.length = 9 ∧ ss.flatten.length ≤ k := hi
   repeat' first | refine STD ?_ | refine ST ?_ | refine ST2 ?_ | refine ST3 ?_ | intro _ | apply And.intro
   · refine gGBACK ((_, _), _) (by exact ‹k < _›) (hp := (by first | exact plS PU (plS PU (pl0)) | exact plS PU (plS PU (plS PU (pl0))) | exact plS PU (plS PU (plS PU (plS PU (pl0)))) | exact plS PU (pl0) | exact plS PU (plS PU (plS PU (plS PU (plS PU (plS PU (pl0)))))) | exact plS PU (plS PU (plS PU (plS PU (plS PU (plS PU (plS PU (pl0))))))) | exact plS PU (plS PU (plS PU (plS PU (plS PU (plS PU (plS PU (plS PU (pl0)))))))) | exact plS PU (plS PU (plS PU (plS PU (plS PU (plS PU (plS PU (plS PU (plS PU (pl0))))))))))) (h := ?_)
     exact ⟨(wheelPut_len2 _ _).1.trans i1, Nat.le_trans (wheelPut_len2 _ _).2 (Nat.succ_le_succ i2)⟩
   · exact i1
   · exact Nat.le_trans i2 (by omega)
end SX
end Go.Proofs.YtapbooddmdkgjaaGreat
/- Draws: a cabin made of parties; is there room. -/
namespace Go.Proofs.YtapbooddmdkgjaaGreat
namespace SX
open Go Go.RowKit
set_option linter.unusedVariables false
set_option linter.unusedSimpArgs false
set_option maxRecDepth 10000
set_option maxHeartbeats 1000000
attribute [local irreducible] CD DN OPL AT QL QT CND RETG BKP HL HT HO slA slHo slP ptC pull pulls
attribute [local irreducible] curO keepA RWk IsCur
instance s10Made_c : HC 284 (∀ (W : World) (cs : List Value) (r : Rules) (list : List Party) (v : Value) (cabin now free : Int), RulesR W cs r → Rs partyL W v list → 0 ≤ cabin → cabin < (r.seats.length : Int) → list.length ≤ 1000 →Sp W [] 284 #[.agg cs.toArray, v, vi cabin, vi now, vi free] (WCab [])) := by
 refine ⟨fun W cs r list v cabin now free hr hv hc0 hc1 hb => ?_⟩
 have hr1 := hr; have hv1 := hv
 obtain ⟨a, c, rfl, hc, hr2⟩ := hr
 obtain ⟨a2, c2, rfl, hc2, hv2⟩ := hv
 refine gENT (vs := [_, _, _, _, _]) Tryz.func284 ?_
 repeat' first | refine STD ?_ | refine ST ?_ | refine ST2 ?_ | refine ST3 ?_ | intro _ | apply And.intro
 rename_i wh hw qw qp
 have hpl : (pinsGo list cabin []).length ≤ 1000 := Nat.le_trans (pinsGo_len0 cabin list) hb
 refine gFORG 13 (pinsGo list cabin []).length (fun q : HH × List (List Pin) => []) [(2, fun q => [.slice q.1.1 q.2.length q.1.2])] (fun q => [slA 172 (sl 163 pinL) (.slice q.1.1 q.2.length q.1.2) q.2]) (fun k q => q.2.length = 9 ∧ q.2.flatten.length ≤ k) (qw, wh.spoke) (hp := (by first | exact plS PU (plS PU (pl0)) | exact plS PU (plS PU (plS PU (pl0))) | exact plS PU (plS PU (plS PU (plS PU (pl0)))) | exact plS PU (pl0) | exact plS PU (plS PU (plS PU (plS PU (plS PU (plS PU (pl0)))))) | exact plS PU (plS PU (plS PU (plS PU (plS PU (plS PU (plS PU (pl0))))))) | exact plS PU (plS PU (plS PU (plS PU (plS PU (plS PU (plS PU (plS PU (pl0)))))))) | exact plS PU (plS PU (plS PU (plS PU (plS PU (plS PU (plS PU (plS PU (plS PU (pl0))))))))))) (h0 := ⟨hw.1, Nat.le_of_eq hw.2⟩) (body := fun k q hk hi => ?_)
 obtain ⟨⟨e, f⟩, ss⟩ := q
 obtain ⟨i1, i2⟩ : ss.length = 9 ∧ ss.flatten.length ≤ k := hi
 have hql := queueOf_len r cabin now list
 repeat' first | refine STD ?_ | refine ST ?_ | refine ST2 ?_ | refine ST3 ?_ | intro _ | apply And.intro
 · refine gGBACK ((_, _), _) (by exact ‹k < _›) (hp := (by first | exact plS PU (plS PU (pl0)) | exact plS PU (plS PU (plS PU (pl0))) | exact plS PU (plS PU (plS PU (plS PU (pl0)))) | exact plS PU (pl0) | exact plS PU (plS PU (plS PU (plS PU (plS PU (plS PU (pl0)))))) | exact plS PU (plS PU (plS PU (plS PU (plS PU (plS PU (plS PU (pl0))))))) | exact plS PU (plS PU (plS PU (plS PU (plS PU (plS PU (plS PU (plS PU (pl0)))))))) | exact plS PU (plS PU (plS PU (plS PU (plS PU (plS PU (plS PU (plS PU (plS PU (pl0))))))))))) (h := ?_)
   exact ⟨(wheelPut_len2 _ _).1.trans i1, Nat.le_trans (wheelPut_len2 _ _).2 (Nat.succ_le_succ i2)⟩
 all_goals dsimp only at *
 all_goals first | omega | (have := hql; omega) | trace_state
def roomP (h : House) (q : Party) (i : Nat) : Bool := h.rules.seats[i]?.any fun s => !decide (wr (heldGo (h.parties ++ [q]) i 0 + tiedGo (h.parties ++ [q]) i 0) > s)
instance s11Room_c : HC 283 (∀ (W : World) (cs : List Value) (h : House) (q : Party), HsR W cs h → h.cabins.length ≤ h.rules.seats.length → h.parties.length ≤ 1000 →Sp W [] 283 #[.agg cs.toArray, .agg (partyE q).toArray] (RV (.bool (allGo (roomP h q) h.cabins.length 0)))) := by
 refine ⟨fun W cs h q hh hc hb => ?_⟩
 have hh1 := hh; obtain ⟨a1, c1, a2, c2, a3, c3, a4, c4, a5, c5, rfl, h1, h2, h3, h4, h5, h6, h7, h8, h9, h10⟩ := hh
 have hcl := h8.len; have hpl := h7.len
 refine gENT (vs := [_, _]) Tryz.func283 ?_
 repeat' first | refine STD ?_ | refine ST ?_ | refine ST2 ?_ | refine ST3 ?_ | intro _ | apply And.intro
 all_goals refine gFOR 6 h.cabins.length (fun k => allGo (roomP h q) h.cabins.length 0 = allGo (roomP h q) h.cabins.length k) rfl fun k hk hv => ?_
 all_goals repeat' first | refine STD ?_ | refine ST ?_ | refine ST2 ?_ | refine ST3 ?_ | intro _ | apply And.intro
 all_goals first
  | (rw [hv, allGo_ge (by omega)]; done)
  | (have e1 : roomP h q k = false := by simp only [roomP, List.getElem?_eq_getElem (show k < h.rules.seats.length by omega), Option.any_some, Bool.not_eq_false', decide_eq_true_eq]; assumption
     rw [hv, allGo_lt (by omega), e1]; rfl)
  | (have e1 : roomP h q k = true := by simp only [roomP, List.getElem?_eq_getElem (show k < h.rules.seats.length by omega), Option.any_some, Bool.not_eq_true', decide_eq_false_iff_not]; assumption
     rw [hv, allGo_lt (by omega), e1]; rfl)
  | trace_state
end SX
end Go.Proofs.YtapbooddmdkgjaaGreat
/- Draws: rules. -/
namespace Go.Proofs.YtapbooddmdkgjaaGreat
namespace SX
open Go Go.RowKit
set_option linter.unusedVariables false
set_option linter.unusedSimpArgs false
set_option maxRecDepth 10000
set_option maxHeartbeats 1000000
attribute [local irreducible] CD DN OPL AT QL QT CND RETG BKP HL HT HO slA slHo slP ptC pull pulls
attribute [local irreducible] curO keepA RWk IsCur
theorem allSeats_snoc' {l : List Int} {x : Int} : allSeats (l ++ [x]) = (allSeats l && inB x 1 60) := by
  induction l with
  | nil => simp [allSeats]
  | cons y l ih => simp [allSeats, ih, Bool.and_assoc]
instance s5Right_c : HC 208 (∀ (W : World) (d : Kd) (p : Value), IsCur p d →Sp W [cuA d p] 208 #[p] (WRu (fun r => rulesOk r = true) [cuA d p])) := by
 refine ⟨fun W d p _ => ?_⟩
 refine gENTO (vs := [_]) Tryz.func208 (fun S0 => gNILN 3 intL ?_)
 repeat' first | refine STD ?_ | refine ST ?_ | refine ST2 ?_ | refine ST3 ?_ | intro _ | apply And.intro
 rename_i x1 f1 q1 x2 f2 q2 x3 f3 q3 x4 f4 q4 x5 f5 q5 x6 f6 q6 x7 f7 q7 x8 f8 q8 x9 f9 q9
 refine gFORG 5 4 (fun q : HH × List Int => []) [(1, fun q => [.slice q.1.1 q.2.length q.1.2, vi (wr (1 + x1)), vi (wr (2 + x2)), vi (wr (1 + x3)), vi (wr (1 + x4)), vi (wr (1 + x5)), vi x6, vi (wr (1 + x7)), vi (wr (1 + x8))])] (fun q => [cuA d p, slA 3 intL (.slice q.1.1 q.2.length q.1.2) q.2]) (fun k q => q.2.length = k ∧ k ≤ 3 ∧ allSeats q.2 = true) ((none, 0), []) (hp := (by first | exact plS PU (plS PU (pl0)) | exact plS PU (plS PU (plS PU (pl0))) | exact plS PU (plS PU (plS PU (plS PU (pl0)))) | exact plS PU (pl0) | exact plS PU (plS PU (plS PU (plS PU (plS PU (plS PU (pl0)))))) | exact plS PU (plS PU (plS PU (plS PU (plS PU (plS PU (plS PU (pl0))))))) | exact plS PU (plS PU (plS PU (plS PU (plS PU (plS PU (plS PU (plS PU (pl0)))))))) | exact plS PU (plS PU (plS PU (plS PU (plS PU (plS PU (plS PU (plS PU (plS PU (pl0))))))))))) (h0 := ⟨rfl, by omega, rfl⟩) (body := fun k q hk hi => ?_)
 obtain ⟨⟨e, f⟩, xs⟩ := q
 obtain ⟨i1, i2, i3⟩ : xs.length = k ∧ k ≤ 3 ∧ allSeats xs = true := hi
 have w1 : wr (1 + x9) = 1 + x9 := wr_of (by omega) (by omega)
 repeat' first | refine STD ?_ | refine ST ?_ | refine ST2 ?_ | refine ST3 ?_ | intro _ | apply And.intro
 · refine gGBACK ((_, _), _) (by omega) (hp := (by first | exact plS PU (plS PU (pl0)) | exact plS PU (plS PU (plS PU (pl0))) | exact plS PU (plS PU (plS PU (plS PU (pl0)))) | exact plS PU (pl0) | exact plS PU (plS PU (plS PU (plS PU (plS PU (plS PU (pl0)))))) | exact plS PU (plS PU (plS PU (plS PU (plS PU (plS PU (plS PU (pl0))))))) | exact plS PU (plS PU (plS PU (plS PU (plS PU (plS PU (plS PU (plS PU (pl0)))))))) | exact plS PU (plS PU (plS PU (plS PU (plS PU (plS PU (plS PU (plS PU (plS PU (pl0))))))))))) (h := ?_)
   rename_i x _ _ _ _ _ _ _
   have w2 : IntKind.i64.wrap (2 + x) = 2 + x := wr_of (by omega) (by omega)
   dsimp only
   refine ⟨by simp [i1], by omega, ?_⟩
   rw [allSeats_snoc', i3, w2]
   simp only [inB, Bool.true_and, Bool.and_eq_true, decide_eq_true_eq]
   omega
 · dsimp only at *
   simp only [rulesOk, i3, inB, Bool.and_true, Bool.and_eq_true, decide_eq_true_eq]
   refine ⟨⟨⟨⟨⟨⟨⟨⟨?_, ?_⟩, ?_⟩, ?_⟩, ?_⟩, ?_⟩, ?_⟩, ?_⟩, ?_⟩ <;> first | omega | (rw [wr_of (by omega) (by omega)]; omega) | trace_state
end SX
end Go.Proofs.YtapbooddmdkgjaaGreat
/- Draws: houses that are new. -/
namespace Go.Proofs.YtapbooddmdkgjaaGreat
namespace SX
open Go Go.RowKit
set_option linter.unusedVariables false
set_option linter.unusedSimpArgs false
set_option maxRecDepth 10000
set_option maxHeartbeats 1000000
attribute [local irreducible] CD DN OPL AT QL QT CND RETG BKP HL HT HO slA slHo slP ptC pull pulls
attribute [local irreducible] curO keepA RWk IsCur
instance sHouseNew_c : HC 207 (∀ (W : World) (cs : List Value) (r : Rules), RulesR W cs r →Sp W [] 207 #[.agg cs.toArray] (RW2 (α := House) (β := Bool) (ι := H5) (fun x => x.1.cabins.length ≤ 4 ∧ (rulesOk r = true → x.1.rules = r ∧ x.1.cabins.length = r.seats.length) ∧ x.1.parties = [] ∧ x.1.todo = [] ∧ x.1.jobs.length ≤ 3 ∧ x.1.rules.seats.length ≤ 4 ∧ ∀ c ∈ x.1.cabins, CabinSz c) hV hO9 (fun b => .bool b) [])) := by
 refine ⟨fun W cs r hr => ?_⟩
 obtain ⟨a, c, rfl, hc, hr2⟩ := hr
 refine gENT (vs := [_]) Tryz.func207 (gNILN 3 intL (gNILN 3 intL (gNILN 3 intL (gNILN 58 partyL (gNILN 83 (cabinLx 198 172 163) ?_)))))
 by_cases hok : rulesOk r = true
 · have hrr := rr_of hok
   have hs4 := hrr.seats; have hcr := hrr.crew
   repeat' first | exact absurd (‹rulesOk r = false›.symm.trans hok) (by decide) | refine STD ?_ | refine ST ?_ | refine ST2 ?_ | refine ST3 ?_ | intro _ | apply And.intro
   rename_i x9
   refine gFORG 5 r.seats.length (fun q : HH × List Cabin => []) [(2, fun q => [.slice x9.1 r.seats.length x9.2, vi r.tiers, vi r.room, vi r.size, vi r.period, vi r.window, vi r.rest, vi r.tries, vi r.crew, vi 0, vi 1, .slice none 0 0, .slice q.1.1 q.2.length q.1.2, .slice none 0 0, .slice none 0 0])] (fun q => [slA 83 (cabinLx 198 172 163) (.slice q.1.1 q.2.length q.1.2) q.2]) (fun k q => q.2.length = k ∧ ∀ c ∈ q.2, CabinSz c) ((none, 0), []) (h0 := ⟨rfl, by simp⟩) (body := fun k q hk hi => ?_)
   obtain ⟨⟨e, f⟩, xs⟩ := q
   obtain ⟨i1, i2⟩ : xs.length = k ∧ ∀ c ∈ xs, CabinSz c := hi
   repeat' first | refine STD ?_ | refine ST ?_ | refine ST2 ?_ | refine ST3 ?_ | intro _ | apply And.intro
   · refine gGBACK ((_, _), _) (by omega) (h := ?_)
     refine ⟨by simp [i1], fun c hc => ?_⟩
     rcases List.mem_append.1 hc with h | h
     · exact i2 c h
     · rw [List.mem_singleton.1 h]; exact ‹CabinSz _›
   · refine gFORG 8 3 (fun q : HH × List Int => []) [(2, fun q => [.slice x9.1 r.seats.length x9.2, vi r.tiers, vi r.room, vi r.size, vi r.period, vi r.window, vi r.rest, vi r.tries, vi r.crew, vi 0, vi 1, .slice none 0 0, .slice e xs.length f, .slice none 0 0, .slice q.1.1 q.2.length q.1.2])] (fun q => [slA 3 intL (.slice q.1.1 q.2.length q.1.2) q.2]) (fun k q => q.2.length = k) ((none, 0), []) (h0 := rfl) (body := fun k9 q hk9 hi9 => ?_)
     obtain ⟨⟨e9, f9⟩, ys⟩ := q
     have j1 : ys.length = k9 := hi9
     repeat' first | refine STD ?_ | refine ST ?_ | refine ST2 ?_ | refine ST3 ?_ | intro _ | apply And.intro
     · refine gGBACK ((_, _), _) (by omega) (h := ?_)
       simp [j1]
     all_goals dsimp only at *
     all_goals first | omega | rfl | exact i2 | exact (i2 _ (by assumption)).1 | exact (i2 _ (by assumption)).2.1 | exact (i2 _ (by assumption)).2.2 | trace_state
 · repeat' first | exact absurd ‹rulesOk r = true› hok | refine STD ?_ | refine ST ?_ | refine ST2 ?_ | refine ST3 ?_ | intro _ | apply And.intro
   all_goals first | (simp_all; done) | trace_state
end SX
end Go.Proofs.YtapbooddmdkgjaaGreat
/- Draws: wheels and cabins that may be wrong. -/
namespace Go.Proofs.YtapbooddmdkgjaaGreat
namespace SX
open Go Go.RowKit
set_option linter.unusedVariables false
set_option linter.unusedSimpArgs false
set_option maxRecDepth 10000
set_option maxHeartbeats 1000000
attribute [local irreducible] CD DN OPL AT QL QT CND RETG BKP HL HT HO slA slHo slP ptC pull pulls
attribute [local irreducible] curO keepA RWk IsCur
theorem sp_le {x : Wheel} {n k : Nat} (h : x.spoke.flatten.length ≤ n) (hk : k < x.spoke.length) : x.spoke[k].length ≤ n := by
  obtain ⟨l⟩ := x
  have h2 : ∀ (l : List (List Pin)) (k : Nat) (hk : k < l.length), l[k].length ≤ l.flatten.length := by
    intro l
    induction l with
    | nil => intro k hk; simp at hk
    | cons y l ih =>
      intro k hk
      cases k with
      | zero => simp
      | succ k => have := ih k (by simpa using hk); simp at this ⊢; omega
  exact Nat.le_trans (h2 l k hk) h
instance s9Draw_c : HC 287 (∀ (W : World) (d : Kd) (p : Value), IsCur p d →Sp W [cuA d p] 287 #[p] (WWh (fun x => x.spoke.length ≤ 1048576 ∧ x.spoke.flatten.length ≤ 1048576) [cuA d p])) := by
 refine ⟨fun W d p _ => ?_⟩
 refine gENTO (vs := [_]) Tryz.func287 (fun S0 => ?_)
 repeat' first | (refine idHO ?_; refine goP ?_; refine hAPP (hlen := by refine Nat.le_trans (Nat.add_le_add_right (sp_le (‹_ = 9 ∧ _ ≤ 18› : _ = 9 ∧ _ ≤ 18).2 _) _) ?_; decide) (k := ?_)) | refine STD ?_ | refine ST ?_ | refine ST2 ?_ | refine ST3 ?_ | intro _ | apply And.intro
 all_goals dsimp only at *
 all_goals first | (simp only [List.length_set, List.length_append, List.length_cons, List.length_nil, List.length_take]; omega) | (refine Nat.le_trans (flat_set_le _ _ _) ?_; rw [List.length_append]; refine Nat.le_trans (Nat.add_le_add (‹_ = 9 ∧ _ ≤ 18› : _ = 9 ∧ _ ≤ 18).2 (Nat.add_le_add_right (sp_le (‹_ = 9 ∧ _ ≤ 18› : _ = 9 ∧ _ ≤ 18).2 _) _)) ?_; simp; done) | (simp only [List.flatten_append, List.length_append, List.flatten_cons, List.flatten_nil, List.length_nil, List.append_nil]; omega) | (refine Nat.le_trans (flat_take_le _ _) ?_; omega) | omega | trace_state
instance s10Right_c : HC 288 (∀ (W : World) (d : Kd) (p : Value), IsCur p d →Sp W [cuA d p] 288 #[p] (WCab [cuA d p])) := by
 refine ⟨fun W d p _ => ?_⟩
 refine gENTO (vs := [_]) Tryz.func288 (fun S0 => ?_)
 repeat' first | refine STD ?_ | refine ST ?_ | refine ST2 ?_ | refine ST3 ?_ | intro _ | apply And.intro
 all_goals dsimp only at *
 all_goals first | omega | trace_state
instance s10Draw_c : HC 205 (∀ (W : World) (d : Kd) (p : Value), IsCur p d →Sp W [cuA d p] 205 #[p] (WCab [cuA d p])) := by
 refine ⟨fun W d p _ => ?_⟩
 refine gENTO (vs := [_]) Tryz.func205 (fun S0 => ?_)
 repeat' first | refine STD ?_ | refine ST ?_ | refine ST2 ?_ | refine ST3 ?_ | intro _ | apply And.intro
 all_goals dsimp only at *
 all_goals first | omega | assumption | exact (‹CabinSz _›).1 | exact (‹CabinSz _›).2.1 | exact (‹CabinSz _›).2.2 | trace_state
end SX
end Go.Proofs.YtapbooddmdkgjaaGreat
