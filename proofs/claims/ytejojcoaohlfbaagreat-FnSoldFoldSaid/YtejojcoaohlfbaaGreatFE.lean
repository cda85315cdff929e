/- Texts of this claim, put together by program. -/
import Derived.Test.YtejojcoaohlfbaaGreatSuTab
import Derived.Test.YtejojcoaohlfbaaGreatA9
import Derived.Test.YtejojcoaohlfbaaGreatAE
import Derived.Test.YtejojcoaohlfbaaGreatSx9
/- Draws: cursors, numbers, rules, parties, entries, ledgers, pins. -/
namespace Go.Proofs.YtejojcoaohlfbaaGreat
namespace SX
open Go Go.RowKit
set_option linter.unusedVariables false
set_option linter.unusedSimpArgs false
set_option maxRecDepth 10000
set_option maxHeartbeats 1000000
attribute [local irreducible] CD DN OPL AT QL QT CND RETG BKP HL HT HO slA slHo slP ptC pull pulls
attribute [local irreducible] curO keepA RWk IsCur
abbrev cuA (d : Kd) (p : Value) : Ass := curO d 191 p
abbrev WI (P : Int → Prop) (O : List Ass) : Res := RWk (α := Int) (ι := Unit) P (fun x _ => vi x) (fun _ _ => []) O
abbrev WB (O : List Ass) : Res := RWk (α := Bool) (ι := Unit) (fun _ => True) (fun x _ => .bool x) (fun _ _ => []) O
abbrev WParty (O : List Ass) : Res := RWk (α := Party) (ι := Unit) (fun _ => True) (fun x _ => .agg (partyE x).toArray) (fun _ _ => []) O
abbrev WEntry (O : List Ass) : Res := RWk (α := Entry) (ι := Unit) (fun _ => True) (fun x _ => .agg (entryE x).toArray) (fun _ _ => []) O
abbrev WPin (O : List Ass) : Res := RWk (α := Pin) (ι := Unit) (fun _ => True) (fun x _ => .agg (pinE x).toArray) (fun _ _ => []) O
abbrev WLed (O : List Ass) : Res := RWk (α := Ledger) (ι := Unit) (fun _ => True) (fun x _ => .agg (ledgerE x).toArray) (fun _ _ => []) O
abbrev WRu (P : Rules → Prop) (O : List Ass) : Res := RWk (α := Rules) (ι := HH) P (fun x p => .agg #[.slice p.1 x.seats.length p.2, vi x.tiers, vi x.room, vi x.size, vi x.period, vi x.window, vi x.rest, vi x.tries, vi x.crew]) (fun x p => [slA 3 intL (.slice p.1 x.seats.length p.2) x.seats]) O
instance s1New_c : HC 104 (∀ (W : World) (d : Kd) (v : Value), IsKd v d →Sp W [keepA d] 104 #[v] (RWk (α := Nat) (ι := Unit) (fun b => IsCur (.pointer (some ⟨b, 0, none⟩)) d) (fun b _ => .pointer (some ⟨b, 0, none⟩)) (fun b _ => [cuA d (.pointer (some ⟨b, 0, none⟩))]) [])) := by
 refine ⟨fun W d v hv => ?_⟩
 refine gENTO (vs := [_]) Tryz.func104 (fun S0 => cKV (d := d) (k := fun hok => ?_))
 obtain ⟨a, c, xs, e, hc, hs⟩ := hok
 obtain ⟨W0, f0, v0⟩ := d
 dsimp only at e hs hv
 subst hv
 subst e
 have hln := hs.1
 simp only [maxLen] at hln
 repeat' first | refine STD ?_ | refine ST ?_ | refine ST2 ?_ | intro _ | apply And.intro
 refine gFORA 4 xs.length (fun h : Int => [(3, .v (vi h))]) (fun _ _ => True) (wr (28285 + (xs.length : Int))) trivial fun k h hk _ => ?_
 repeat' first | (refine idAT ?_; refine aIx ?_; refine aIK (hs := hs) (hz := by omega) (k := ?_)) | (refine idAT ?_; refine aLd ?_; refine aLK (hs := hs) (hz := by omega) (k := ?_)) | refine STD ?_ | refine ST ?_ | refine ST2 ?_ | intro _ | apply And.intro
 · trivial
 all_goals
   refine cOP (k := fun bs hb => ?_)
   obtain ⟨b, rfl⟩ := len1 hb
   simp only [expT, expS, expC, List.getElem?_cons_zero, List.getElem?_cons_succ, List.cons_append, List.nil_append]
   refine cPV (d := 2) (b := b) rfl (cCC (d := ⟨W0, f0, .slice a xs.length c⟩) (b := b) (hi := Int.le_refl 0) (k := ?_))
   repeat' first | refine STD ?_ | refine ST ?_ | intro _ | apply And.intro
   all_goals exact rWN b () isCur (plS PU pl0)
instance s1Byte_c : HC 218 (∀ (W : World) (d : Kd) (p : Value), IsCur p d →Sp W [cuA d p] 218 #[p] (WI (fun x => 0 ≤ x ∧ x < 256) [cuA d p])) := by
 refine ⟨fun W d p _ => ?_⟩
 refine gENTO (vs := [_]) Tryz.func218 (fun S0 => cOC (hp := pu0) (k := fun b i h hp hi => cKV (d := d) (k := fun hok => ?_)))
 obtain ⟨a, c, xs, e, hc, hs⟩ := hok
 subst hp
 obtain ⟨W0, f0, v0⟩ := d
 dsimp only at e hs
 subst e
 have hln := hs.1
 simp only [maxLen] at hln
 refine cVP (d := 0) rfl ?_
 repeat' first | (refine idAT ?_; refine aIx ?_; refine aIKz (d := ⟨W0, f0, .slice a xs.length c⟩) (hs := hs) (h0 := by omega) (hz := by omega) (k := ?_)) | (refine idAT ?_; refine aLd ?_; refine aLK (d := ⟨W0, f0, .slice a xs.length c⟩) (hs := hs) (hz := by omega) (k := ?_)) | (refine idQT ?_; refine qIx ?_; refine qIX (ha := hs.isS (by omega)) (h0 := by omega) (hn := by omega) (k := ?_)) | (refine idQT ?_; refine qLd ?_; refine qLK (d := ⟨W0, f0, .slice a xs.length c⟩) (hs := hs) (hz := by omega) (k := ?_)) | (refine idRN ?_; refine cCC (d := ⟨W0, f0, .slice a xs.length c⟩) (b := b) (hi := by first | assumption | (rw [wr_of (by omega) (by omega)]; omega)) (k := ?_)) | refine STD ?_ | refine ST ?_ | refine ST2 ?_ | intro _ | apply And.intro
 all_goals first | exact (and255 _).1 | exact (and255 _).2 | trace_state
theorem w4_nn {x y z w : Int} (h1 : 0 ≤ x ∧ x < 256) (h2 : 0 ≤ y ∧ y < 256) (h3 : 0 ≤ z ∧ z < 256) (h4 : 0 ≤ w ∧ w < 256) : 0 ≤ wr (wr (wr (wr (x * 16777216) + wr (y * 65536)) + wr (z * 256)) + w) := by
  rw [wr_of (x := x * 16777216) (by omega) (by omega), wr_of (x := y * 65536) (by omega) (by omega), wr_of (x := z * 256) (by omega) (by omega), wr_of (x := x * 16777216 + y * 65536) (by omega) (by omega), wr_of (x := x * 16777216 + y * 65536 + z * 256) (by omega) (by omega), wr_of (by omega) (by omega)]
  omega
instance s1Below_c : HC 109 (∀ (W : World) (d : Kd) (p : Value) (n : Int), IsCur p d →Sp W [cuA d p] 109 #[p, vi n] (WI (fun x => 0 ≤ x ∧ (0 < n → x < n)) [cuA d p])) := by
 refine ⟨fun W d p n _ => ?_⟩
 refine gENTO (vs := [_, _]) Tryz.func109 (fun S0 => ?_)
 repeat' first | refine STD ?_ | refine ST ?_ | refine ST2 ?_ | intro _ | apply And.intro
 all_goals first | omega | exact Int.tmod_nonneg _ (by omega) | exact Int.tmod_nonneg _ (w4_nn ‹_› ‹_› ‹_› ‹_›) | exact Int.tmod_lt_of_pos _ ‹_› | trace_state
instance s1Once_c : HC 106 (∀ (W : World) (d : Kd) (p : Value) (n : Int), IsCur p d →Sp W [cuA d p] 106 #[p, vi n] (WB [cuA d p])) := by
 refine ⟨fun W d p n _ => ?_⟩
 refine gENTO (vs := [_, _]) Tryz.func106 (fun S0 => ?_)
 repeat' first | refine STD ?_ | refine ST ?_ | refine ST2 ?_ | intro _ | apply And.intro
 all_goals trivial
instance s1PickInt_c : HC 212 (∀ (W : World) (d : Kd) (p v : Value) (l : List Int) (pre : List Ass), IsCur p d → SO9 3 intL v l pre → 0 < l.length →Sp W (cuA d p :: pre) 212 #[p, v] (WI (fun _ => True) [cuA d p])) := by
 refine ⟨fun W d p v l pre _ ⟨a, c, e1, e2⟩ hl => ?_⟩
 subst e1 e2
 refine gENTO (vs := [_, _]) Tryz.func212 (fun S0 => ?_)
 repeat' first | refine STD ?_ | refine ST ?_ | refine ST2 ?_ | intro _ | apply And.intro
 all_goals first | trivial | trace_state
end SX
end Go.Proofs.YtejojcoaohlfbaaGreat
/- Draws: wheels, cabins, houses that are new; ledgers; pins. -/
namespace Go.Proofs.YtejojcoaohlfbaaGreat
namespace SX
open Go Go.RowKit
set_option linter.unusedVariables false
set_option linter.unusedSimpArgs false
set_option maxRecDepth 10000
set_option maxHeartbeats 1000000
attribute [local irreducible] CD DN OPL AT QL QT CND RETG BKP HL HT HO slA slHo slP ptC pull pulls
attribute [local irreducible] curO keepA RWk IsCur
abbrev WWh (P : Wheel → Prop) (O : List Ass) : Res := RWk (α := Wheel) (ι := HH) P (fun x p => .agg #[.slice p.1 x.spoke.length p.2]) (fun x p => [slA 199 (sl 166 pinL) (.slice p.1 x.spoke.length p.2) x.spoke]) O
def wcab (x : Cabin) (q : HH × HH) : Value := .agg #[vi x.seats.total, vi x.seats.free, vi x.seats.held, vi x.seats.sold, vi x.seats.tied, .slice q.1.1 x.row.length q.1.2, .slice q.2.1 x.wheel.spoke.length q.2.2]
def ocab (x : Cabin) (q : HH × HH) : List Ass := [slA 159 entryL (.slice q.1.1 x.row.length q.1.2) x.row, slA 199 (sl 166 pinL) (.slice q.2.1 x.wheel.spoke.length q.2.2) x.wheel.spoke]
abbrev hO9 := hOw 3 91 70 159 199 166
instance sWheelNew_c : HC 228 (∀ (W : World) ,Sp W [] 228 #[] (WWh (fun x => x.spoke.length = 9 ∧ x.spoke.flatten.length = 0) [])) := by
 refine ⟨fun W => ?_⟩
 refine gENT (vs := []) Tryz.func228 (gNILN 199 (sl 166 pinL) ?_)
 repeat' first | refine STD ?_ | refine ST ?_ | refine ST2 ?_ | refine ST3 ?_ | intro _ | apply And.intro
 refine gFORG 2 9 (fun q : HH × List (List Pin) => []) [(1, fun q => [.slice q.1.1 q.2.length q.1.2])] (fun q => [slA 199 (sl 166 pinL) (.slice q.1.1 q.2.length q.1.2) q.2]) (fun k q => q.2.length = k ∧ q.2.flatten.length = 0) ((none, 0), []) (h0 := ⟨rfl, rfl⟩) (body := fun k q hk hi => ?_)
 obtain ⟨⟨e, f⟩, xs⟩ := q
 obtain ⟨i1, i2⟩ : xs.length = k ∧ xs.flatten.length = 0 := hi
 repeat' first | refine STD ?_ | refine ST ?_ | refine ST2 ?_ | refine ST3 ?_ | intro _ | apply And.intro
 · refine gGBACK ((_, _), _) (by omega) (h := ?_)
   simp [i1, i2]
 all_goals dsimp only at *
 · omega
 · exact i2
instance sLedgerNew_c : HC 227 (∀ (W : World) (n : Int),Sp W [] 227 #[vi n] (RW2 (α := Ledger) (β := Bool) (ι := Unit) (fun _ => True) (fun x _ => .agg (ledgerE x).toArray) (fun _ _ => []) (fun b => .bool b) [])) := by
 refine ⟨fun W n => ?_⟩
 refine gENT (vs := [_]) Tryz.func227 ?_
 repeat' first | refine STD ?_ | refine ST ?_ | refine ST2 ?_ | refine ST3 ?_ | intro _ | apply And.intro
 all_goals trivial
instance sCabinNew_c : HC 121 (∀ (W : World) (n : Int),Sp W [] 121 #[vi n] (RW2 (α := Cabin) (β := Bool) (ι := HH × HH) (fun x => CabinSz x.1) wcab ocab (fun b => .bool b) [])) := by
 refine ⟨fun W n => ?_⟩
 refine gENT (vs := [_]) Tryz.func121 (gNILN 159 entryL (gNILN 199 (sl 166 pinL) ?_))
 repeat' first | refine STD ?_ | refine ST ?_ | refine ST2 ?_ | refine ST3 ?_ | intro _ | apply And.intro
 all_goals dsimp only at *
 all_goals first | (simp; done) | omega | trace_state
instance s8Right_c : HC 360 (∀ (W : World) (d : Kd) (p : Value), IsCur p d →Sp W [cuA d p] 360 #[p] (WLed [cuA d p])) := by
 refine ⟨fun W d p _ => ?_⟩
 refine gENTO (vs := [_]) Tryz.func360 (fun S0 => ?_)
 repeat' first | refine STD ?_ | refine ST ?_ | refine ST2 ?_ | refine ST3 ?_ | intro _ | apply And.intro
 all_goals first | trivial | trace_state
instance s8Draw_c : HC 306 (∀ (W : World) (d : Kd) (p : Value), IsCur p d →Sp W [cuA d p] 306 #[p] (WLed [cuA d p])) := by
 refine ⟨fun W d p _ => ?_⟩
 refine gENTO (vs := [_]) Tryz.func306 (fun S0 => ?_)
 repeat' first | refine STD ?_ | refine ST ?_ | refine ST2 ?_ | refine ST3 ?_ | intro _ | apply And.intro
 all_goals first | trivial | trace_state
instance s7Entry_c : HC 362 (∀ (W : World) (d : Kd) (p : Value), IsCur p d →Sp W [cuA d p] 362 #[p] (WEntry [cuA d p])) := by
 refine ⟨fun W d p _ => ?_⟩
 refine gENTO (vs := [_]) Tryz.func362 (fun S0 => ?_)
 repeat' first | refine STD ?_ | refine ST ?_ | refine ST2 ?_ | refine ST3 ?_ | intro _ | apply And.intro
 all_goals first | trivial | trace_state
instance s9Pin_c : HC 364 (∀ (W : World) (d : Kd) (p : Value), IsCur p d →Sp W [cuA d p] 364 #[p] (WPin [cuA d p])) := by
 refine ⟨fun W d p _ => ?_⟩
 refine gENTO (vs := [_]) Tryz.func364 (fun S0 => ?_)
 repeat' first | refine STD ?_ | refine ST ?_ | refine ST2 ?_ | refine ST3 ?_ | intro _ | apply And.intro
 all_goals first | trivial | trace_state
end SX
end Go.Proofs.YtejojcoaohlfbaaGreat
/- Draws: houses that are new. -/
namespace Go.Proofs.YtejojcoaohlfbaaGreat
namespace SX
open Go Go.RowKit
set_option linter.unusedVariables false
set_option linter.unusedSimpArgs false
set_option maxRecDepth 10000
set_option maxHeartbeats 1000000
attribute [local irreducible] CD DN OPL AT QL QT CND RETG BKP HL HT HO slA slHo slP ptC pull pulls
attribute [local irreducible] curO keepA RWk IsCur
instance sHouseNew_c : HC 39 (∀ (W : World) (cs : List Value) (r : Rules), RulesR W cs r →Sp W [] 39 #[.agg cs.toArray] (RW2 (α := House) (β := Bool) (ι := H5) (fun x => x.1.cabins.length ≤ 4 ∧ (rulesOk r = true → x.1.rules = r ∧ x.1.cabins.length = r.seats.length) ∧ x.1.parties = [] ∧ x.1.todo = [] ∧ x.1.jobs.length ≤ 3 ∧ x.1.rules.seats.length ≤ 4 ∧ ∀ c ∈ x.1.cabins, CabinSz c) hV hO9 (fun b => .bool b) [])) := by
 refine ⟨fun W cs r hr => ?_⟩
 obtain ⟨a, c, rfl, hc, hr2⟩ := hr
 refine gENT (vs := [_]) Tryz.func39 (gNILN 3 intL (gNILN 3 intL (gNILN 3 intL (gNILN 91 partyL (gNILN 70 (cabinLx 159 199 166) ?_)))))
 by_cases hok : rulesOk r = true
 · have hrr := rr_of hok
   have hs4 := hrr.seats; have hcr := hrr.crew
   repeat' first | exact absurd (‹rulesOk r = false›.symm.trans hok) (by decide) | refine STD ?_ | refine ST ?_ | refine ST2 ?_ | refine ST3 ?_ | intro _ | apply And.intro
   rename_i x9
   refine gFORG 5 r.seats.length (fun q : HH × List Cabin => []) [(2, fun q => [.slice x9.1 r.seats.length x9.2, vi r.tiers, vi r.room, vi r.size, vi r.period, vi r.window, vi r.rest, vi r.tries, vi r.crew, vi 0, vi 1, .slice none 0 0, .slice q.1.1 q.2.length q.1.2, .slice none 0 0, .slice none 0 0])] (fun q => [slA 70 (cabinLx 159 199 166) (.slice q.1.1 q.2.length q.1.2) q.2]) (fun k q => q.2.length = k ∧ ∀ c ∈ q.2, CabinSz c) ((none, 0), []) (h0 := ⟨rfl, by simp⟩) (body := fun k q hk hi => ?_)
   obtain ⟨⟨e, f⟩, xs⟩ := q
   obtain ⟨i1, i2⟩ : xs.length = k ∧ ∀ c ∈ xs, CabinSz c := hi
   repeat' first | refine STD ?_ | refine ST ?_ | refine ST2 ?_ | refine ST3 ?_ | intro _ | apply And.intro
   · refine gGBACK ((_, _), _) (by omega) (h := ?_)
     refine ⟨by simp [i1], fun c hc => ?_⟩
     rcases List.mem_append.1 hc with h | h
     · exact i2 c h
     · rw [List.mem_singleton.1 h]; exact ‹CabinSz _›
   · refine gFORG 8 3 (fun q : HH × List Int => []) [(2, fun q => [.slice x9.1 r.seats.length x9.2, vi r.tiers, vi r.room, vi r.size, vi r.period, vi r.window, vi r.rest, vi r.tries, vi r.crew, vi 0, vi 1, .slice none 0 0, .slice e xs.length f, .slice none 0 0, .slice q.1.1 q.2.length q.1.2])] (fun q => [slA 3 intL (.slice q.1.1 q.2.length q.1.2) q.2]) (fun k q => q.2.length = k) ((none, 0), []) (h0 := rfl) (body := fun k9 q hk9 hi9 => ?_)
     obtain ⟨⟨e9, f9⟩, ys⟩ := q
     have j1 : ys.length = k9 := hi9
     repeat' first | refine STD ?_ | refine ST ?_ | refine ST2 ?_ | refine ST3 ?_ | intro _ | apply And.intro
     · refine gGBACK ((_, _), _) (by omega) (h := ?_)
       simp [j1]
     all_goals dsimp only at *
     all_goals first | omega | rfl | exact i2 | exact (i2 _ (by assumption)).1 | exact (i2 _ (by assumption)).2.1 | exact (i2 _ (by assumption)).2.2 | trace_state
 · repeat' first | exact absurd ‹rulesOk r = true› hok | refine STD ?_ | refine ST ?_ | refine ST2 ?_ | refine ST3 ?_ | intro _ | apply And.intro
   all_goals first | (simp_all; done) | trace_state
end SX
end Go.Proofs.YtejojcoaohlfbaaGreat
