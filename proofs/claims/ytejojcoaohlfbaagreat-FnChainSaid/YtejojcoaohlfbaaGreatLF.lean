/- The law: freed seats affect only the cabins of the chain. -/
import Derived.Test.YtejojcoaohlfbaaGreatLC
import Derived.Test.YtejojcoaohlfbaaGreatLD
import Derived.Test.YtejojcoaohlfbaaGreatLE
import Derived.Test.YtejojcoaohlfbaaGreatFX
import Derived.Test.YtejojcoaohlfbaaGreatDE
import Derived.Test.YtejojcoaohlfbaaGreatDF
import Derived.Test.YtejojcoaohlfbaaGreatCF
import Derived.Test.YtejojcoaohlfbaaGreatMdc2
namespace Go.Proofs.YtejojcoaohlfbaaGreat
namespace SX
open Go Go.RowKit
set_option linter.unusedVariables false
set_option linter.unusedSimpArgs false
set_option maxRecDepth 10000
set_option maxHeartbeats 1000000
attribute [local irreducible] CD DN OPL AT QL QT CND RETG BKP HL HT HO slA slHo slP ptC pull pulls
set_option maxHeartbeats 40000000
attribute [local irreducible] zJ curO keepA RWk IsCur zaH zb
instance zcn : HC 53 (∀ (W : World) (d : Kd) (v : Value), zaH v d →Sp W [keepA d] 53 #[v] (RW2 (α := House) (β := Int) (ι := H5) (fun x => HouseSz x.1) hV hO9 (fun z => vi z) [keepA d])) := by
 refine ⟨fun W d v hv => ?_⟩
 refine gENTO (vs := [_]) Tryz.func53 (fun S0 => ?_)
 repeat' first | exact ‹HouseSz _› | refine STD ?_ | refine ST ?_ | refine ST2 ?_ | intro _ | apply And.intro
 all_goals first | assumption
theorem zaj {now : Int} : ∀ (ps : List Party) (x : House), (zo now ps x).rules = x.rules
 | [], _ => rfl
 | p :: ps, x => by
  show (zo now ps (zm now x p)).rules = x.rules
  rw [zaj ps]
  unfold zm
  split
  · exact zax _ _
  · rfl
theorem zbf (x : House) : (zd x).1.rules = x.rules := by
 unfold zd
 split
 · exact zaj _ _
 · rfl
theorem zz : ∀ (n : Nat) (h : House) (l : List Int), HRep h → (za n h l).1.rules = h.rules
 | 0, _, _, _ => rfl
 | n + 1, h, l, hp => by
  have h1 : (drained h).rules = h.rules := (zbh (T := 0) (k := 0) hp).2.2.1
  have h2 := zbf (drained h)
  have h3 := zA (zp hp)
  unfold za
  split
  · exact h2.trans h1
  · rw [zz n _ _ h3, h2, h1]
theorem zB {h : House} (hp : HRep h) : zb h 20 = za 20 h [] := by unfold zb; rw [if_pos hp.eq]; rfl
theorem zbY {h : House} {k : Int} (hp : HRep h) (hb : hasCab h k = true) : HRep (zb (zb h 20).1 20).1 ∧ zbF (zb (zb h 20).1 20).1 ∧ hasCab (zb (zb h 20).1 20).1 k = true := by
 have h1 := za5 hp
 have hp1 : HRep (za 20 h []).1 := zx hp
 have e : (zb (zb h 20).1 20).1 = (za 20 (za 20 h []).1 []).1 := by rw [zB hp, zB hp1]
 rw [e]
 obtain ⟨_, h0, h2⟩ := hasCab_rep hb
 refine ⟨h1.1, h1.2, hasCab_mk h1.1 h0 ?_⟩
 rw [h1.1.cabs, zz 20 _ _ hp1, zz 20 _ _ hp, ← hp.cabs]
 exact h2
theorem zbC {h : House} (most : Int) (hs : HouseSz h) : HouseSz (zb h most).1 := by
 by_cases hok : houseOk h = true
 · have hst : zb h most = za (zh most) h [] := by unfold zb; exact if_pos hok
   rw [hst]; exact (zx (hp_of hok)).sz
 · have hst : zb h most = (h, []) := by unfold zb; exact if_neg hok
   rw [hst]; exact hs
instance fnChain_c : HC 10 (∀ (W : World) (d : Kd) (v : Value), zaH v d →Sp W [keepA d] 10 #[v] (RKt d)) := by
 refine ⟨fun W d v hv => ?_⟩
 refine gENTO (vs := [_]) Tryz.func10 (fun S0 => cKV (d := d) (k := fun hok => ?_))
 obtain ⟨a, c, xs, e, hc, hs⟩ := hok
 have e2 : v = .slice a xs.length c := (show d.v = v from by unfold zaH at hv; exact hv).symm.trans e
 subst e2
 clear hs e
 have hw9 : ∀ (y : House), HouseSz y → ∀ c ∈ y.cabins, c.wheel.spoke.flatten.length ≤ 1048576 := fun y hy c hc => (hy.2.2.2.2.2 c hc).2.2
 have hz9 : ∀ (y : House) (m : Int), HouseSz y → HouseSz (zb y m).1 := fun y m hy => zbC m hy
 have hd9 : ∀ (y : House) (q : Req), HouseSz y → HouseSz (doM y q) := fun y q hy => zcG hy
 have hr9 : ∀ (l : List Int), eqInts l l = true := eqInts_refl
 repeat' first | exact rKT rfl | (refine idDN ?_; refine gNEXT (zcC 4 (zak ?_))) | (refine idRET ?_; refine rKT ?_) | refine STD ?_ | refine ST ?_ | refine ST2 ?_ | intro _ | apply And.intro
 unfold zJ
 generalize hx9 : (‹House × Int› : House × Int) = x at *
 have hsx : HouseSz x.1 := ‹_›
 have hwx := hw9 _ hsx
 by_cases hb : hasCab x.1 x.2 = true
 · obtain ⟨hR, hc0, hc1⟩ := hasCab_rep hb
   have hok : houseOk x.1 = true := hR.eq
   obtain ⟨z1, z2, z3⟩ := zbY hR hb
   have hne : (ze x.1 x.2).length ≠ 0 := fun w => by have := zK hb; rw [List.eq_nil_of_length_eq_zero w] at this; exact absurd this List.not_mem_nil
   have hne2 : ¬ ((ze x.1 x.2).length : Int) = 0 := by omega
   have hs1 := hz9 x.1 20 hsx
   have hs2 := hz9 _ 20 hs1
   repeat' first | exact absurd ((hr9 _).symm.trans ‹eqInts _ _ = false›) (by decide) | exact absurd (‹houseOk x.1 = false›.symm.trans hok) (by decide) | exact absurd ‹((ze x.1 x.2).length : Int) = 0› hne2 | (refine idDN ?_; refine gNEXT (zcC 11 (zak ?_))) | (refine idRET ?_; refine rKT ?_) | refine STD ?_ | refine ST ?_ | refine ST2 ?_ | intro _ | apply And.intro
   unfold zJ
   rename_i z9
   obtain ⟨⟨⟨y1, k1⟩, ⟨y2, k2⟩, ⟨y3, k3⟩, ⟨y4, k4⟩, y5, k5⟩, e7⟩ := z9
   refine cKP (O := hOs (zb (zb x.1 20).1 20).1 ((y1, k1), (y2, k2), (y3, k3), (y4, k4), y5, k5) ++ [keepA d]) (by exact plS PU (plS PU (plS PU (plS PU (plS PU (plS PU pl0)))))) ?_
   clear hz9 hw9
   generalize (zb (zb x.1 20).1 20).1 = z at *
   have hk1 : ∀ n : Int, ∀ id ∈ (zb (doM z ⟨3, 0, x.2, 0, n, 0⟩) 20).2, ∃ p ∈ z.parties, p.id = id ∧ p.cabin ∈ ze z x.2 := fun n => by rw [zB (do_hp z1)]; exact (zZ z1 z2 z3).1
   have hk2 : ∀ n : Int, ∀ i : Nat, ¬ (i : Int) ∈ ze z x.2 → (zb (doM z ⟨3, 0, x.2, 0, n, 0⟩) 20).1.cabins[i]? = z.cabins[i]? := fun n => by rw [zB (do_hp z1)]; exact (zZ z1 z2 z3).2.1
   have hk3 : ∀ n : Int, HRep (zb (doM z ⟨3, 0, x.2, 0, n, 0⟩) 20).1 := fun n => by rw [zB (do_hp z1)]; exact (zZ z1 z2 z3).2.2
   have hk4 : ∀ n : Int, (zb (doM z ⟨3, 0, x.2, 0, n, 0⟩) 20).1.cabins.length = z.cabins.length := fun n => by rw [(hk3 n).cabs, z1.cabs]; congr 1; rw [zB (do_hp z1), zz _ _ _ (do_hp z1), zax]
   have hself := zK z3
   have hz4 := z8 z3
   have hid9 := z1.ids
   have hzs := z1.sz
   have hdz : ∀ n : Int, HouseSz (doM z ⟨3, 0, x.2, 0, n, 0⟩) := fun n => zcG hzs
   clear z1 z2 hR hne hs1 hs2 hwx
   repeat' first | (refine idDN ?_; refine gNEXT (gJX 12 (fun q : Int × H5 => [(6, .p 1 0)]) (fun q => [(38, hCl z ((y1, k1), (y2, k2), (y3, k3), (y4, k4), y5, k5)), (38, hCl (doM z ⟨3, 0, x.2, 0, q.1, 0⟩) q.2)]) (fun q => hOs (doM z ⟨3, 0, x.2, 0, q.1, 0⟩) q.2) (fun _ => True) ?_ (fun q _ => zak ?_))) | (refine idDN ?_; refine zd0 ?_; rename_i a9 _ _ x9; refine zd1 [6] (wr (1 + Int.tmod a9 3), x9.1) (hU := by rfl) (hp := by exact plS PU (plS PU (plS PU (plS PU (plS PU pl0))))) (hp2 := by exact plS PU (plS PU (plS PU (plS PU (plS PU (plS PU (plS PU pl0))))))) (h := trivial)) | refine STD ?_ | refine ST ?_ | refine ST2 ?_ | intro _ | apply And.intro
   unfold zJ
   rename_i q _
   obtain ⟨n, ⟨g1, m1⟩, ⟨g2, m2⟩, ⟨g3, m3⟩, ⟨g4, m4⟩, g5, m5⟩ := q
   dsimp only
   replace hk1 := hk1 n; replace hk2 := hk2 n; replace hk3 := hk3 n; replace hk4 := hk4 n; replace hdz := hdz n
   generalize doM z ⟨3, 0, x.2, 0, n, 0⟩ = z6 at *
   repeat' first | refine STD ?_ | refine ST ?_ | refine ST2 ?_ | intro _ | apply And.intro
   rename_i x8
   obtain ⟨⟨⟨j1, l1⟩, ⟨j2, l2⟩, ⟨j3, l3⟩, ⟨j4, l4⟩, j5, l5⟩, e8, c8⟩ := x8
   have hgw : ∀ c ∈ (zb z6 20).1.cabins, c.wheel.spoke.flatten.length ≤ 1048576 := fun c hc => (hk3.sz.2.2.2.2.2 c hc).2.2
   refine zdT (La := intL) (xs := (zb z6 20).2) (k := fun hle => ?_)
   obtain ⟨_, hle⟩ := hle
   refine gFOR 9 (zb z6 20).2.length (fun _ => True) trivial fun i hi _ => ?_
   by_cases hil : i < (zb z6 20).2.length
   · obtain ⟨p9, hp1, hp2, hp3⟩ := hk1 _ (List.getElem_mem hil)
     have hal := atId_lt z.parties (zb z6 20).2[i]
     have hal0 : ¬ atId z.parties (zb z6 20).2[i] < 0 := by rw [← hp2]; exact z0 hp1
     have hal1 : (atId z.parties (zb z6 20).2[i]).toNat < z.parties.length := by omega
     refine gISS (La := intL) (xs := (zb z6 20).2) (k := fun _ => ?_)
     refine gISS (La := partyL) (xs := z.parties) (k := fun _ => ?_)
     have hpe : z.parties[(atId z.parties (zb z6 20).2[i]).toNat]'hal1 = p9 := by
      have h8 := partyOf_of (List.getElem?_eq_getElem hal1)
      rw [← h8, ← hp2]; exact partyOf_mem hid9 hp1
     have hin : (z.parties[(atId z.parties (zb z6 20).2[i]).toNat]'hal1).cabin ∈ ze z x.2 := by rw [hpe]; exact hp3
     repeat' first | exact absurd hil ‹¬ i < _› | exact absurd ‹atId _ _ < 0› hal0 | exact absurd hin ‹¬ _ ∈ ze z x.2› | (refine idQT ?_; refine qIx ?_; first | refine qIN (ha := Iss.get (by assumption) (by omega)) (hn := by omega) (k := ?_) | refine qIX (ha := Iss.get (by assumption) (by omega)) (h0 := by omega) (hn := by omega) (k := ?_)) | refine STD ?_ | refine ST ?_ | refine ST2 ?_ | intro _ | apply And.intro
     all_goals first | trivial
   · repeat' first | exact absurd ‹i < _› hil | refine STD ?_ | refine ST ?_ | refine ST2 ?_ | intro _ | apply And.intro
     refine gFORG 11 z.cabins.length (fun _ : List Cabin × List Cabin => []) [] (fun q => [slA 70 (cabinLx 159 199 166) (.slice y3 z.cabins.length k3) q.1, slA 70 (cabinLx 159 199 166) (.slice j3 (zb z6 20).1.cabins.length l3) q.2]) (fun _ q => q = (z.cabins, (zb z6 20).1.cabins)) (z.cabins, (zb z6 20).1.cabins) (hp := by exact plS PU (plS PU pl0)) (h0 := rfl) (body := fun k9 q hk9 hq9 => ?_)
     obtain rfl : q = (z.cabins, (zb z6 20).1.cabins) := hq9
     dsimp only
     by_cases hkl : k9 < z.cabins.length
     · have hkg : k9 < (zb z6 20).1.cabins.length := by omega
       have heq : ¬ (k9 : Int) ∈ ze z x.2 → (zb z6 20).1.cabins[k9] = z.cabins[k9] := fun w => by
        have h8 := hk2 k9 w
        rw [List.getElem?_eq_getElem hkl, List.getElem?_eq_getElem hkg] at h8
        exact Option.some.inj h8
       have hse : ¬ (k9 : Int) ∈ ze z x.2 → ((zb z6 20).1.cabins[k9].seats.total == z.cabins[k9].seats.total && ((zb z6 20).1.cabins[k9].seats.free == z.cabins[k9].seats.free && ((zb z6 20).1.cabins[k9].seats.held == z.cabins[k9].seats.held && ((zb z6 20).1.cabins[k9].seats.sold == z.cabins[k9].seats.sold && ((zb z6 20).1.cabins[k9].seats.tied == z.cabins[k9].seats.tied && true))))) = true := fun w => by rw [heq w]; simp
       have hrw : ¬ (k9 : Int) ∈ ze z x.2 → (zb z6 20).1.cabins[k9].row = z.cabins[k9].row := fun w => by rw [heq w]
       repeat' first | exact absurd hkl ‹¬ k9 < _› | exact absurd ((hse ‹_›).symm.trans ‹(_ && _) = false›) (by decide) | (refine zcC 23 ?_; refine gSEQ ?_; refine gRH2 (k := fun b c => ?_)) | (refine idDN ?_; refine gNEXT (zcC 23 (gSEQ ?_)); refine gRH2 (k := fun b c => ?_)) | (refine idDN ?_; refine idBK ?_; refine zak ?_) | refine STD ?_ | refine ST ?_ | refine ST2 ?_ | intro _ | apply And.intro
       all_goals first
        | (unfold zJ
           refine dUNC (k := ?_)
           refine dUNC (k := ?_)
           exact gGBACK (z.cabins.set k9 ⟨⟨z.cabins[k9].seats.total, z.cabins[k9].seats.free, z.cabins[k9].seats.held, z.cabins[k9].seats.sold, z.cabins[k9].seats.tied⟩, z.cabins[k9].row, ⟨z.cabins[k9].wheel.spoke⟩⟩, (zb z6 20).1.cabins.set k9 ⟨⟨(zb z6 20).1.cabins[k9].seats.total, (zb z6 20).1.cabins[k9].seats.free, (zb z6 20).1.cabins[k9].seats.held, (zb z6 20).1.cabins[k9].seats.sold, (zb z6 20).1.cabins[k9].seats.tied⟩, (zb z6 20).1.cabins[k9].row, ⟨(zb z6 20).1.cabins[k9].wheel.spoke⟩⟩) hkl (hp := by exact plS PU (plS PU pl0)) (h := by rw [List.set_getElem_self hkl, List.set_getElem_self hkg]))
        | (unfold zJ
           exact gGBACK (z.cabins, (zb z6 20).1.cabins) hkl (hp := by exact plS PU (plS PU pl0)) (h := rfl))
     · have hog : houseOk (zb z6 20).1 = true := hk3.eq
       repeat' first | exact absurd ‹k9 < _› hkl | exact absurd hself ‹¬ x.2 ∈ ze z x.2› | (refine idRET ?_; refine rKT ?_) | refine STD ?_ | refine ST ?_ | refine ST2 ?_ | intro _ | apply And.intro
       all_goals first | exact hog | (simp [hog]; done)
 · have hch : ze x.1 x.2 = [] := if_neg hb
   have hl0 : (ze x.1 x.2).length = 0 := by rw [hch]; rfl
   have hl1 : ((ze x.1 x.2).length : Int) = 0 := by omega
   repeat' first | exact absurd ((hr9 _).symm.trans ‹eqInts _ _ = false›) (by decide) | exact absurd hl1 ‹((ze x.1 x.2).length : Int) ≠ 0› | (refine idRET ?_; refine rKT ?_) | refine STD ?_ | refine ST ?_ | refine ST2 ?_ | intro _ | apply And.intro
   all_goals first | (simp [hl0]; done)
theorem fnChain_k (W : World) (code : List UInt8) (a : Option Addr) (c : Nat) (h : Rd byteL W a code) (hc : code.length ≤ c) : Calls Tryz.prog 10 #[.slice a code.length c] W fun e w' => e = .returned (.bool true) ∧ Below W.heap.size W w' :=
 zdY (fun d v hv => fnChain_c.pf W d v hv) h hc
end SX
end Go.Proofs.YtejojcoaohlfbaaGreat
