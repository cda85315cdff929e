/- The law: every sequence of requests keeps a house right, and its seats. -/
import Derived.Test.YtejojcoaohlfbaaGreatHK
import Derived.Test.YtejojcoaohlfbaaGreatGG
import Derived.Test.YtejojcoaohlfbaaGreatFQ
namespace Go.Proofs.YtejojcoaohlfbaaGreat
namespace SX
open Go Go.RowKit
set_option linter.unusedVariables false
set_option linter.unusedSimpArgs false
set_option maxRecDepth 10000
set_option maxHeartbeats 1000000
attribute [local irreducible] CD DN OPL AT QL QT CND RETG BKP HL HT HO slA slHo slP ptC pull pulls
attribute [local irreducible] curO keepA RWk IsCur IsKd
theorem kept_sz {h : House} {l : List Req} (hs : HouseSz h) : HouseSz (doAllM h l) := by
  induction l generalizing h with
  | nil => exact hs
  | cons q qs ih => exact ih (do_sz9 hs)
instance fnKept_c : HC 6 (∀ (W : World) (d : Kd) (v : Value), IsKd v d →Sp W [keepA d] 6 #[v] (RKt d)) := by
 refine ⟨fun W d v hv => ?_⟩
 refine gENTO (vs := [_]) Tryz.func6 (fun S0 => cKV (d := d) (k := fun hok => ?_))
 obtain ⟨a, c, xs, e, hc, hs⟩ := hok
 have e2 : v = .slice a xs.length c := (show d.v = v from by unfold IsKd at hv; exact hv).symm.trans e
 subst e2
 clear hs e
 have hw9 : ∀ (y : House), HouseSz y → ∀ c ∈ y.cabins, c.wheel.spoke.flatten.length ≤ 1048576 := fun y hy c hc => (hy.2.2.2.2.2 c hc).2.2
 have hz9 : ∀ (y : House) (l : List Req), HouseSz y → HouseSz (doAllM y l) := fun y l hy => kept_sz hy
 have hh9 : ∀ (x : House × List Req), (HouseSz x.1 ∧ x.2.length ≤ 1048576) → HouseSz x.1 := fun x h => h.1
 have hl9 : ∀ (x : House × List Req), (HouseSz x.1 ∧ x.2.length ≤ 1048576) → x.2.length ≤ 1048576 := fun x h => h.2
 repeat' first | exact rKT rfl | (refine idRET ?_; refine rKT ?_) | refine STD ?_ | refine ST ?_ | refine ST2 ?_ | intro _ | apply And.intro
 all_goals generalize hx9 : (‹House × List Req› : House × List Req) = x at *
 · have hb : houseOk x.1 = false := ‹_›
   have : unkept x.1 x.2 = upto x.2.length := if_neg (by rw [hb]; decide)
   rw [this, upto_len]; simp
 rename_i y9
 have hx : HouseSz x.1 ∧ x.2.length ≤ 1048576 := ‹_›
 have hok9 : houseOk x.1 = true := ‹_›
 have hR := hp_of hok9
 have hA : HRep (doAllM x.1 x.2) := doAll_hp hR
 have hAr : (doAllM x.1 x.2).rules = x.1.rules := doAll_rules x.2 x.1
 have hAc : (doAllM x.1 x.2).cabins.length = x.1.rules.seats.length := by rw [hA.cabs, hAr]
 have hAk : houseOk (doAllM x.1 x.2) = true := hA.eq
 have hRc := hR.cabs
 have hs4 := (rr_of hR.rules).seats
 have hc4 : (doAllM x.1 x.2).cabins.length ≤ 4 := by omega
 have hAs := hA.sz
 have hun : unkept x.1 x.2 = [] := if_pos hok9
 have hkey : ∀ (k : Nat) (hk : k < (doAllM x.1 x.2).cabins.length), ledgerOk (doAllM x.1 x.2).cabins[k].seats = true ∧ wr (wr ((doAllM x.1 x.2).cabins[k].seats.free + (doAllM x.1 x.2).cabins[k].seats.held) + (doAllM x.1 x.2).cabins[k].seats.sold) = x.1.rules.seats[k]'(by omega) := fun k hk => by
   obtain ⟨h1, h2, h3⟩ := seats_sum hA (List.getElem?_eq_getElem hk)
   rw [hAr, List.getElem?_eq_getElem (by omega)] at h1
   injection h1 with h1
   exact ⟨h2, h3.trans h1.symm⟩
 refine gISS (La := intL) (xs := x.1.rules.seats) (k := fun his => ?_)
 refine gFORG 8 (doAllM x.1 x.2).cabins.length (fun _ : List Cabin => []) [] (fun q => [slA 70 (cabinLx 159 199 166) (.slice y9.1.2.2.1.1 (doAllM x.1 x.2).cabins.length y9.1.2.2.1.2) q]) (fun _ q => q = (doAllM x.1 x.2).cabins) (doAllM x.1 x.2).cabins (hp := (by first | exact plS PU (plS PU (pl0)) | exact plS PU (plS PU (plS PU (pl0))) | exact plS PU (plS PU (plS PU (plS PU (pl0)))) | exact plS PU (pl0) | exact plS PU (plS PU (plS PU (plS PU (plS PU (plS PU (pl0)))))) | exact plS PU (plS PU (plS PU (plS PU (plS PU (plS PU (plS PU (pl0))))))) | exact plS PU (plS PU (plS PU (plS PU (plS PU (plS PU (plS PU (plS PU (pl0)))))))) | exact plS PU (plS PU (plS PU (plS PU (plS PU (plS PU (plS PU (plS PU (plS PU (pl0))))))))) | exact plS PU (plS PU (plS PU (plS PU (plS PU (plS PU (plS PU (plS PU (plS PU (plS PU (plS PU (plS PU (pl0)))))))))))) | exact plS PU (plS PU (plS PU (plS PU (plS PU (plS PU (plS PU (plS PU (plS PU (plS PU (plS PU (pl0))))))))))) | exact plS PU (plS PU (plS PU (plS PU (plS PU (plS PU (plS PU (plS PU (plS PU (plS PU (pl0)))))))))))) (h0 := rfl) (body := fun k q hk hi => ?_)
 obtain rfl : q = (doAllM x.1 x.2).cabins := hi
 by_cases hkl : k < (doAllM x.1 x.2).cabins.length
 · obtain ⟨k1, k2⟩ := hkey k hkl
   repeat' first | exact rKT rfl | exact absurd hkl ‹¬ _› | exact absurd (‹ledgerOk _ = false›.symm.trans k1) (by decide) | (refine idRET ?_; refine rKT ?_) | refine STD ?_ | refine ST ?_ | refine ST2 ?_ | intro _ | apply And.intro
   all_goals first
    | exact absurd k2 ‹_›
    | (refine dUNC (k := ?_)
       exact gGBACK ((doAllM x.1 x.2).cabins.set k ⟨⟨(doAllM x.1 x.2).cabins[k].seats.total, (doAllM x.1 x.2).cabins[k].seats.free, (doAllM x.1 x.2).cabins[k].seats.held, (doAllM x.1 x.2).cabins[k].seats.sold, (doAllM x.1 x.2).cabins[k].seats.tied⟩, (doAllM x.1 x.2).cabins[k].row, ⟨(doAllM x.1 x.2).cabins[k].wheel.spoke⟩⟩) hkl (hp := (by first | exact plS PU (plS PU (pl0)) | exact plS PU (plS PU (plS PU (pl0))) | exact plS PU (plS PU (plS PU (plS PU (pl0)))) | exact plS PU (pl0) | exact plS PU (plS PU (plS PU (plS PU (plS PU (plS PU (pl0)))))) | exact plS PU (plS PU (plS PU (plS PU (plS PU (plS PU (plS PU (pl0))))))) | exact plS PU (plS PU (plS PU (plS PU (plS PU (plS PU (plS PU (plS PU (pl0)))))))) | exact plS PU (plS PU (plS PU (plS PU (plS PU (plS PU (plS PU (plS PU (plS PU (pl0))))))))) | exact plS PU (plS PU (plS PU (plS PU (plS PU (plS PU (plS PU (plS PU (plS PU (plS PU (plS PU (plS PU (pl0)))))))))))) | exact plS PU (plS PU (plS PU (plS PU (plS PU (plS PU (plS PU (plS PU (plS PU (plS PU (plS PU (pl0))))))))))) | exact plS PU (plS PU (plS PU (plS PU (plS PU (plS PU (plS PU (plS PU (plS PU (plS PU (pl0)))))))))))) (h := List.set_getElem_self hkl))
    | trace_state
 · repeat' first | exact rKT rfl | exact absurd ‹k < (doAllM x.1 x.2).cabins.length› hkl | (refine idRET ?_; refine rKT ?_) | refine STD ?_ | refine ST ?_ | refine ST2 ?_ | intro _ | apply And.intro
   all_goals first
    | (rw [hAc, ← hRc]; simp; done)
    | exact absurd (‹houseOk (doAllM x.1 x.2) = false›.symm.trans hAk) (by decide)
    | (exfalso; have h8 : ((unkept x.1 x.2).length : Int) ≠ 0 := ‹_›; rw [hun] at h8; exact h8 rfl)
    | trace_state
theorem fnKept_k (W : World) (code : List UInt8) (a : Option Addr) (c : Nat) (h : Rd byteL W a code) (hc : code.length ≤ c) : Calls Tryz.prog 6 #[.slice a code.length c] W fun e w' => e = .returned (.bool true) ∧ Below W.heap.size W w' :=
  lawK (fun d v hv => fnKept_c.pf W d v hv) h hc
end SX
end Go.Proofs.YtejojcoaohlfbaaGreat
