/- The law: the sold seats of a cabin are determined by the history of requests. -/
import Derived.Test.YtejojcoaohlfbaaGreatJB1
import Derived.Test.YtejojcoaohlfbaaGreatHK
import Derived.Test.YtejojcoaohlfbaaGreatHR
import Derived.Test.YtejojcoaohlfbaaGreatHE
import Derived.Test.YtejojcoaohlfbaaGreatHS
import Derived.Test.YtejojcoaohlfbaaGreatFQ
namespace Go.Proofs.YtejojcoaohlfbaaGreat
namespace SX
open Go Go.RowKit
set_option linter.unusedVariables false
set_option linter.unusedSimpArgs false
set_option maxRecDepth 10000
set_option maxHeartbeats 1000000
attribute [local irreducible] CD DN OPL AT QL QT CND RETG BKP HL HT HO slA slHo slP ptC pull pulls
attribute [local irreducible] curO keepA RWk IsCur IsKd
theorem freed_nil (l : List Req) (z : Int) : ∀ n, freedN l [] z n = 0
  | 0 => rfl
  | n + 1 => by
    rw [freedN]
    split
    · rw [if_neg]
      · exact freed_nil l z n
      · simp [doneAt]
    · exact freed_nil l z n
theorem doAll_bad : ∀ (l : List Req) {h : House}, houseOk h = false → doAllM h l = h
  | [], h, hb => rfl
  | q :: qs, h, hb => by
    show doAllM (doM h q) qs = h
    rw [do_bad hb]
    exact doAll_bad qs hb
theorem sold_key {r : Rules} {z : House} {b : Bool} {l : List Req} (hx : NewX r (z, b)) (hl : l.length ≤ 1048576) : ∀ (k : Nat) (hk : k < (doAllM z l).cabins.length),
    wr (wr (wr ((doAllM z l).cabins[k].seats.total - freedN l (replGo z l) (k : Int) l.length) - accN l (replGo z l) (fun j => j.from' == (k : Int)) l.length) + accN l (replGo z l) (fun j => j.cabin == (k : Int)) l.length) = (doAllM z l).cabins[k].seats.sold := by
  obtain ⟨_, _, x3, x4⟩ := hx
  intro k hk
  cases hr : rulesOk r with
  | false =>
    obtain ⟨y1, y2⟩ := x4 hr
    exfalso
    rw [doAll_bad l y2] at hk
    have y3 : z.cabins = [] := y1
    rw [y3] at hk
    simp at hk
  | true =>
    obtain ⟨n1, n2⟩ : HRep z ∧ ∀ (i : Nat) (c : Cabin), z.cabins[i]? = some c → c.seats.sold = c.seats.total := newH_hp hr (x3 hr)
    have n4 : z.parties = [] := (x3 hr).2.2.2.1
    have hi := hist (l := l) n1 n4 n2 l.length (Nat.le_refl _)
    obtain ⟨i1, i2, _⟩ := hi
    rw [List.take_length] at i1 i2
    obtain ⟨t, ht, hs⟩ := i2 k hk
    have hc := List.getElem?_eq_getElem hk
    have h1 := (i1.cab k _ hc).1
    rw [doAll_rules, ht] at h1
    injection h1 with h1
    rw [soldAt_of hc] at hs
    have b0 := lp_of i1 hc
    have b1 := freed_rng l (replGo z l) (k : Int) l.length
    have b2 := acc_rng l (replGo z l) (fun j => j.from' == (k : Int)) l.length
    have b3 := acc_rng l (replGo z l) (fun j => j.cabin == (k : Int)) l.length
    have b4 := b0.total
    rw [← h1]
    rw [wr_of (x := t - _) (by omega) (by omega), wr_of (x := t - _ - _) (by omega) (by omega), wr_of (by omega) (by omega)]
    omega
theorem doAll_sz {h : House} {l : List Req} (hs : HouseSz h) : HouseSz (doAllM h l) := by
  induction l generalizing h with
  | nil => exact hs
  | cons q qs ih => exact ih (do_sz9 hs)
def HOLD9 (p : Prop) : Prop := p
theorem hold9 {p : Prop} (h : HOLD9 p) : p := h
attribute [local irreducible] HOLD9
set_option maxHeartbeats 8000000
instance fnSoldFold_c : HC 8 (∀ (W : World) (d : Kd) (v : Value), IsKd v d →Sp W [keepA d] 8 #[v] (RKt d)) := by
 refine ⟨fun W d v hv => ?_⟩
 refine gENTO (vs := [_]) Tryz.func8 (fun S0 => cKV (d := d) (k := fun hok => ?_))
 obtain ⟨a, c, xs, e, hc, hs⟩ := hok
 have e2 : v = .slice a xs.length c := (show d.v = v from by unfold IsKd at hv; exact hv).symm.trans e
 subst e2
 clear hs e
 have hnil : ∀ w, Rs (replyL 3) w (.slice none 0 0) [] := fun w => ⟨none, 0, rfl, by simp, Rd.nil _ _⟩
 have hw9 : ∀ (y : House), HouseSz y → ∀ c ∈ y.cabins, c.wheel.spoke.flatten.length ≤ 1048576 := fun y hy c hc => (hy.2.2.2.2.2 c hc).2.2
 have hh9 : ∀ (x : House × List Req), (HouseSz x.1 ∧ x.2.length ≤ 1048576) → HouseSz x.1 := fun x h => h.1
 have hl9 : ∀ (x : House × List Req), (HouseSz x.1 ∧ x.2.length ≤ 1048576) → x.2.length ≤ 1048576 := fun x h => h.2
 have hx9 : ∀ (r : Rules) (x : House × Bool), NewX r x → HouseSz x.1 := fun r x h => h.1
 repeat' first
  | exact rKT rfl
  | exact absurd (freed_nil _ _ _) ‹_ ≠ (0 : Int)›
  | (refine idJN 6 ?_; refine gJN 6 (fun _ : Unit => []) [] (fun _ => True) pl0 ?_ (fun _ _ => ?_))
  | (refine idJB ?_; refine gJB [] (x' := ()) (hp := pl0) (h := trivial))
  | (refine idJN 8 ?_; refine hold9 ?_)
  | (refine idRET ?_; refine rKT ?_) | refine STD ?_ | refine ST ?_ | refine ST2 ?_ | intro _ | apply And.intro
 rename_i r0 hr0 qr z0 hz0 qz x hx qx _ _
 unfold HOLD9
 refine gJS 8 (fun _ : (House × Bool) × H5 => []) [(1, fun s => hCl s.1.1 s.2)] (fun s => hO9 s.1.1 s.2) (fun s => ∃ r, NewX r s.1) (z0, qz) (hp := by exact plS PU (plS PU (plS PU (plS PU (plS PU pl0))))) ?_ (fun s hs => ?_)
 · repeat' first
    | exact rKT rfl
    | (refine idJS ?_; refine hold9 ?_)
    | (refine idRET ?_; refine rKT ?_) | refine STD ?_ | refine ST ?_ | refine ST2 ?_ | intro _ | apply And.intro
   all_goals unfold HOLD9
   all_goals first
    | (rename_i z9 hz9 q9; refine gJZ2 [] (z9, q9) (hp := by exact plS PU (plS PU (plS PU (plS PU (plS PU pl0))))) (hp2 := by exact plS PU (plS PU (plS PU (plS PU (plS PU (plS PU (plS PU (pl0)))))))) (h := ⟨_, hz9⟩))
    | (rename_i z9 hz9 q9; refine gJZ2 [] (z9, q9) (hp := by exact plS PU (plS PU (plS PU (plS PU (plS PU pl0))))) (hp2 := by exact plS PU (plS PU (plS PU (plS PU (plS PU (plS PU (plS PU (plS PU (pl0))))))))) (h := ⟨_, hz9⟩))
    | (rename_i z9 hz9 q9; refine gJZ2 [] (z9, q9) (hp := by exact plS PU (plS PU (plS PU (plS PU (plS PU pl0))))) (hp2 := by exact plS PU (plS PU (plS PU (plS PU (plS PU (plS PU (plS PU (plS PU (plS PU (pl0)))))))))) (h := ⟨_, hz9⟩))
    | (refine gJZ [] (z0, qz) (hp := by exact plS PU (plS PU (plS PU (plS PU (plS PU pl0))))) (h := ⟨_, hz0⟩))
    | trace_state
 · obtain ⟨⟨z, b0⟩, qz9⟩ := s
   obtain ⟨r9, hn⟩ := hs
   replace hn : NewX r9 (z, b0) := hn
   have hz1 : HouseSz z := hn.1
   have hkey := sold_key (z := z) (b := b0) hn hx.2
   have hrl := repl_len x.2 z
   have hsz : HouseSz (doAllM z x.2) := doAll_sz hz1
   have hc4 := hsz.2.2.1
   have f0 := freed_neg (h0 := z) (l := x.2) (z := -1) (by omega) x.2.length
   have g0 := acc_neg (h0 := z) (l := x.2) (z := -1) (by omega) x.2.length
   have hl1 := hx.2
   clear hw9 hh9 hl9 hnil hn hx9 hz0 hr0 hx
   dsimp only
   repeat' first | exact rKT rfl | (refine idRET ?_; refine rKT ?_) | refine STD ?_ | refine ST ?_ | refine ST2 ?_ | intro _ | apply And.intro
   rename_i y9
   refine gFORG 10 (doAllM z x.2).cabins.length (fun _ : List Cabin => []) [] (fun q => [slA 70 (cabinLx 159 199 166) (.slice y9.1.2.2.1.1 (doAllM z x.2).cabins.length y9.1.2.2.1.2) q]) (fun _ q => q = (doAllM z x.2).cabins) (doAllM z x.2).cabins (hp := (by first | exact plS PU (plS PU (pl0)) | exact plS PU (plS PU (plS PU (pl0))) | exact plS PU (plS PU (plS PU (plS PU (pl0)))) | exact plS PU (pl0) | exact plS PU (plS PU (plS PU (plS PU (plS PU (plS PU (pl0)))))) | exact plS PU (plS PU (plS PU (plS PU (plS PU (plS PU (plS PU (pl0))))))) | exact plS PU (plS PU (plS PU (plS PU (plS PU (plS PU (plS PU (plS PU (pl0)))))))) | exact plS PU (plS PU (plS PU (plS PU (plS PU (plS PU (plS PU (plS PU (plS PU (pl0))))))))) | exact plS PU (plS PU (plS PU (plS PU (plS PU (plS PU (plS PU (plS PU (plS PU (plS PU (plS PU (plS PU (pl0)))))))))))) | exact plS PU (plS PU (plS PU (plS PU (plS PU (plS PU (plS PU (plS PU (plS PU (plS PU (plS PU (pl0))))))))))) | exact plS PU (plS PU (plS PU (plS PU (plS PU (plS PU (plS PU (plS PU (plS PU (plS PU (pl0)))))))))))) (h0 := rfl) (body := fun k q hk hi => ?_)
   obtain rfl : q = (doAllM z x.2).cabins := hi
   by_cases hkl : k < (doAllM z x.2).cabins.length
   · have k1 := hkey k hkl
     repeat' first | exact rKT rfl | exact absurd hkl ‹¬ _› | exact absurd k1.symm ‹_› | (refine idRET ?_; refine rKT ?_) | refine STD ?_ | refine ST ?_ | refine ST2 ?_ | intro _ | apply And.intro
     all_goals first
      | exact absurd k1.symm ‹_›
      | (refine dUNC (k := ?_)
         exact gGBACK ((doAllM z x.2).cabins.set k ⟨⟨(doAllM z x.2).cabins[k].seats.total, (doAllM z x.2).cabins[k].seats.free, (doAllM z x.2).cabins[k].seats.held, (doAllM z x.2).cabins[k].seats.sold, (doAllM z x.2).cabins[k].seats.tied⟩, (doAllM z x.2).cabins[k].row, ⟨(doAllM z x.2).cabins[k].wheel.spoke⟩⟩) hkl (hp := (by first | exact plS PU (plS PU (pl0)) | exact plS PU (plS PU (plS PU (pl0))) | exact plS PU (plS PU (plS PU (plS PU (pl0)))) | exact plS PU (pl0) | exact plS PU (plS PU (plS PU (plS PU (plS PU (plS PU (pl0)))))) | exact plS PU (plS PU (plS PU (plS PU (plS PU (plS PU (plS PU (pl0))))))) | exact plS PU (plS PU (plS PU (plS PU (plS PU (plS PU (plS PU (plS PU (pl0)))))))) | exact plS PU (plS PU (plS PU (plS PU (plS PU (plS PU (plS PU (plS PU (plS PU (pl0))))))))) | exact plS PU (plS PU (plS PU (plS PU (plS PU (plS PU (plS PU (plS PU (plS PU (plS PU (plS PU (plS PU (pl0)))))))))))) | exact plS PU (plS PU (plS PU (plS PU (plS PU (plS PU (plS PU (plS PU (plS PU (plS PU (plS PU (pl0))))))))))) | exact plS PU (plS PU (plS PU (plS PU (plS PU (plS PU (plS PU (plS PU (plS PU (plS PU (pl0)))))))))))) (h := List.set_getElem_self hkl))
      | trace_state
   · repeat' first | exact rKT rfl | exact absurd ‹k < (doAllM z x.2).cabins.length› hkl | (refine idRET ?_; refine rKT ?_) | refine STD ?_ | refine ST ?_ | refine ST2 ?_ | intro _ | apply And.intro
     all_goals first
      | exact absurd f0 ‹_›
      | exact absurd g0 ‹_›
      | (rw [g0]; rfl)
      | trace_state
theorem fnSoldFold_k (W : World) (code : List UInt8) (a : Option Addr) (c : Nat) (h : Rd byteL W a code) (hc : code.length ≤ c) : Calls Tryz.prog 8 #[.slice a code.length c] W fun e w' => e = .returned (.bool true) ∧ Below W.heap.size W w' :=
  lawK (fun d v hv => fnSoldFold_c.pf W d v hv) h hc
end SX
end Go.Proofs.YtejojcoaohlfbaaGreat
