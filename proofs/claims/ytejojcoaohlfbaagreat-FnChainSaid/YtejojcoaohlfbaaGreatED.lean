/- The program's side: houses that are right. -/
import Derived.Test.YtejojcoaohlfbaaGreatEC
namespace Go.Proofs.YtejojcoaohlfbaaGreat
namespace SX
open Go Go.RowKit
set_option linter.unusedVariables false
set_option linter.unusedSimpArgs false
set_option maxRecDepth 10000
set_option maxHeartbeats 1000000
attribute [local irreducible] CD DN OPL AT QL QT CND RETG BKP HL HT HO slA slHo slP ptC pull pulls
set_option maxHeartbeats 4000000
theorem cnt9 (h : House) (k : Nat) (hb : h.parties.length ≤ 1048576) : ((queueRaw h.rules h.parties (k : Int) h.now).length : Int) ≤ countGo h.parties (k : Int) 0 ∧ ((pinsRaw h.parties (k : Int)).length : Int) ≤ countGo h.parties (k : Int) 0 := by
 have h1 := queueRaw_len h.rules (k : Int) h.now h.parties 0 (by omega) (by omega)
 have h2 := pinsRaw_len (k : Int) h.parties 0 (by omega) (by omega)
 omega
def prB (p q : Party) : Bool := !(q.turn == p.turn) && !(decide (q.turn < p.turn) && decide (q.since > p.since)) && !(decide (q.turn > p.turn) && decide (q.since < p.since))
theorem prB_bad {p q : Party} (h : p.turn = q.turn ∨ (p.turn < q.turn ∧ p.since > q.since) ∨ (q.turn < p.turn ∧ q.since > p.since)) : prB p q = false := by
 unfold prB
 rcases h with h | ⟨h1, h2⟩ | ⟨h1, h2⟩
 · simp [h]
 · simp [h1, h2]
 · simp [h1, h2]
theorem prB_ok {p q : Party} (h1 : p.turn ≠ q.turn) (h2 : ¬ (p.turn < q.turn ∧ p.since > q.since)) (h3 : ¬ (q.turn < p.turn ∧ q.since > p.since)) : prB p q = true := by
 simp only [prB, Bool.and_eq_true, Bool.not_eq_true', beq_eq_false_iff_ne, Bool.and_eq_false_iff, decide_eq_false_iff_not]
 omega
abbrev prG (h : House) (k : Nat) (hk : k < h.parties.length) (i : Nat) : Bool := h.parties[i]?.any fun q => !(q.turn == h.parties[k].turn) && !(decide (q.turn < h.parties[k].turn) && decide (q.since > h.parties[k].since)) && !(decide (q.turn > h.parties[k].turn) && decide (q.since < h.parties[k].since))
theorem prG_at {h : House} {k j : Nat} (hk : k < h.parties.length) (hj : j < (h.parties.take k).length) : prG h k hk j = prB h.parties[k] (h.parties.take k)[j] := by
 rw [List.length_take] at hj
 simp only [prG, prB, List.getElem?_eq_getElem (show j < h.parties.length by omega), Option.any_some, List.getElem_take]
theorem par_bad {h : House} {k j : Nat} (hk : k < h.parties.length) (hj : j < (h.parties.take k).length) (hv : allGo (parP h) h.parties.length 0 = allGo (parP h) h.parties.length k) (hv2 : allGo (prG h k hk) k 0 = allGo (prG h k hk) k j) (hb : prB h.parties[k] (h.parties.take k)[j] = false) : allGo (parP h) h.parties.length 0 = false := by
 have hj2 : j < k := by rw [List.length_take] at hj; omega
 rw [allGo_lt hj2, prG_at hk hj, hb, Bool.false_and] at hv2
 have e : allGo (parP h) h.parties.length k = false := by
  rw [allGo_lt hk, par_at hk]
  rw [show allGo (fun k9 => h.parties[k9]?.any fun q => !(q.turn == h.parties[k].turn) && !(decide (q.turn < h.parties[k].turn) && decide (q.since > h.parties[k].since)) && !(decide (q.turn > h.parties[k].turn) && decide (q.since < h.parties[k].since))) k 0 = false from hv2]
  simp
 rw [hv, e]
theorem par_bad1 {h : House} {k : Nat} (hk : k < h.parties.length) (hv : allGo (parP h) h.parties.length 0 = allGo (parP h) h.parties.length k) (hb : partyOk h.rules h.parties[k] h.now = false ∨ h.parties[k].turn ≥ h.turn ∨ ∃ (i : Nat) (hi : i < h.parties.length), i + 1 = k ∧ h.parties[i].id ≥ h.parties[k].id) : allGo (parP h) h.parties.length 0 = false := by
 rw [hv, allGo_lt hk, par_at hk]
 rcases hb with h1 | h1 | ⟨i, hi, rfl, h1⟩
 · simp [h1]
 · rw [decide_eq_false (by omega : ¬ h.parties[k].turn < h.turn)]; simp
 · have e : (decide (i + 1 = 0) || decide (h.parties[i + 1 - 1].id < h.parties[i + 1].id)) = false := by simp; omega
   rw [e]; simp
theorem pty_go {h : House} {k j : Nat} (hk : k < h.parties.length) (hj : j < (h.parties.take k).length) (hv2 : allGo (prG h k hk) k 0 = allGo (prG h k hk) k j) (hb : prB h.parties[k] (h.parties.take k)[j] = true) : allGo (prG h k hk) k 0 = allGo (prG h k hk) k (j + 1) := by
 have hj2 : j < k := by rw [List.length_take] at hj; omega
 rw [hv2, allGo_lt hj2, prG_at hk hj, hb, Bool.true_and]
theorem par_end {h : House} {k j : Nat} (hk : k < h.parties.length) (hj : ¬ j < (h.parties.take k).length) (hv : allGo (parP h) h.parties.length 0 = allGo (parP h) h.parties.length k) (hv2 : allGo (prG h k hk) k 0 = allGo (prG h k hk) k j)
 (h1 : partyOk h.rules h.parties[k] h.now = true) (h2 : h.parties[k].turn < h.turn) (h3 : k = 0 ∨ ∃ (i : Nat) (hi : i < h.parties.length), i + 1 = k ∧ h.parties[i].id < h.parties[k].id) : allGo (parP h) h.parties.length 0 = allGo (parP h) h.parties.length (k + 1) := by
 have hj2 : ¬ j < k := by rw [List.length_take] at hj; omega
 rw [allGo_ge hj2] at hv2
 rw [hv, allGo_lt hk, par_at hk, h1, decide_eq_true h2]
 rw [show allGo (fun k9 => h.parties[k9]?.any fun q => !(q.turn == h.parties[k].turn) && !(decide (q.turn < h.parties[k].turn) && decide (q.since > h.parties[k].since)) && !(decide (q.turn > h.parties[k].turn) && decide (q.since < h.parties[k].since))) k 0 = true from hv2]
 rcases h3 with rfl | ⟨i, hi, rfl, h3⟩
 · simp
 · have e : (decide (i + 1 = 0) || decide (h.parties[i + 1 - 1].id < h.parties[i + 1].id)) = true := by simp; omega
   rw [e]; simp
theorem cab_bad {h : House} {k : Nat} (hk : k < h.cabins.length) (hs : k < h.rules.seats.length) (hv : allGo (cabP h) h.cabins.length 0 = allGo (cabP h) h.cabins.length k) (hb : h.cabins[k].seats.total ≠ h.rules.seats[k] ∨ agrees h.rules h.cabins[k] h.parties k h.now = false ∨ countGo h.parties k 0 > h.rules.room) : allGo (cabP h) h.cabins.length 0 = false := by
 rw [hv, allGo_lt hk, cab_at hk hs]
 rcases hb with h1 | h1 | h1
 · rw [decide_eq_false (fun h9 => h1 h9.symm)]; simp
 · rw [h1]; simp
 · rw [decide_eq_true h1]; simp
theorem cab_go {h : House} {k : Nat} (hk : k < h.cabins.length) (hs : k < h.rules.seats.length) (hv : allGo (cabP h) h.cabins.length 0 = allGo (cabP h) h.cabins.length k) (h1 : h.cabins[k].seats.total = h.rules.seats[k]) (h2 : agrees h.rules h.cabins[k] h.parties k h.now = true) (h3 : ¬ countGo h.parties k 0 > h.rules.room) : allGo (cabP h) h.cabins.length 0 = allGo (cabP h) h.cabins.length (k + 1) := by
 rw [hv, allGo_lt hk, cab_at hk hs, decide_eq_true h1.symm, h2, decide_eq_false h3]; simp
theorem tod_go {h : House} {k : Nat} (hk : k < h.todo.length) (hv : allGo (todP h) h.todo.length 0 = allGo (todP h) h.todo.length k) (hc : h.cabins.length = h.rules.seats.length) : allGo (todP h) h.todo.length 0 = (inB h.todo[k] 0 (wr ((h.rules.seats.length : Int) - 1)) && !((h.todo.take k).any fun e => e == h.todo[k]) && allGo (todP h) h.todo.length (k + 1)) := by
 rw [hv, allGo_lt hk, tod_at hk, hc]
theorem job_go {h : House} {k : Nat} (hk : k < h.jobs.length) (hv : allGo (jobP h) h.jobs.length 0 = allGo (jobP h) h.jobs.length k) (hc : h.cabins.length = h.rules.seats.length) : allGo (jobP h) h.jobs.length 0 = (inB h.jobs[k] (-1) (wr ((h.rules.seats.length : Int) - 1)) && allGo (jobP h) h.jobs.length (k + 1)) := by
 rw [hv, allGo_lt hk, job_at hk, hc]
instance hHouseOk_c : HC 88 (∀ (W : World) (cs : List Value) (h : House), HsR W cs h → HouseSz h →Sp W [] 88 #[.agg cs.toArray] (RV (.bool (houseOk h)))) := by
 refine ⟨fun W cs h hh hsz => ?_⟩
 have hh1 := hh; obtain ⟨a1, c1, a2, c2, a3, c3, a4, c4, a5, c5, rfl, h1, h2, h3, h4, h5, h6, h7, h8, h9, h10⟩ := hh
 have hl := h8.len; have hl2 := h7.len; have hl3 := h6.len; have hl4 := h9.len; have hl5 := h10.len
 have hp9 := hsz.2.1
 have hb' : ∀ (k : Nat) (h9 : k < h.cabins.length), (h.cabins[k]).wheel.spoke.flatten.length ≤ 1048576 := fun k h9 => (hsz.2.2.2.2.2 _ (List.getElem_mem h9)).2.2
 rw [houseOk_go, partiesOk_go, jobsOk_go]
 refine gENT (vs := [_]) Tryz.func88 ?_
 by_cases hr0 : rulesOk h.rules = true
 · have hrm := (rr_of hr0).room; have hse := (rr_of hr0).seats
   repeat' first | refine ST ?_ | refine ST2 ?_ | intro _ | apply And.intro
   all_goals try (grind; done)
   have hcl : h.cabins.length = h.rules.seats.length := by omega
   refine gFOR 57 h.parties.length (fun k => allGo (parP h) h.parties.length 0 = allGo (parP h) h.parties.length k) rfl fun k hk hv => ?_
   have w1 : 0 < k → IntKind.wrap .i64 ((k : Int) - 1) = (k : Int) - 1 := fun _ => wrap_of (by omega) (by omega)
   repeat' first | refine ST ?_ | refine ST2 ?_ | intro _ | apply And.intro
   · rw [par_bad1 ‹k < _› hv (.inl ‹_›)]; simp
   · rw [par_bad1 ‹k < _› hv (.inr (.inl (by omega)))]; simp
   · rw [par_bad1 ‹k < _› hv (.inr (.inr ⟨k - 1, by omega, by omega, by omega⟩))]; simp
   · have hkl : k < h.parties.length := ‹_›
     have htk : (List.take k h.parties).length = k := by rw [List.length_take]; omega
     clear hh1 hsz h1 h3 h4 h5 h6 h8 h9 h10 hl hl3 hl4 hl5 hb' hp9 hrm hse
     refine gFOR 97 k (fun j => allGo (prG h k hkl) k 0 = allGo (prG h k hkl) k j) rfl fun j hj hv2 => ?_
     repeat' first | refine ST ?_ | refine ST2 ?_ | intro _ | apply And.intro
     all_goals first
      | (rw [par_bad hkl (by assumption) hv hv2 (prB_bad (by omega))]; simp; done)
      | exact pty_go hkl (by assumption) hv2 (prB_ok (by omega) (by omega) (by omega))
      | exact par_end hkl (by assumption) hv hv2 (by assumption) (by omega) (.inr ⟨k - 1, by omega, by omega, by omega⟩)
      | trace_state
   · have hkl : k < h.parties.length := ‹_›
     have htk : (List.take k h.parties).length = k := by rw [List.length_take]; omega
     clear hh1 hsz h1 h3 h4 h5 h6 h8 h9 h10 hl hl3 hl4 hl5 hb' hp9 hrm hse
     refine gFOR 97 k (fun j => allGo (prG h k hkl) k 0 = allGo (prG h k hkl) k j) rfl fun j hj hv2 => ?_
     repeat' first | refine ST ?_ | refine ST2 ?_ | intro _ | apply And.intro
     all_goals first
      | (rw [par_bad hkl (by assumption) hv hv2 (prB_bad (by omega))]; simp; done)
      | exact pty_go hkl (by assumption) hv2 (prB_ok (by omega) (by omega) (by omega))
      | exact par_end hkl (by assumption) hv hv2 (by assumption) (by omega) (.inl (by omega))
      | trace_state
   · have hpa := hv.trans (allGo_ge ‹¬ k < h.parties.length›)
     rw [hpa]
     refine gFOR 139 h.cabins.length (fun k => allGo (cabP h) h.cabins.length 0 = allGo (cabP h) h.cabins.length k) rfl fun k2 hk2 hv2 => ?_
     have hq9 := cnt9 h k2 hp9
     repeat' first | refine ST ?_ | refine ST2 ?_ | intro _ | apply And.intro
     · rw [cab_bad ‹k2 < _› (by omega) hv2 (.inl (by assumption))]; simp
     · rw [cab_bad ‹k2 < _› (by omega) hv2 (.inr (.inr (by assumption)))]; simp
     · rw [cab_bad ‹k2 < _› (by omega) hv2 (.inr (.inl (by assumption)))]; simp
     · exact cab_go ‹k2 < _› (by omega) hv2 (by assumption) (by assumption) (by assumption)
     have hca := hv2.trans (allGo_ge ‹¬ k2 < h.cabins.length›)
     rw [hca]
     clear hh1 hsz h1 h2 h3 h6 h7 h8 hl hl2 hl3 hp9 hb' hq9 hv w1 hrm hv2
     refine gFOR 180 h.todo.length (fun k => allGo (todP h) h.todo.length 0 = allGo (todP h) h.todo.length k) rfl fun k3 hk3 hv3 => ?_
     repeat' first | refine ST ?_ | refine ST2 ?_ | intro _ | apply And.intro
     · rw [tod_go ‹k3 < _› hv3 hcl, show inB h.todo[k3] 0 (wr ((h.rules.seats.length : Int) - 1)) = false from ‹_›]; simp
     · rw [tod_go ‹k3 < _› hv3 hcl, show ((h.todo.take k3).any fun e => e == h.todo[k3]) = true from ‹_›]; simp
     · rw [tod_go ‹k3 < _› hv3 hcl, show inB h.todo[k3] 0 (wr ((h.rules.seats.length : Int) - 1)) = true from ‹_›, show ((h.todo.take k3).any fun e => e == h.todo[k3]) = false from ‹_›]; simp
     have hto := hv3.trans (allGo_ge ‹¬ k3 < h.todo.length›)
     rw [hto]
     clear hv3
     have e1 : wr ((h.rules.seats.length : Int) - 1) = ((h.rules.seats.length - 1 : Nat) : Int) := by rw [wr_of (by omega) (by omega)]; omega
     refine gFOR 201 h.jobs.length (fun k => allGo (jobP h) h.jobs.length 0 = allGo (jobP h) h.jobs.length k) rfl fun k4 hk4 hv4 => ?_
     repeat' first | refine ST ?_ | refine ST2 ?_ | intro _ | apply And.intro
     · rw [job_go ‹k4 < _› hv4 hcl, e1, show inB h.jobs[k4] (-1) ((h.rules.seats.length - 1 : Nat) : Int) = false from ‹_›]; simp
     · rw [job_go ‹k4 < _› hv4 hcl, e1, show inB h.jobs[k4] (-1) ((h.rules.seats.length - 1 : Nat) : Int) = true from ‹_›]; simp
     · have hjo := hv4.trans (allGo_ge ‹¬ k4 < h.jobs.length›)
       rw [hjo, show inB h.now 0 1000000 = true from ‹_›, show inB h.turn 1 1000001 = true from ‹_›, hr0]
       simp; omega
 · repeat' first | exact absurd ‹rulesOk h.rules = true› hr0 | refine ST ?_ | refine ST2 ?_ | intro _ | apply And.intro
   all_goals first | (simp [hr0]; done) | trace_state
instance hHasCabin_c : HC 134 (∀ (W : World) (cs : List Value) (h : House) (cabin : Int), HsR W cs h → HouseSz h →Sp W [] 134 #[.agg cs.toArray, vi cabin] (RV (.bool (hasCab h cabin)))) := by
 refine ⟨fun W cs h cabin hh hsz => ?_⟩
 have hh1 := hh; obtain ⟨a1, c1, a2, c2, a3, c3, a4, c4, a5, c5, rfl, h1, h2, h3, h4, h5, h6, h7, h8, h9, h10⟩ := hh
 refine gENT (vs := [_, _]) Tryz.func134 ?_
 repeat' first | refine ST ?_ | refine ST2 ?_ | intro _ | apply And.intro
 all_goals first | (simp [hasCab, *]; done) | (simp_all [hasCab]; done) | trace_state
end SX
end Go.Proofs.YtejojcoaohlfbaaGreat
