/- What comes of all offers that are accepted; a scan that is judged; rounds that leave nobody late; in plain Lean. It imports no program. -/
import Derived.Test.YtapbooddmdkgjaaGreatSx9
namespace Go.Proofs.YtapbooddmdkgjaaGreat
namespace SX
set_option linter.unusedVariables false
set_option linter.unusedSimpArgs false
open Go Go.RowKit
theorem acceptM_parties (h : House) (p : Party) : (acceptM h p).parties = partyCut h.parties p.id := by unfold acceptM; split <;> rfl
theorem acceptM_now (h : House) (p : Party) : (acceptM h p).now = h.now := by unfold acceptM; split <;> rfl
theorem atId_mem {l : List Party} {p : Party} (hm : p ∈ l) : ¬ atId l p.id < 0 := fun h => atId_none h p hm rfl
theorem reqOk_ans {k id : Int} (hk : k = 4 ∨ k = 5) (h0 : 1 ≤ id ∧ id ≤ 999) : reqOk ⟨k, id, 0, 0, 0, 0⟩ = true := by
  rcases hk with rfl | rfl <;> simp [reqOk, usedB, inB, reqEq] <;> omega
theorem verd4 {x : House} {p : Party} (hp : HRep x) (hm : p ∈ x.parties) (hs : p.state = 2) (hd : dueB p x.now = false) : verdict x ⟨4, p.id, 0, 0, 0, 0⟩ = 0 := by
  have hpo := partyOf_mem hp.ids hm
  have hr := hp.good.ok p hm
  have h1 := hr.id0; have h2 := hr.id1
  unfold verdict
  rw [if_neg (by rw [hp.eq]; decide), if_neg (by show ¬ inB 4 1 7 = false; decide), if_neg (by rw [reqOk_ans (.inl rfl) ⟨h1, h2⟩]; decide)]
  have h9 := atId_mem hm
  simp only [vKind]
  unfold vAns
  simp [hpo, hs, hd, h9]
theorem do4 {x : House} {p : Party} (hp : HRep x) (hm : p ∈ x.parties) (hs : p.state = 2) (hd : dueB p x.now = false) : doM x ⟨4, p.id, 0, 0, 0, 0⟩ = acceptM x p := by
  have hpo := partyOf_mem hp.ids hm
  unfold doM
  rw [if_pos (verd4 hp hm hs hd)]
  simp [doneM, hpo]
theorem cut_out {l : List Party} {p x : Party} (hd : (l.map (·.id)).Nodup) (hp : p ∈ l) (hx : x ∈ partyCut l p.id) : x ∈ l ∧ x.id ≠ p.id := by
  have hper := partyCut_perm hd hp
  have hm : x ∈ l := hper.mem_iff.2 (List.mem_cons_of_mem _ hx)
  refine ⟨hm, fun he => ?_⟩
  have h1 := (hper.map (·.id)).nodup_iff.1 hd
  rw [List.map_cons, List.nodup_cons] at h1
  have h2 : x.id ∈ (partyCut l p.id).map (·.id) := List.mem_map_of_mem hx
  rw [he] at h2
  exact h1.1 h2
theorem acc_all {now : Int} : ∀ (ps : List Party) (x : House), HRep x → x.now = now → (ps.map (·.id)).Nodup → (∀ q ∈ ps, q.state = 2 → dueB q now = false → q ∈ x.parties) → (∀ q ∈ x.parties, q.state = 2 → dueB q now = false → q ∈ ps) →
    (∀ q ∈ (accGo now ps x).parties, q.state = 2 → dueB q now = true) ∧ (accGo now ps x).now = now ∧ (accGo now ps x).parties.length + (accIds now ps).length = x.parties.length
  | [], x, hp, hn, hd, h1, h2 => ⟨fun q hq hs => by
      cases hc : dueB q now with
      | true => rfl
      | false => exact absurd (h2 q hq hs hc) List.not_mem_nil, hn, by simp [accGo, accIds]⟩
  | p :: ps, x, hp, hn, hd, h1, h2 => by
    rw [List.map_cons, List.nodup_cons] at hd
    have e1 : accGo now (p :: ps) x = accGo now ps (accStep now x p) := rfl
    by_cases hc : (p.state == 2 && !dueB p now) = true
    · have hc' := hc
      simp only [Bool.and_eq_true, beq_iff_eq, Bool.not_eq_true'] at hc
      obtain ⟨hs, hu⟩ := hc
      have hm := h1 p (by simp) hs hu
      have e2 : accStep now x p = acceptM x p := by
        unfold accStep
        rw [if_pos hc']
        exact do4 hp hm hs (by rw [hn]; exact hu)
      have e3 : accIds now (p :: ps) = p.id :: accIds now ps := by simp only [accIds, List.filter_cons, hc', if_true, List.map_cons]
      rw [e1, e2, e3]
      have hpar := acceptM_parties x p
      obtain ⟨a1, a2, a3⟩ := acc_all (now := now) ps (acceptM x p) (accept_hp hp hm hs) (by rw [acceptM_now]; exact hn) hd.2 (fun q hq hqs hqu => by
          rw [hpar]
          refine cut_mem hp.ids hm (h1 q (by simp [hq]) hqs hqu) fun he => hd.1 ?_
          rw [← he]; exact List.mem_map_of_mem hq) (fun q hq hqs hqu => by
          rw [hpar] at hq
          obtain ⟨b1, b2⟩ := cut_out hp.ids hm hq
          rcases List.mem_cons.1 (h2 q b1 hqs hqu) with h | h
          · rw [h] at b2; exact absurd rfl b2
          · exact h)
      refine ⟨a1, a2, ?_⟩
      have hl := (partyCut_perm hp.ids hm).length_eq
      rw [hpar] at a3
      simp only [List.length_cons] at hl ⊢
      omega
    · have e2 : accStep now x p = x := by unfold accStep; rw [if_neg hc]
      have e3 : accIds now (p :: ps) = accIds now ps := by simp only [accIds, List.filter_cons, hc]; rfl
      rw [e1, e2, e3]
      refine acc_all (now := now) ps x hp hn hd.2 (fun q hq => h1 q (by simp [hq])) (fun q hq hqs hqu => ?_)
      rcases List.mem_cons.1 (h2 q hq hqs hqu) with h | h
      · subst h; exact absurd (by rw [hqs, hqu]; rfl) hc
      · exact h
theorem accAll_out {h : House} (hp : HRep h) : HRep (accAll h).1 ∧ (∀ q ∈ (accAll h).1.parties, q.state = 2 → dueB q (accAll h).1.now = true) ∧ (accAll h).1.parties.length + (accAll h).2.length = h.parties.length := by
  have hac : accAll h = (accGo h.now h.parties h, accIds h.now h.parties) := if_pos hp.eq
  obtain ⟨a1, a2, a3⟩ := acc_all (now := h.now) h.parties h hp rfl hp.ids (fun q hq _ _ => hq) (fun q hq _ _ => hq)
  rw [hac]
  dsimp only
  rw [a2]
  exact ⟨accGo_hp hp, a1, a3⟩
/-! ### A scan that is judged -/
end SX
end Go.Proofs.YtapbooddmdkgjaaGreat
