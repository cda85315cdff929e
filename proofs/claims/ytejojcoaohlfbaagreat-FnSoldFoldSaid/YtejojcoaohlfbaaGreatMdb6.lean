/- The sold seats of a cabin are what the history says; in plain Lean. It imports no program. -/
import Derived.Test.YtejojcoaohlfbaaGreatJB1
import Derived.Test.YtejojcoaohlfbaaGreatMdb5
namespace Go.Proofs.YtejojcoaohlfbaaGreat
namespace SX
set_option linter.unusedVariables false
set_option linter.unusedSimpArgs false
open Go Go.RowKit
theorem soldAt_mod {h : House} {cs : List Cabin} {k : Int} {f : Cabin → Cabin} {i : Nat} {c : Cabin} (h0 : 0 ≤ k) (hc : h.cabins[i]? = some c) {d : Int} (hf : k = (i : Int) → (f c).seats.sold = c.seats.sold + d) (r : Rules) (nw tn : Int) (ps : List Party) (td js : List Int) :
    soldAt ⟨r, nw, tn, ps, modC h.cabins k f, td, js⟩ i = soldAt h i + (if k = (i : Int) then d else 0) := by
  rw [soldAt_of hc]
  have h1 : (modC h.cabins k f)[i]? = some (if k = (i : Int) then f c else c) := modC_at h0 hc
  rw [soldAt_of (h := ⟨r, nw, tn, ps, modC h.cabins k f, td, js⟩) h1]
  by_cases hk : k = (i : Int)
  · rw [if_pos hk, if_pos hk, hf hk]
  · rw [if_neg hk, if_neg hk]; omega
theorem free_sold {h : House} {k n : Int} {c : Cabin} (hp : HRep h) (h0 : 0 ≤ k) (hn : 0 ≤ n ∧ n ≤ 60) (hc : h.cabins[k.toNat]? = some c) (ht : n ≤ c.seats.sold - c.seats.tied) {i : Nat} (hi : i < h.cabins.length) : soldAt (freeM h k n) i = soldAt h i - (if k = (i : Int) then n else 0) := by
  have hci := List.getElem?_eq_getElem hi
  have h1 := soldAt_mod (h := h) (cs := []) (k := k) (f := seatsC (lFree · n)) (d := -n) h0 hci (fun hk => by
    have e : h.cabins[i] = c := by
      have : k.toNat = i := by omega
      rw [this, hci] at hc; injection hc
    rw [e]
    show (lFree c.seats n).sold = _
    rw [((lp_of hp hc).free' hn ht).1]
    dsimp only; omega) h.rules h.now h.turn h.parties (todoPut h.todo k) h.jobs
  have h2 : freeM h k n = ⟨h.rules, h.now, h.turn, h.parties, modC h.cabins k (seatsC (lFree · n)), todoPut h.todo k, h.jobs⟩ := rfl
  rw [h2, h1]
  split <;> omega
theorem do3_sold {h : House} {q : Req} (hv : verdict h q = 0) (hk : q.kind = 3) {i : Nat} (hi : i < h.cabins.length) : soldAt (doM h q) i = soldAt h i - (if q.cabin = (i : Int) then q.size else 0) ∧ inB q.size 1 60 = true := by
  have w := verdict_ok hv
  have v := w.v
  obtain ⟨_, r2, r3, r4, r5, r6⟩ := reqOk_form w.ok
  simp only [vKind, hk] at v
  have h1 : doM h q = freeM h q.cabin q.size := by
    unfold doM
    rw [if_pos hv]
    unfold doneM
    rw [if_neg (by omega), if_neg (by omega), if_pos hk]
  simp only [vFree] at v
  by_cases c1 : q.cabin ≥ (h.cabins.length : Int)
  · simp [c1] at v
  · by_cases c2 : inB q.size 1 60 = false
    · simp [c1, c2] at v
    · by_cases c3 : looseAt h q.cabin < q.size
      · simp [c1, c2, c3] at v
      · have c4 : inB q.size 1 60 = true := by simpa using c2
        have c5 := c4
        simp only [inB, Bool.and_eq_true, decide_eq_true_eq] at c5
        obtain ⟨c, hc⟩ : ∃ c, h.cabins[q.cabin.toNat]? = some c := ⟨_, List.getElem?_eq_getElem (by omega)⟩
        rw [looseAt_of w.hp hc] at c3
        rw [h1]
        exact ⟨free_sold w.hp (by omega) (by omega) hc (by omega) hi, c4⟩
theorem accept_sold {h : House} {p : Party} (hp : HRep h) (hm : p ∈ h.parties) (hs : p.state = 2) {i : Nat} (hi : i < h.cabins.length) : soldAt (acceptM h p) i = soldAt h i + (if p.cabin = (i : Int) then p.size else 0) - (if p.from' = (i : Int) then p.size else 0) := by
  have g := hp.pr hm
  have g1 := g.cab; have g2 := g.frm; have g3 := g.ne; have g4 := g.size
  have hcb := hp.cabs
  have hci := List.getElem?_eq_getElem hi
  have e1 : soldAt (soldM h p) i = soldAt h i + (if p.cabin = (i : Int) then p.size else 0) := by
    refine soldAt_mod (h := h) (cs := []) g1.1 hci (fun hk => ?_) _ _ _ _ _ _
    have hc : h.cabins[p.cabin.toNat]? = some h.cabins[i] := by rw [← hci]; congr 1; omega
    unfold sellC
    dsimp only
    rw [((lp_of hp hc).sell (n := p.size) (by omega) (hold_of hp hm hs hc)).1]
  have hin : i < (soldM h p).cabins.length := by show i < (modC _ _ _).length; rw [modC_len]; exact hi
  have e2 : SoldSame (soldM h p).cabins (goneM (soldM h p) p).cabins := by
    refine gone_sold (SoldSame.refl _) fun c h0 hc => ?_
    obtain ⟨c0, hc0⟩ : ∃ c, h.cabins[p.from'.toNat]? = some c := ⟨_, List.getElem?_eq_getElem (by omega)⟩
    have h1 : (soldM h p).cabins[p.from'.toNat]? = some c0 := by
      show (modC h.cabins p.cabin (sellC p))[p.from'.toNat]? = _
      rw [modC_at g1.1 hc0, if_neg (by omega)]
    rw [h1] at hc; injection hc with hc; subst hc
    exact untie_sold (lp_of hp hc0) (by omega) (tied_of hp hm h0 hc0)
  have e3 := e2.at hin
  unfold acceptM
  split
  · rename_i hf
    rw [e3, e1, if_neg (c := p.from' = (i : Int)) (by omega)]; omega
  · rename_i hf
    obtain ⟨c, h1, h2⟩ := gone_from hp hm hf
    have h3 := goneSold_hp hp hm hs
    have hl2 : i < (goneM (soldM h p) p).cabins.length := by
      obtain ⟨c', h4, _⟩ := e2 i _ (List.getElem?_eq_getElem hin)
      exact (List.getElem?_eq_some_iff.1 h4).1
    rw [free_sold h3 (by omega) (by omega) h1 h2 hl2, e3, e1]
theorem do4_sold {h : House} {q : Req} (hv : verdict h q = 0) (hk : q.kind = 4) : doM h q = acceptM h (partyOf h.parties q.id) ∧ partyOf h.parties q.id ∈ h.parties ∧ (partyOf h.parties q.id).id = q.id ∧ (partyOf h.parties q.id).state = 2 := by
  have hin := partyOf_in (ans_in hv (.inr (.inl hk)))
  have v := (verdict_ok hv).v
  simp only [vKind, hk] at v
  refine ⟨?_, hin.1, hin.2, ?_⟩
  · unfold doM
    rw [if_pos hv]
    unfold doneM
    rw [if_neg (by omega), if_neg (by omega), if_neg (by omega), if_pos hk]
  · simp only [vAns] at v
    by_cases hs : (partyOf h.parties q.id).state = 2
    · exact hs
    · simp [hs] at v
      split at v <;> omega
/-! ### The history -/
structure HistI (h0 : House) (l : List Req) (k : Nat) : Prop where
  hp : HRep (doAllM h0 (l.take k))
  sold : ∀ i : Nat, i < (doAllM h0 (l.take k)).cabins.length → ∃ t, h0.rules.seats[i]? = some t ∧ soldAt (doAllM h0 (l.take k)) i = t - freedN l (replGo h0 l) i k - accN l (replGo h0 l) (fun j => j.from' == (i : Int)) k + accN l (replGo h0 l) (fun j => j.cabin == (i : Int)) k
  par : ∀ p ∈ (doAllM h0 (l.take k)).parties, ∃ j, joinOf l (replGo h0 l) p.id k = some j ∧ j.cabin = p.cabin ∧ j.from' = p.from' ∧ j.size = p.size
theorem hist_start {h0 : House} {l : List Req} (hp : HRep h0) (hps : h0.parties = []) (hs : ∀ (i : Nat) (c : Cabin), h0.cabins[i]? = some c → c.seats.sold = c.seats.total) : HistI h0 l 0 := by
  refine ⟨hp, fun i hi => ?_, fun p hm => ?_⟩
  · have hc := List.getElem?_eq_getElem (l := h0.cabins) (show i < h0.cabins.length from hi)
    refine ⟨_, (hp.cab i _ hc).1, ?_⟩
    show soldAt h0 i = _
    rw [soldAt_of hc, hs i _ hc]
    simp [freedN, accN]
  · rw [show (doAllM h0 (l.take 0)).parties = h0.parties from rfl, hps] at hm
    exact absurd hm List.not_mem_nil
theorem do_len {h : House} {q : Req} (hp : HRep h) : (doM h q).cabins.length = h.cabins.length := by
  rw [(do_hp (q := q) hp).cabs, hp.cabs, do_rules]
theorem hist_step {h0 : House} {l : List Req} {k : Nat} (hk : k < l.length) (I : HistI h0 l k) : HistI h0 l (k + 1) := by
  obtain ⟨hp, hs, hpar⟩ := I
  have hd := fun kind => done_on (h := h0) hk kind
  have es := doAll_snoc (h := h0) hk
  have hjn : ∀ id, l[k].id ≠ id ∨ l[k].kind ≠ 1 ∨ verdict (doAllM h0 (l.take k)) l[k] ≠ 0 → joinOf l (replGo h0 l) id (k + 1) = joinOf l (replGo h0 l) id k := fun id h => by
    rw [join_on hk, hd 1, if_neg]
    simp only [Bool.and_eq_true, beq_iff_eq]
    rintro ⟨w1, w2, w3⟩
    rcases h with h | h | h
    · exact h w1
    · exact h w2
    · exact h w3
  generalize doAllM h0 (l.take k) = x at *
  have hl := do_len (q := l[k]) hp
  refine ⟨by rw [es]; exact do_hp hp, fun i hi => ?_, fun p hm => ?_⟩
  · rw [es] at hi ⊢
    rw [hl] at hi
    obtain ⟨t, ht, hsi⟩ := hs i hi
    refine ⟨t, ht, ?_⟩
    rw [freed_on hk, acc_on hk, acc_on hk, hd 3, hd 4]
    by_cases h3 : l[k].kind = 3 ∧ verdict x l[k] = 0
    · obtain ⟨a1, a2⟩ := do3_sold h3.2 h3.1 hi
      have e3 : (l[k].kind == 3 && verdict x l[k] == 0) = true := by simp [h3.1, h3.2]
      have e4 : (l[k].kind == 4 && verdict x l[k] == 0) = false := by simp [h3.1]
      rw [e3, e4, a2, a1, hsi]
      by_cases hc : l[k].cabin = (i : Int)
      · simp [hc]; omega
      · simp [hc]
    · have e3 : (l[k].kind == 3 && verdict x l[k] == 0) = false := by
        rw [Bool.and_eq_false_iff]
        by_cases w : l[k].kind = 3
        · exact .inr (by simpa using fun w2 => h3 ⟨w, w2⟩)
        · exact .inl (by simpa using w)
      rw [e3]
      by_cases h4 : l[k].kind = 4 ∧ verdict x l[k] = 0
      · obtain ⟨b1, b2, b3, b4⟩ := do4_sold h4.2 h4.1
        have e4 : (l[k].kind == 4 && verdict x l[k] == 0) = true := by simp [h4.1, h4.2]
        obtain ⟨j, j1, j2, j3, j4⟩ := hpar _ b2
        rw [b3] at j1
        have hsz := (hp.pr b2).size
        have e5 : inB j.size 1 6 = true := by simp only [inB, Bool.and_eq_true, decide_eq_true_eq]; omega
        rw [e4, b1, accept_sold hp b2 b4 hi, hsi, j1]
        simp only [e5, Bool.true_and, Bool.false_and, if_true, j2, j3, j4, beq_iff_eq]
        split <;> split <;> simp_all <;> omega
      · have e4 : (l[k].kind == 4 && verdict x l[k] == 0) = false := by
          rw [Bool.and_eq_false_iff]
          by_cases w : l[k].kind = 4
          · exact .inr (by simpa using fun w2 => h4 ⟨w, w2⟩)
          · exact .inl (by simpa using w)
        have hsm := do_sold (q := l[k]) hp (by
          by_cases w : verdict x l[k] = 0
          · exact .inr ⟨fun w2 => h3 ⟨w2, w⟩, fun w2 => h4 ⟨w2, w⟩⟩
          · exact .inl w)
        rw [e4, hsm.at hi, hsi]
        simp
  · rw [es] at hm
    by_cases h1 : l[k].kind = 1 ∧ verdict x l[k] = 0
    · obtain ⟨g1, g2, g3⟩ := do_join h1.2 h1.1
      rw [g3] at hm
      rcases insL_iff.1 hm with h5 | h5
      · refine ⟨l[k], ?_, by rw [h5]; rfl, by rw [h5]; rfl, by rw [h5]; rfl⟩
        rw [join_on hk, hd 1, if_pos]
        simp only [h1.1, h1.2, h5, joinP]; simp
      · have hne : l[k].id ≠ p.id := fun w => atId_none g1 p h5 w.symm
        obtain ⟨j, j1, j2⟩ := hpar p h5
        exact ⟨j, by rw [hjn _ (.inl hne)]; exact j1, j2⟩
    · obtain ⟨p0, h5, h6⟩ := do_kin hp (q := l[k]) (by rcases Decidable.not_and_iff_not_or_not.1 h1 with h | h; exact .inl h; exact .inr h) _ hm
      obtain ⟨j, j1, j2, j3, j4⟩ := hpar p0 h5
      refine ⟨j, ?_, by rw [j2, h6.cab], by rw [j3, h6.frm], by rw [j4, h6.size]⟩
      rw [hjn _ (by rcases Decidable.not_and_iff_not_or_not.1 h1 with h | h; exact .inr (.inl h); exact .inr (.inr h)), h6.id]
      exact j1
theorem hist {h0 : House} {l : List Req} (hp : HRep h0) (hps : h0.parties = []) (hs : ∀ (i : Nat) (c : Cabin), h0.cabins[i]? = some c → c.seats.sold = c.seats.total) : ∀ k, k ≤ l.length → HistI h0 l k
  | 0, _ => hist_start hp hps hs
  | k + 1, hk => hist_step (by omega) (hist hp hps hs k (by omega))
/-- what no cabin has -/
theorem done_cab {h0 : House} {l : List Req} {i : Nat} {kind : Int} {q : Req} (hq : l[i]? = some q) (h : doneAt l (replGo h0 l) i kind = true) : 0 ≤ q.cabin := by
  have hi := (List.getElem?_eq_some_iff.1 hq).1
  have he := (List.getElem?_eq_some_iff.1 hq).2
  rw [done_on hi] at h
  simp only [Bool.and_eq_true, beq_iff_eq] at h
  have := (reqOk_form (verdict_ok h.2).ok).2.2.1
  rw [← he]; exact this.1
theorem freed_neg {h0 : House} {l : List Req} {z : Int} (hz : z < 0) : ∀ n, freedN l (replGo h0 l) z n = 0
  | 0 => rfl
  | n + 1 => by
    rw [freedN]
    split
    · rename_i q hq
      rw [if_neg]
      · exact freed_neg hz n
      · simp only [Bool.and_eq_true, beq_iff_eq]
        rintro ⟨w1, w2, _⟩
        have := done_cab hq w1
        omega
    · exact freed_neg hz n
theorem joinOf_cab {h0 : House} {l : List Req} {id : Int} {j : Req} : ∀ n, joinOf l (replGo h0 l) id n = some j → 0 ≤ j.cabin
  | 0, h => by cases h
  | n + 1, h => by
    rw [joinOf] at h
    split at h
    · rename_i q hq
      split at h
      · rename_i hc
        injection h with h; subst h
        simp only [Bool.and_eq_true] at hc
        exact done_cab hq hc.2
      · exact joinOf_cab n h
    · exact joinOf_cab n h
theorem acc_neg {h0 : House} {l : List Req} {z : Int} (hz : z < 0) : ∀ n, accN l (replGo h0 l) (fun j => j.cabin == z) n = 0
  | 0 => rfl
  | n + 1 => by
    rw [accN]
    split
    · split
      · split
        · rename_i j hj
          rw [if_neg]
          · exact acc_neg hz n
          · simp only [Bool.and_eq_true, beq_iff_eq]
            rintro ⟨_, w⟩
            have := joinOf_cab n hj
            omega
        · exact acc_neg hz n
      · exact acc_neg hz n
    · exact acc_neg hz n
end SX
end Go.Proofs.YtejojcoaohlfbaaGreat
