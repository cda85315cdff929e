/- All offers that are accepted, in plain Lean. It imports no program. -/
import Derived.Test.YthnbaikmbgaddaaGreatMdlj
namespace Go.Proofs.YthnbaikmbgaddaaGreat
namespace SX
set_option linter.unusedVariables false
set_option linter.unusedSimpArgs false
open Go Go.RowKit
theorem accM_no {h : House} {p : Party} {id : Int} {c : Cabin} (hx : h.cabins[p.cabin.toNat]? = some c) (hf : p.from' < 0) (hid : p.id = id) : acceptM h p = ⟨h.rules, h.now, h.turn, partyCut h.parties id, h.cabins.set p.cabin.toNat ⟨lSell c.seats p.size, c.row, wheelCut c.wheel ⟨p.until', id⟩⟩, h.todo, h.jobs⟩ := by
  subst hid
  unfold acceptM
  rw [if_pos hf]
  unfold goneM soldM
  rw [modC_of _ hx, if_pos hf]; rfl
theorem accM_fr {h : House} {p : Party} {id : Int} {c y : Cabin} (hx : h.cabins[p.cabin.toNat]? = some c) (hf : ¬ p.from' < 0) (hy : (h.cabins.set p.cabin.toNat ⟨lSell c.seats p.size, c.row, wheelCut c.wheel ⟨p.until', id⟩⟩)[p.from'.toNat]? = some y) (hid : p.id = id) : acceptM h p = ⟨h.rules, h.now, h.turn, partyCut h.parties id, (h.cabins.set p.cabin.toNat ⟨lSell c.seats p.size, c.row, wheelCut c.wheel ⟨p.until', id⟩⟩).set p.from'.toNat ⟨lFree (lUntie y.seats p.size) p.size, y.row, y.wheel⟩, todoPut h.todo p.from', h.jobs⟩ := by
  subst hid
  unfold acceptM
  rw [if_neg hf]
  unfold freeM goneM soldM
  dsimp only
  rw [modC_of _ hx, if_neg hf]
  rw [modC_modC]
  show (House.mk _ _ _ _ (modC (h.cabins.set p.cabin.toNat ⟨lSell c.seats p.size, c.row, wheelCut c.wheel ⟨p.until', p.id⟩⟩) p.from' _) _ _) = _
  rw [modC_of _ hy]; rfl
/-- all offers that are not due are accepted -/
noncomputable def accStep (now : Int) (x : House) (p : Party) : House := if p.state == 2 && !dueB p now then doM x ⟨4, p.id, 0, 0, 0, 0⟩ else x
noncomputable def accGo (now : Int) (ps : List Party) (x : House) : House := ps.foldl (accStep now) x
def accIds (now : Int) (ps : List Party) : List Int := (ps.filter fun p => p.state == 2 && !dueB p now).map (·.id)
theorem accGo_snoc {now : Int} {ps : List Party} {x : House} {k : Nat} (h : k < ps.length) : accGo now (ps.take (k + 1)) x = accStep now (accGo now (ps.take k) x) ps[k] := by
  unfold accGo
  rw [List.take_succ_eq_append_getElem h, List.foldl_append]; rfl
theorem accIds_snoc {now : Int} {ps : List Party} {k : Nat} (h : k < ps.length) : accIds now (ps.take (k + 1)) = if (ps[k].state == 2 && !dueB ps[k] now) = true then accIds now (ps.take k) ++ [ps[k].id] else accIds now (ps.take k) := by
  unfold accIds
  rw [List.take_succ_eq_append_getElem h, List.filter_append, List.map_append]
  by_cases hc : (ps[k].state == 2 && !dueB ps[k] now) = true
  · rw [if_pos hc]; simp [List.filter_cons, hc]
  · rw [if_neg hc]; simp [List.filter_cons, hc]
theorem accGo_hp {now : Int} : ∀ {ps : List Party} {x : House}, HRep x → HRep (accGo now ps x)
  | [], x, h => h
  | p :: ps, x, h => by
    show HRep (accGo now ps (accStep now x p))
    refine accGo_hp ?_
    unfold accStep
    split
    · exact do_hp h
    · exact h
/-! ### A scan that is judged -/
/-! ### Rows that are marked -/
theorem markL_at {α : Type} {m : α → Int → α × Int} : ∀ (xs : List α) (k : Int) (i : Nat) (h : i < xs.length), (markL m xs k).1[i]? = some (m xs[i] (markL m (xs.take i) k).2).1
  | x :: xs, k, 0, _ => by simp [markL]
  | x :: xs, k, i + 1, h => by
    simp only [markL, List.getElem?_cons_succ, List.take_succ_cons, List.getElem_cons_succ]
    exact markL_at xs (m x k).2 i (by simpa using h)
theorem markL_snoc {α : Type} {m : α → Int → α × Int} : ∀ (xs : List α) (k : Int) (i : Nat) (h : i < xs.length), (markL m (xs.take (i + 1)) k).2 = (m xs[i] (markL m (xs.take i) k).2).2
  | x :: xs, k, 0, _ => by simp [markL]
  | x :: xs, k, i + 1, h => by
    simp only [List.take_succ_cons, markL, List.getElem_cons_succ]
    exact markL_snoc xs (m x k).2 i (by simpa using h)
theorem sumL_take {α : Type} (c : α → Nat) : ∀ (xs : List α) (i : Nat), sumL c (xs.take i) ≤ sumL c xs
  | [], i => by simp
  | x :: xs, 0 => by simp [sumL]
  | x :: xs, i + 1 => by
    have := sumL_take c xs i
    simp only [List.take_succ_cons, sumL]; omega
theorem sumL_snoc {α : Type} (c : α → Nat) : ∀ (xs : List α) (i : Nat) (h : i < xs.length), sumL c (xs.take (i + 1)) = sumL c (xs.take i) + c xs[i]
  | x :: xs, 0, _ => by simp [sumL]
  | x :: xs, i + 1, h => by
    have := sumL_snoc c xs i (by simpa using h)
    simp only [List.take_succ_cons, sumL, List.getElem_cons_succ]; omega
theorem markL_rng {α : Type} {m : α → Int → α × Int} {c : α → Nat} (hm : ∀ (x : α) (k : Int), 0 ≤ k → k + c x ≤ 4611686018427387904 → (m x k).2 = k + c x) (xs : List α) (k : Int) (i : Nat) (h0 : 0 ≤ k) (hl : k + sumL c xs ≤ 4611686018427387904) : k ≤ (markL m (xs.take i) k).2 ∧ (markL m (xs.take i) k).2 ≤ k + sumL c xs := by
  have h1 := sumL_take c xs i
  rw [markL_end hm (xs.take i) k h0 (by omega)]
  omega
theorem markL_room {α : Type} {m : α → Int → α × Int} {c : α → Nat} (hm : ∀ (x : α) (k : Int), 0 ≤ k → k + c x ≤ 4611686018427387904 → (m x k).2 = k + c x) (xs : List α) (k : Int) (i : Nat) (h : i < xs.length) (h0 : 0 ≤ k) (hl : k + sumL c xs ≤ 4611686018427387904) : (markL m (xs.take i) k).2 + c xs[i] ≤ k + sumL c xs := by
  have h1 := sumL_take c xs i
  have h2 := sumL_take c xs (i + 1)
  have h3 := sumL_snoc c xs i h
  rw [markL_end hm (xs.take i) k h0 (by omega)]
  omega
/-! ### All offers, all jobs, rounds -/
noncomputable def accAll (h : House) : House × List Int := if houseOk h then (accGo h.now h.parties h, accIds h.now h.parties) else (h, [])
theorem accAll_hp {h : House} (hp : HRep h) : HRep (accAll h).1 := by
  unfold accAll
  rw [if_pos hp.eq]
  exact accGo_hp hp
end SX
end Go.Proofs.YthnbaikmbgaddaaGreat
