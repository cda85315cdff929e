/- How rows, wheels and sums follow a change of the parties, in plain Lean. It imports no program. -/
import Derived.Test.YtaihohlklagdgaaGreatMdly
namespace Go.Proofs.YtaihohlklagdgaaGreat
namespace SX
set_option linter.unusedVariables false
set_option linter.unusedSimpArgs false
open Go Go.RowKit
/-! ### Cutting one element -/
section
variable {α : Type}
def cutAt (l : List α) (k : Nat) : List α := l.take k ++ l.drop (k + 1)
theorem split_at {l : List α} {k : Nat} {x : α} (h : l[k]? = some x) : l = l.take k ++ x :: l.drop (k + 1) := by
  obtain ⟨h1, h2⟩ := List.getElem?_eq_some_iff.1 h
  rw [← h2, ← List.drop_eq_getElem_cons h1, List.take_append_drop]
theorem cutAt_perm {l : List α} {k : Nat} {x : α} (h : l[k]? = some x) : l.Perm (x :: cutAt l k) := by
  have h1 : l.Perm (l.take k ++ x :: l.drop (k + 1)) := List.Perm.of_eq (split_at h)
  exact h1.trans List.perm_middle
theorem cutAt_sub {l : List α} {k : Nat} {x : α} (h : l[k]? = some x) : (cutAt l k).Sublist l := by
  have h1 : (cutAt l k).Sublist (l.take k ++ x :: l.drop (k + 1)) := (List.Sublist.refl _).append (List.sublist_cons_self _ _)
  rw [← split_at h] at h1; exact h1
theorem set_perm : ∀ {l : List α} {k : Nat} {x : α} (y : α), l[k]? = some x → (l.set k y).Perm (y :: cutAt l k)
  | [], _, _, _, h => by simp at h
  | a :: l, 0, _, y, h => by simp [cutAt]
  | a :: l, k + 1, x, y, h => by
    rw [List.getElem?_cons_succ] at h
    have h1 := set_perm y h
    have h2 : cutAt (a :: l) (k + 1) = a :: cutAt l k := by simp [cutAt]
    rw [h2, List.set_cons_succ]
    exact (h1.cons a).trans (List.Perm.swap y a _)
theorem cutAt_iff {f : α → Int} {l : List α} {k : Nat} {x0 : α} (h : l[k]? = some x0) (hd : (l.map f).Nodup) {x : α} : x ∈ cutAt l k ↔ x ∈ l ∧ f x ≠ f x0 := by
  constructor
  · intro hx
    refine ⟨(cutAt_sub h).subset hx, fun he => ?_⟩
    have hn := ((cutAt_perm h).map f).nodup_iff.1 hd
    rw [List.map_cons, List.nodup_cons] at hn
    exact hn.1 (he ▸ List.mem_map.2 ⟨x, hx, rfl⟩)
  · rintro ⟨hx, hne⟩
    rcases List.mem_cons.1 ((cutAt_perm h).mem_iff.1 hx) with rfl | hx
    · exact absurd rfl hne
    · exact hx
theorem set_same {β : Type} {f : α → β} {l : List α} {k : Nat} {x y : α} (h : l[k]? = some x) (he : f y = f x) : (l.set k y).map f = l.map f := by
  apply List.ext_getElem?
  intro i
  rw [List.getElem?_map, List.getElem?_map, List.getElem?_set]
  split
  · rename_i hik
    subst hik
    rw [h]
    split
    · simp [he]
    · rename_i hlt
      exact absurd (List.getElem?_eq_some_iff.1 h).1 hlt
  · rfl
end
/-! ### The functions that cut -/
def queueCut (l : List Entry) (id : Int) : List Entry := if queueAt l id 0 < 0 then l else cutAt l (queueAt l id 0).toNat
def pinRB (p : Pin) : Bool := inB p.at' 1 1000008 && inB p.id 1 999
def pinAt (l : List Pin) (p : Pin) : Int := idxF (fun x : Pin => x.at' == p.at' && x.id == p.id) l 0
noncomputable def wheelCut (w : Wheel) (p : Pin) : Wheel :=
  if wheelOk w && !decide (p.at' < 1) then
    match w.spoke[(Int.tmod p.at' 9).toNat]? with
    | some l => if pinAt l p < 0 then w else ⟨w.spoke.set (Int.tmod p.at' 9).toNat (cutAt l (pinAt l p).toNat)⟩
    | none => w
  else w
def partyCut (l : List Party) (id : Int) : List Party := if atId l id < 0 then l else cutAt l (atId l id).toNat
theorem queueAt_of {l : List Entry} {e : Entry} (hd : (l.map (·.id)).Nodup) (he : e ∈ l) : ∃ k : Nat, queueAt l e.id 0 = (k : Int) ∧ l[k]? = some e := by
  rcases queueAt_spec l e.id 0 with ⟨_, h2⟩ | ⟨i, y, h1, h2, h3, h4⟩
  · exact absurd rfl (h2 e he)
  · refine ⟨i, by rw [h3]; congr 1; omega, ?_⟩
    obtain ⟨j, hj⟩ := List.mem_iff_getElem?.1 he
    obtain ⟨g1, e1⟩ := List.getElem?_eq_some_iff.1 h1
    obtain ⟨g2, e2⟩ := List.getElem?_eq_some_iff.1 hj
    have : i = j := by
      have hn := hd
      rw [List.Nodup, List.pairwise_iff_getElem] at hn
      rcases Nat.lt_trichotomy i j with h | h | h
      · exact absurd (by rw [List.getElem_map, List.getElem_map, e1, e2, h2]) (hn i j (by simpa using g1) (by simpa using g2) h)
      · exact h
      · exact absurd (by rw [List.getElem_map, List.getElem_map, e1, e2, h2]) (hn j i (by simpa using g2) (by simpa using g1) h)
    subst this; exact hj
theorem queueCut_iff {l : List Entry} {e x : Entry} (hd : (l.map (·.id)).Nodup) (he : e ∈ l) : x ∈ queueCut l e.id ↔ x ∈ l ∧ x.id ≠ e.id := by
  obtain ⟨k, h1, h2⟩ := queueAt_of hd he
  rw [queueCut, h1, if_neg (by omega), Int.toNat_natCast]
  exact cutAt_iff (f := (·.id)) h2 hd
theorem queueCut_sub (l : List Entry) (id : Int) : (queueCut l id).Sublist l := by
  unfold queueCut
  split
  · exact List.Sublist.refl _
  · rcases queueAt_spec l id 0 with ⟨h1, _⟩ | ⟨i, y, h1, h2, h3, h4⟩
    · omega
    · rw [h3, Int.toNat_natCast, Nat.zero_add]; exact cutAt_sub h1
theorem atId_of {l : List Party} {p : Party} (hd : (l.map (·.id)).Nodup) (hp : p ∈ l) : ∃ k : Nat, atId l p.id = (k : Int) ∧ l[k]? = some p := by
  have hnn : ¬ atId l p.id < 0 := by
    intro hn
    obtain ⟨i, hi⟩ := List.mem_iff_getElem?.1 hp
    have : ∀ (m : List Party) (n : Nat), p ∈ m → 0 ≤ idxF (fun e : Party => e.id == p.id) m n := by
      intro m
      induction m with
      | nil => intro n h; exact absurd h List.not_mem_nil
      | cons y m ih =>
        intro n h
        unfold idxF
        split
        · omega
        · rename_i hne
          rcases List.mem_cons.1 h with rfl | h
          · simp at hne
          · exact ih (n + 1) h
    have := this l 0 hp
    unfold atId at hn; omega
  obtain ⟨q, h1, h2⟩ := atId_at hnn
  refine ⟨(atId l p.id).toNat, by omega, ?_⟩
  rw [h1]; congr 1
  exact nodup_one hd (List.mem_of_getElem? h1) hp h2
theorem partyCut_perm {l : List Party} {p : Party} (hd : (l.map (·.id)).Nodup) (hp : p ∈ l) : l.Perm (p :: partyCut l p.id) := by
  obtain ⟨k, h1, h2⟩ := atId_of hd hp
  rw [partyCut, h1, if_neg (by omega), Int.toNat_natCast]
  exact cutAt_perm h2
theorem partyCut_sub (l : List Party) (id : Int) : (partyCut l id).Sublist l := by
  unfold partyCut
  split
  · exact List.Sublist.refl _
  · rename_i h
    obtain ⟨q, h1, h2⟩ := atId_at h
    exact cutAt_sub h1
theorem partyPut_perm {l : List Party} {p q : Party} (hd : (l.map (·.id)).Nodup) (hp : p ∈ l) (he : q.id = p.id) : (partyPut l q).Perm (q :: partyCut l p.id) := by
  obtain ⟨k, h1, h2⟩ := atId_of hd hp
  rw [partyCut, partyPut, he, h1, if_pos (by omega), if_neg (by omega), Int.toNat_natCast]
  exact set_perm q h2
theorem partyPut_same {β : Type} {f : Party → β} {l : List Party} {p q : Party} (hd : (l.map (·.id)).Nodup) (hp : p ∈ l) (he : q.id = p.id) (hf : f q = f p) : (partyPut l q).map f = l.map f := by
  obtain ⟨k, h1, h2⟩ := atId_of hd hp
  rw [partyPut, he, h1, if_pos (by omega), Int.toNat_natCast]
  exact set_same h2 hf
theorem partyPut_new {l : List Party} {q : Party} (h : atId l q.id < 0) : partyPut l q = insL idLess l q := by
  rw [partyPut, if_neg (by omega)]
/-! ### Rows -/
structure RowR (r : Rules) (now : Int) (l : List Party) (k : Int) (row : List Entry) : Prop where
  ss : SS entryLess row
  mem : ∀ e, e ∈ row ↔ rowM r now l k e
theorem rowM_cons {r : Rules} {now k : Int} {p : Party} {l : List Party} {e : Entry} : rowM r now (p :: l) k e ↔ (entryOk r p now = true ∧ p.cabin = k ∧ e = entryOf r p now) ∨ rowM r now l k e := by
  constructor
  · rintro ⟨q, hq, h⟩
    rcases List.mem_cons.1 hq with rfl | hq
    · exact .inl h
    · exact .inr ⟨q, hq, h⟩
  · rintro (h | ⟨q, hq, h⟩)
    · exact ⟨p, by simp, h⟩
    · exact ⟨q, by simp [hq], h⟩
theorem rowM_perm {r : Rules} {now k : Int} {l m : List Party} {e : Entry} (h : l.Perm m) : rowM r now l k e ↔ rowM r now m k e := by
  simp only [rowM, h.mem_iff]
theorem RowR.perm {r : Rules} {now k : Int} {l m : List Party} {row : List Entry} (h : RowR r now l k row) (hp : l.Perm m) : RowR r now m k row := ⟨h.ss, fun e => (h.mem e).trans (rowM_perm hp)⟩
theorem RowR.skip {r : Rules} {now k : Int} {p : Party} {l : List Party} {row : List Entry} (hn : ¬ (entryOk r p now = true ∧ p.cabin = k)) : RowR r now (p :: l) k row ↔ RowR r now l k row := by
  have : ∀ e, rowM r now (p :: l) k e ↔ rowM r now l k e := fun e => by
    rw [rowM_cons]
    exact ⟨fun h => h.resolve_left fun w => hn ⟨w.1, w.2.1⟩, .inr⟩
  exact ⟨fun h => ⟨h.ss, fun e => (h.mem e).trans (this e)⟩, fun h => ⟨h.ss, fun e => (h.mem e).trans (this e).symm⟩⟩
theorem RowR.add {r : Rules} {now k : Int} {p : Party} {l : List Party} {row : List Entry} (h : RowR r now l k row) (ht : p.turn ∉ l.map (·.turn)) (he : entryOk r p now = true) (hk : p.cabin = k) : RowR r now (p :: l) k (qIns row (entryOf r p now)) := by
  rw [qIns_eq]
  refine ⟨ss_ins entryOrd h.ss fun y hy => ?_, fun e => ?_⟩
  · obtain ⟨q, hq, h1, h2, rfl⟩ := (h.mem y).1 hy
    refine entry_cmp h1 he fun w => ht ?_
    rw [← w]; exact List.mem_map.2 ⟨q, hq, rfl⟩
  · rw [insL_iff, rowM_cons, h.mem]
    exact ⟨fun w => w.elim (fun w => .inl ⟨he, hk, w⟩) .inr, fun w => w.elim (fun w => .inl w.2.2) .inr⟩
theorem RowR.del {r : Rules} {now k : Int} {p : Party} {l : List Party} {row : List Entry} (g : Good r now (p :: l)) (h : RowR r now (p :: l) k row) (he : entryOk r p now = true) (hk : p.cabin = k) : RowR r now l k (queueCut row p.id) := by
  have hm : entryOf r p now ∈ row := (h.mem _).2 (rowM_cons.2 (.inl ⟨he, hk, rfl⟩))
  have hid : (entryOf r p now).id = p.id := by rw [entryOf_ok he]
  have hd := ss_ids g h.ss fun e he => (h.mem e).1 he
  refine ⟨h.ss.sublist (queueCut_sub _ _), fun e => ?_⟩
  rw [← hid, queueCut_iff hd hm, h.mem, hid]
  have hids := g.ids
  rw [List.map_cons, List.nodup_cons] at hids
  constructor
  · rintro ⟨h1, h2⟩
    rcases rowM_cons.1 h1 with h1 | h1
    · exact absurd (by rw [h1.2.2, hid]) h2
    · exact h1
  · intro h1
    refine ⟨rowM_cons.2 (.inr h1), fun he' => hids.1 ?_⟩
    obtain ⟨q, hq, h3, _, rfl⟩ := h1
    rw [entryOf_ok h3] at he'
    rw [← he']; exact List.mem_map.2 ⟨q, hq, rfl⟩
/-! ### Wheels -/
structure WhR (l : List Party) (k : Int) (wh : Wheel) : Prop where
  ok : WheelP wh
  mem : ∀ x, x ∈ wh.spoke.flatten ↔ pinM l k x
theorem pinM_cons {k : Int} {p : Party} {l : List Party} {x : Pin} : pinM (p :: l) k x ↔ (p.state = 2 ∧ p.cabin = k ∧ x = ⟨p.until', p.id⟩) ∨ pinM l k x := by
  constructor
  · rintro ⟨q, hq, h⟩
    rcases List.mem_cons.1 hq with rfl | hq
    · exact .inl h
    · exact .inr ⟨q, hq, h⟩
  · rintro (h | ⟨q, hq, h⟩)
    · exact ⟨p, by simp, h⟩
    · exact ⟨q, by simp [hq], h⟩
theorem WhR.perm {k : Int} {l m : List Party} {wh : Wheel} (h : WhR l k wh) (hp : l.Perm m) : WhR m k wh := ⟨h.ok, fun x => (h.mem x).trans (by simp only [pinM, hp.mem_iff])⟩
theorem WhR.skip {k : Int} {p : Party} {l : List Party} {wh : Wheel} (hn : ¬ (p.state = 2 ∧ p.cabin = k)) : WhR (p :: l) k wh ↔ WhR l k wh := by
  have : ∀ x, pinM (p :: l) k x ↔ pinM l k x := fun x => by
    rw [pinM_cons]
    exact ⟨fun h => h.resolve_left fun w => hn ⟨w.1, w.2.1⟩, .inr⟩
  exact ⟨fun h => ⟨h.ok, fun x => (h.mem x).trans (this x)⟩, fun h => ⟨h.ok, fun x => (h.mem x).trans (this x).symm⟩⟩
theorem flatten_perm : ∀ {xss : List (List Pin)} {i : Nat} {l m : List Pin} {p : Pin}, xss[i]? = some l → m.Perm (p :: l) → (xss.set i m).flatten.Perm (p :: xss.flatten)
  | [], _, _, _, _, h, _ => by simp at h
  | z :: xss, 0, l, m, p, h, hp => by
    simp at h; subst h
    rw [List.set_cons_zero, List.flatten_cons, List.flatten_cons]
    exact (hp.append_right _)
  | z :: xss, i + 1, l, m, p, h, hp => by
    rw [List.getElem?_cons_succ] at h
    have h1 := flatten_perm h hp
    rw [List.set_cons_succ, List.flatten_cons, List.flatten_cons]
    exact (h1.append_left z).trans List.perm_middle
theorem spoke_ss {i : Nat} {l : List Pin} : SpokeP i l ↔ (∀ x ∈ l, Int.tmod x.at' 9 = (i : Int)) ∧ SS pinLess l := by
  constructor
  · intro h
    refine ⟨fun x hx => ?_, ?_⟩
    · obtain ⟨m, hm⟩ := List.mem_iff_getElem?.1 hx
      exact (h m x hm).1
    · have : ∀ (d m : Nat) (x y : Pin), l[m]? = some x → l[m + d + 1]? = some y → pinLess x y = true := by
        intro d
        induction d with
        | zero => intro m x y hx hy; exact (h (m + 1) y hy).2 (by omega) x hx
        | succ d ih =>
          intro m x y hx hy
          have hlt : m + d + 1 < l.length := by have := (List.getElem?_eq_some_iff.1 hy).1; omega
          exact pinOrd.tr (ih m x _ hx (List.getElem?_eq_getElem hlt)) ((h _ y hy).2 (by omega) _ (by rw [show m + (d + 1) + 1 - 1 = m + d + 1 by omega]; exact List.getElem?_eq_getElem hlt))
      refine List.pairwise_iff_getElem.2 ?_
      intro a b ha hb hab
      exact this (b - a - 1) a _ _ (List.getElem?_eq_getElem ha) (by rw [show a + (b - a - 1) + 1 = b by omega]; exact List.getElem?_eq_getElem hb)
  · rintro ⟨h1, h2⟩ m x hx
    refine ⟨h1 x (List.mem_of_getElem? hx), fun h0 y hy => ?_⟩
    obtain ⟨g1, e1⟩ := List.getElem?_eq_some_iff.1 hy
    obtain ⟨g2, e2⟩ := List.getElem?_eq_some_iff.1 hx
    have := (List.pairwise_iff_getElem.1 h2) (m - 1) m g1 g2 (by omega)
    rw [e1, e2] at this; exact this
theorem wheelP_iff {wh : Wheel} : WheelP wh ↔ wh.spoke.length = 9 ∧ wh.spoke.flatten.length ≤ 10 ∧ (∀ p ∈ wh.spoke.flatten, PinR p) ∧ (wh.spoke.flatten.map (·.id)).Nodup ∧ ∀ (i : Nat) (l : List Pin), wh.spoke[i]? = some l → (∀ x ∈ l, Int.tmod x.at' 9 = (i : Int)) ∧ SS pinLess l := by
  unfold WheelP
  refine and_congr_right fun _ => and_congr_right fun _ => and_congr_right fun _ => and_congr_right fun _ => ?_
  exact ⟨fun h i l hl => spoke_ss.1 (h i l hl), fun h i l hl => spoke_ss.2 (h i l hl)⟩
theorem get_set {α : Type} {l : List α} {i j : Nat} {x y : α} (h : (l.set i y)[j]? = some x) : (i = j ∧ x = y ∧ j < l.length) ∨ (i ≠ j ∧ l[j]? = some x) := by
  rw [List.getElem?_set] at h
  split at h
  · rename_i hij
    split at h
    · rename_i hl
      injection h with h
      exact .inl ⟨hij, h.symm, by omega⟩
    · cases h
  · exact .inr ⟨by assumption, h⟩
theorem spoke_at {wh : Wheel} (hw : WheelP wh) {p : Pin} (hp : PinR p) : ∃ l, wh.spoke[(Int.tmod p.at' 9).toNat]? = some l ∧ (((Int.tmod p.at' 9).toNat : Nat) : Int) = Int.tmod p.at' 9 ∧ 1 ≤ p.at' := by
  obtain ⟨h1, h2⟩ := hp
  simp only [inB, Bool.and_eq_true, decide_eq_true_eq] at h1
  have h3 := tmod_rng (a := p.at') (n := 9) (by omega) (by omega)
  have h4 := hw.1
  exact ⟨_, List.getElem?_eq_getElem (by omega), by omega, h1.1⟩
theorem WhR.add {r : Rules} {now k : Int} {p : Party} {l : List Party} {wh : Wheel} (h : WhR l k wh) (hid : p.id ∉ l.map (·.id)) (hr : PinR ⟨p.until', p.id⟩) (hs : p.state = 2) (hk : p.cabin = k) (hlen : wh.spoke.flatten.length ≤ 9) :
    WhR (p :: l) k (wheelIns wh ⟨p.until', p.id⟩) ∧ wheelPut wh ⟨p.until', p.id⟩ = wheelIns wh ⟨p.until', p.id⟩ := by
  obtain ⟨sp, hsp, htm, hat⟩ := spoke_at h.ok hr
  have hins := wheelIns_of (w := wh) hsp
  have hfp : (wheelIns wh ⟨p.until', p.id⟩).spoke.flatten.Perm (⟨p.until', p.id⟩ :: wh.spoke.flatten) := by
    rw [hins]; exact flatten_perm hsp (by rw [pIns_eq]; exact insL_perm _ _)
  obtain ⟨h1, h2, h3, h4, h5⟩ := wheelP_iff.1 h.ok
  have hno : ∀ y ∈ wh.spoke.flatten, y.id ≠ p.id := by
    intro y hy he
    obtain ⟨q, hq, _, _, rfl⟩ := (h.mem y).1 hy
    exact hid (by rw [← he]; exact List.mem_map.2 ⟨q, hq, rfl⟩)
  have hw : WheelP (wheelIns wh ⟨p.until', p.id⟩) := by
    refine wheelP_iff.2 ⟨by rw [(wheelIns_len _ _).1]; exact h1, by rw [hfp.length_eq, List.length_cons]; omega, fun y hy => ?_, ?_, fun i m hm => ?_⟩
    · rcases List.mem_cons.1 (hfp.mem_iff.1 hy) with rfl | hy
      · exact hr
      · exact h3 y hy
    · rw [(hfp.map _).nodup_iff, List.map_cons, List.nodup_cons]
      refine ⟨fun hin => ?_, h4⟩
      obtain ⟨y, hy, he⟩ := List.mem_map.1 hin
      exact hno y hy he
    · rw [hins] at hm
      rcases get_set hm with ⟨rfl, rfl, _⟩ | ⟨_, hm⟩
      · obtain ⟨g1, g2⟩ := h5 _ sp hsp
        rw [pIns_eq]
        refine ⟨fun x hx => ?_, ss_ins pinOrd g2 fun y hy => ?_⟩
        · rcases insL_iff.1 hx with rfl | hx
          · exact htm.symm
          · exact g1 x hx
        · refine pin_cmp fun he => hno y (List.mem_flatten.2 ⟨sp, List.mem_of_getElem? hsp, hy⟩) ?_
          rw [he]
      · exact h5 i m hm
  refine ⟨⟨hw, fun x => ?_⟩, (wheelPut_t (wheelOk_t h.ok) (by have hat9 : 1 ≤ p.until' := hat; show ¬ p.until' < 1; omega) (wheelOk_t hw)).1⟩
  rw [hfp.mem_iff, List.mem_cons, pinM_cons, h.mem]
  exact ⟨fun w => w.elim (fun w => .inl ⟨hs, hk, w⟩) .inr, fun w => w.elim (fun w => .inl w.2.2) .inr⟩
theorem pinAt_of {l : List Pin} {p : Pin} (hp : p ∈ l) : ∃ k : Nat, pinAt l p = (k : Int) ∧ l[k]? = some p := by
  have hnn : 0 ≤ pinAt l p := by
    have : ∀ (m : List Pin) (n : Nat), p ∈ m → 0 ≤ idxF (fun x : Pin => x.at' == p.at' && x.id == p.id) m n := by
      intro m
      induction m with
      | nil => intro n h; exact absurd h List.not_mem_nil
      | cons y m ih =>
        intro n h
        unfold idxF
        split
        · omega
        · rename_i hne
          rcases List.mem_cons.1 h with rfl | h
          · simp at hne
          · exact ih (n + 1) h
    exact this l 0 hp
  obtain ⟨i, e, h1, h2, h3, _⟩ := idxF_at l 0 hnn
  refine ⟨i, by rw [pinAt, h1]; congr 1; omega, ?_⟩
  rw [h2]; congr 1
  simp only [Bool.and_eq_true, beq_iff_eq] at h3
  cases e; cases p; simp_all
theorem WhR.del {r : Rules} {now k : Int} {p : Party} {l : List Party} {wh : Wheel} (h : WhR (p :: l) k wh) (hid : p.id ∉ l.map (·.id)) (hs : p.state = 2) (hk : p.cabin = k) : WhR l k (wheelCut wh ⟨p.until', p.id⟩) := by
  have hm : (⟨p.until', p.id⟩ : Pin) ∈ wh.spoke.flatten := (h.mem _).2 (pinM_cons.2 (.inl ⟨hs, hk, rfl⟩))
  obtain ⟨h1, h2, h3, h4, h5⟩ := wheelP_iff.1 h.ok
  have hr := h3 _ hm
  obtain ⟨sp, hsp, htm, hat⟩ := spoke_at h.ok hr
  have hin : (⟨p.until', p.id⟩ : Pin) ∈ sp := by
    obtain ⟨m, hml, hpm⟩ := List.mem_flatten.1 hm
    obtain ⟨i, hi⟩ := List.mem_iff_getElem?.1 hml
    have := (h5 i m hi).1 _ hpm
    dsimp only at this htm
    have hii : i = (Int.tmod p.until' 9).toNat := by omega
    rw [hii] at hi
    have h9 : some m = some sp := hi.symm.trans hsp
    injection h9 with h9
    rw [← h9]; exact hpm
  obtain ⟨j, hj1, hj2⟩ := pinAt_of hin
  have hcut : wheelCut wh ⟨p.until', p.id⟩ = ⟨wh.spoke.set (Int.tmod p.until' 9).toNat (cutAt sp j)⟩ := by
    have hc : (wheelOk wh && !decide (p.until' < 1)) = true := by
      rw [wheelOk_t h.ok]
      simp only [Bool.true_and, Bool.not_eq_true', decide_eq_false_iff_not]
      dsimp only at hat; omega
    unfold wheelCut
    dsimp only
    rw [if_pos hc]
    dsimp only at hsp
    rw [hsp]
    dsimp only
    rw [hj1, if_neg (by omega), Int.toNat_natCast]
  have hfp : wh.spoke.flatten.Perm (⟨p.until', p.id⟩ :: (wheelCut wh ⟨p.until', p.id⟩).spoke.flatten) := by
    rw [hcut]
    have hlt := (List.getElem?_eq_some_iff.1 hsp).1
    have := flatten_perm (xss := wh.spoke.set (Int.tmod p.until' 9).toNat (cutAt sp j)) (i := (Int.tmod p.until' 9).toNat) (l := cutAt sp j) (m := sp) (p := ⟨p.until', p.id⟩) (by rw [List.getElem?_set_self hlt]) (cutAt_perm hj2)
    rw [List.set_set] at this
    have hss : wh.spoke.set (Int.tmod p.until' 9).toNat sp = wh.spoke := by
      have := set_same (f := id) (l := wh.spoke) (k := (Int.tmod p.until' 9).toNat) (x := sp) (y := sp) hsp rfl
      simpa using this
    rw [hss] at this
    exact this
  have hnd := (hfp.map (·.id)).nodup_iff.1 h4
  rw [List.map_cons, List.nodup_cons] at hnd
  refine ⟨wheelP_iff.2 ⟨by rw [hcut]; simp [h1], by have := hfp.length_eq; rw [List.length_cons] at this; omega, fun y hy => h3 y (hfp.mem_iff.2 (List.mem_cons_of_mem _ hy)), hnd.2, fun i m hm => ?_⟩, fun x => ?_⟩
  · rw [hcut] at hm
    rcases get_set hm with ⟨rfl, rfl, _⟩ | ⟨_, hm⟩
    · obtain ⟨g1, g2⟩ := h5 _ sp hsp
      exact ⟨fun x hx => g1 x ((cutAt_sub hj2).subset hx), g2.sublist (cutAt_sub hj2)⟩
    · exact h5 i m hm
  · constructor
    · intro hx
      have := (h.mem x).1 (hfp.mem_iff.2 (List.mem_cons_of_mem _ hx))
      rcases pinM_cons.1 this with w | w
      · exact absurd (List.mem_map.2 ⟨x, hx, by rw [w.2.2]⟩) hnd.1
      · exact w
    · intro hx
      have := (h.mem x).2 (pinM_cons.2 (.inr hx))
      rcases List.mem_cons.1 (hfp.mem_iff.1 this) with w | w
      · obtain ⟨q, hq, _, _, he⟩ := hx
        rw [w] at he
        injection he with _ he
        exact absurd (by rw [he]; exact List.mem_map.2 ⟨q, hq, rfl⟩) hid
      · exact w
/-- pins are parties of the cabin -/
theorem pins_le {l : List Party} {k : Int} {wh : Wheel} (h : WhR l k wh) (hd : (l.map (·.id)).Nodup) : wh.spoke.flatten.length ≤ cnt l k := by
  have hsub : (wh.spoke.flatten.map (·.id)) ⊆ ((l.filter fun p => p.cabin == k).map (·.id)) := by
    intro x hx
    obtain ⟨y, hy, rfl⟩ := List.mem_map.1 hx
    obtain ⟨q, hq, _, h2, rfl⟩ := (h.mem y).1 hy
    exact List.mem_map.2 ⟨q, List.mem_filter.2 ⟨hq, by simpa using h2⟩, rfl⟩
  have := nodup_le h.ok.2.2.2.1 hsub
  rw [List.length_map, List.length_map] at this
  exact this
/-! ### A cabin by its parts -/
theorem Rep.rowR {r : Rules} {now k : Int} {l : List Party} {c : Cabin} (h : Rep r now l k c) : RowR r now l k c.row := ⟨h.ss, h.row⟩
theorem Rep.whR {r : Rules} {now k : Int} {l : List Party} {c : Cabin} (h : Rep r now l k c) : WhR l k c.wheel := ⟨h.wh, h.pin⟩
theorem rep_of {r : Rules} {now k : Int} {l : List Party} {c : Cabin} (h1 : ledgerOk c.seats = true) (h2 : RowR r now l k c.row) (h3 : WhR l k c.wheel) (h4 : c.seats.held = (l.map (heldW k)).sum) (h5 : c.seats.tied = (l.map (tiedW k)).sum) : Rep r now l k c :=
  ⟨h1, h2.ss, h2.mem, h3.ok, h3.mem, h4, h5⟩
theorem sum_cons {f : Party → Int} {l R : List Party} {p : Party} (h : l.Perm (p :: R)) : (l.map f).sum = f p + (R.map f).sum := by
  rw [sum_perm h, List.map_cons, List.sum_cons]
/-! ### Ledgers -/
structure LP (l : Ledger) : Prop where
  total : 1 ≤ l.total ∧ l.total ≤ 60
  free : 0 ≤ l.free
  held : 0 ≤ l.held
  sold : 0 ≤ l.sold
  sum : l.free + l.held + l.sold = l.total
  tied : 0 ≤ l.tied ∧ l.tied ≤ l.sold
theorem ledgerOk_iff {l : Ledger} : ledgerOk l = true ↔ LP l := by
  unfold ledgerOk
  simp only [Bool.and_eq_true, inB, decide_eq_true_eq, beq_iff_eq]
  constructor
  · rintro ⟨⟨⟨⟨⟨h1, h2⟩, h3⟩, h4⟩, h5⟩, h6⟩
    rw [wr_of (x := l.free + l.held) (by omega) (by omega), wr_of (by omega) (by omega)] at h5
    exact ⟨h1, h2.1, h3.1, h4.1, h5, h6⟩
  · rintro ⟨h1, h2, h3, h4, h5, h6⟩
    refine ⟨⟨⟨⟨⟨h1, h2, by omega⟩, h3, by omega⟩, h4, by omega⟩, ?_⟩, h6⟩
    rw [wr_of (x := l.free + l.held) (by omega) (by omega), wr_of (by omega) (by omega)]; exact h5
def mvL (l : Ledger) (df dh ds dt : Int) : Ledger := ⟨l.total, wr (l.free + df), wr (l.held + dh), wr (l.sold + ds), wr (l.tied + dt)⟩
def movedB (l : Ledger) (n df dh ds dt : Int) : Bool := ledgerOk l && inB n 0 60 && ledgerOk (mvL l df dh ds dt)
def movedL (l : Ledger) (n df dh ds dt : Int) : Ledger := if movedB l n df dh ds dt then mvL l df dh ds dt else l
def lHold (l : Ledger) (n : Int) : Ledger := movedL l n (-n) n 0 0
def lDrop (l : Ledger) (n : Int) : Ledger := movedL l n n (-n) 0 0
def lSell (l : Ledger) (n : Int) : Ledger := movedL l n 0 (-n) n 0
def lFree (l : Ledger) (n : Int) : Ledger := movedL l n n 0 (-n) 0
def lTie (l : Ledger) (n : Int) : Ledger := movedL l n 0 0 0 n
def lUntie (l : Ledger) (n : Int) : Ledger := movedL l n 0 0 0 (-n)
theorem movedL_of {l : Ledger} {n df dh ds dt : Int} (h : LP l) (hn : 0 ≤ n ∧ n ≤ 60) (h2 : LP ⟨l.total, l.free + df, l.held + dh, l.sold + ds, l.tied + dt⟩) : movedL l n df dh ds dt = ⟨l.total, l.free + df, l.held + dh, l.sold + ds, l.tied + dt⟩ := by
  have a1 := h2.free; have a2 := h2.held; have a3 := h2.sold; have a4 := h2.tied; have a5 := h2.sum; have a6 := h2.total
  dsimp only at a1 a2 a3 a4 a5 a6
  have he : mvL l df dh ds dt = ⟨l.total, l.free + df, l.held + dh, l.sold + ds, l.tied + dt⟩ := by
    unfold mvL
    rw [wr_of (x := l.free + df) (by omega) (by omega), wr_of (x := l.held + dh) (by omega) (by omega), wr_of (x := l.sold + ds) (by omega) (by omega), wr_of (x := l.tied + dt) (by omega) (by omega)]
  have hb : movedB l n df dh ds dt = true := by
    unfold movedB
    rw [he, ledgerOk_iff.2 h, ledgerOk_iff.2 h2]
    simp only [inB, Bool.true_and, Bool.and_true, Bool.and_eq_true, decide_eq_true_eq]
    exact hn
  rw [movedL, if_pos hb, he]
end SX
end Go.Proofs.YtaihohlklagdgaaGreat
