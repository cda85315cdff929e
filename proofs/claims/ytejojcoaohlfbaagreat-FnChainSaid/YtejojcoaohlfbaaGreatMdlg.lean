/- Texts of this claim, put together by program. -/
import Derived.Test.YtejojcoaohlfbaaGreatMdly
namespace Go.Proofs.YtejojcoaohlfbaaGreat
namespace SX
set_option linter.unusedVariables false
set_option linter.unusedSimpArgs false
open Go Go.RowKit
section
variable {α : Type}
def cutAt (l : List α) (k : Nat) : List α := l.take k ++ l.drop (k + 1)
theorem split_at {l : List α} {k : Nat} {x : α} (h : l[k]? = some x) : l = l.take k ++ x :: l.drop (k + 1) := by
 obtain ⟨h1, h2⟩ := List.getElem?_eq_some_iff.1 h
 rw [← h2, ← List.drop_eq_getElem_cons h1, List.take_append_drop]
theorem cutAt_perm {l : List α} {k : Nat} {x : α} (h : l[k]? = some x) : l.Perm (x :: cutAt l k) := by
 have h1 : l.Perm (l.take k ++ x :: l.drop (k + 1)) := List.Perm.of_eq (split_at h)
 exact h1.trans List.perm_middle
theorem cutAt_sub {l : List α} {k : Nat} {x : α} (h : l[k]? = some x) : (cutAt l k).Sublist l := by
 have h1 : (cutAt l k).Sublist (l.take k ++ x :: l.drop (k + 1)) := (List.Sublist.refl _).append (List.sublist_cons_self _ _)
 rw [← split_at h] at h1; exact h1
theorem set_perm : ∀ {l : List α} {k : Nat} {x : α} (y : α), l[k]? = some x → (l.set k y).Perm (y :: cutAt l k)
 | [], _, _, _, h => by simp at h
 | a :: l, 0, _, y, h => by simp [cutAt]
 | a :: l, k + 1, x, y, h => by
   rw [List.getElem?_cons_succ] at h
   have h1 := set_perm y h
   have h2 : cutAt (a :: l) (k + 1) = a :: cutAt l k := by simp [cutAt]
   rw [h2, List.set_cons_succ]
   exact (h1.cons a).trans (List.Perm.swap y a _)
theorem cutAt_iff {f : α → Int} {l : List α} {k : Nat} {x0 : α} (h : l[k]? = some x0) (hd : (l.map f).Nodup) {x : α} : x ∈ cutAt l k ↔ x ∈ l ∧ f x ≠ f x0 := by
 constructor
 · intro hx
   refine ⟨(cutAt_sub h).subset hx, fun he => ?_⟩
   have hn := ((cutAt_perm h).map f).nodup_iff.1 hd
   rw [List.map_cons, List.nodup_cons] at hn
   exact hn.1 (he ▸ List.mem_map.2 ⟨x, hx, rfl⟩)
 · rintro ⟨hx, hne⟩
   rcases List.mem_cons.1 ((cutAt_perm h).mem_iff.1 hx) with rfl | hx
   · exact absurd rfl hne
   · exact hx
theorem set_same {β : Type} {f : α → β} {l : List α} {k : Nat} {x y : α} (h : l[k]? = some x) (he : f y = f x) : (l.set k y).map f = l.map f := by
 apply List.ext_getElem?
 intro i
 rw [List.getElem?_map, List.getElem?_map, List.getElem?_set]
 split
 · rename_i hik
   subst hik
   rw [h]
   split
   · simp [he]
   · rename_i hlt
     exact absurd (List.getElem?_eq_some_iff.1 h).1 hlt
 · rfl
end
def queueCut (l : List Entry) (id : Int) : List Entry := if queueAt l id 0 < 0 then l else cutAt l (queueAt l id 0).toNat
def pinRB (p : Pin) : Bool := inB p.at' 1 1000008 && inB p.id 1 999
def pinAt (l : List Pin) (p : Pin) : Int := idxF (fun x : Pin => x.at' == p.at' && x.id == p.id) l 0
noncomputable def wheelCut (w : Wheel) (p : Pin) : Wheel :=
 if wheelOk w && !decide (p.at' < 1) then
  match w.spoke[(Int.tmod p.at' 9).toNat]? with
  | some l => if pinAt l p < 0 then w else ⟨w.spoke.set (Int.tmod p.at' 9).toNat (cutAt l (pinAt l p).toNat)⟩
  | none => w
 else w
def partyCut (l : List Party) (id : Int) : List Party := if atId l id < 0 then l else cutAt l (atId l id).toNat
theorem queueAt_of {l : List Entry} {e : Entry} (hd : (l.map (·.id)).Nodup) (he : e ∈ l) : ∃ k : Nat, queueAt l e.id 0 = (k : Int) ∧ l[k]? = some e := by
 rcases queueAt_spec l e.id 0 with ⟨_, h2⟩ | ⟨i, y, h1, h2, h3, h4⟩
 · exact absurd rfl (h2 e he)
 · refine ⟨i, by rw [h3]; congr 1; omega, ?_⟩
   obtain ⟨j, hj⟩ := List.mem_iff_getElem?.1 he
   obtain ⟨g1, e1⟩ := List.getElem?_eq_some_iff.1 h1
   obtain ⟨g2, e2⟩ := List.getElem?_eq_some_iff.1 hj
   have : i = j := by
    have hn := hd
    rw [List.Nodup, List.pairwise_iff_getElem] at hn
    rcases Nat.lt_trichotomy i j with h | h | h
    · exact absurd (by rw [List.getElem_map, List.getElem_map, e1, e2, h2]) (hn i j (by simpa using g1) (by simpa using g2) h)
    · exact h
    · exact absurd (by rw [List.getElem_map, List.getElem_map, e1, e2, h2]) (hn j i (by simpa using g2) (by simpa using g1) h)
   subst this; exact hj
theorem queueCut_iff {l : List Entry} {e x : Entry} (hd : (l.map (·.id)).Nodup) (he : e ∈ l) : x ∈ queueCut l e.id ↔ x ∈ l ∧ x.id ≠ e.id := by
 obtain ⟨k, h1, h2⟩ := queueAt_of hd he
 rw [queueCut, h1, if_neg (by omega), Int.toNat_natCast]
 exact cutAt_iff (f := (·.id)) h2 hd
theorem queueCut_sub (l : List Entry) (id : Int) : (queueCut l id).Sublist l := by
 unfold queueCut
 split
 · exact List.Sublist.refl _
 · rcases queueAt_spec l id 0 with ⟨h1, _⟩ | ⟨i, y, h1, h2, h3, h4⟩
   · omega
   · rw [h3, Int.toNat_natCast, Nat.zero_add]; exact cutAt_sub h1
theorem queueCut_len (l : List Entry) (id : Int) : (queueCut l id).length ≤ l.length := (queueCut_sub l id).length_le
theorem atId_of {l : List Party} {p : Party} (hd : (l.map (·.id)).Nodup) (hp : p ∈ l) : ∃ k : Nat, atId l p.id = (k : Int) ∧ l[k]? = some p := by
 have hnn : ¬ atId l p.id < 0 := by
  intro hn
  obtain ⟨i, hi⟩ := List.mem_iff_getElem?.1 hp
  have : ∀ (m : List Party) (n : Nat), p ∈ m → 0 ≤ idxF (fun e : Party => e.id == p.id) m n := by
   intro m
   induction m with
   | nil => intro n h; exact absurd h List.not_mem_nil
   | cons y m ih =>
     intro n h
     unfold idxF
     split
     · omega
     · rename_i hne
       rcases List.mem_cons.1 h with rfl | h
       · simp at hne
       · exact ih (n + 1) h
  have := this l 0 hp
  unfold atId at hn; omega
 obtain ⟨q, h1, h2⟩ := atId_at hnn
 refine ⟨(atId l p.id).toNat, by omega, ?_⟩
 rw [h1]; congr 1
 exact nodup_one hd (List.mem_of_getElem? h1) hp h2
theorem partyCut_perm {l : List Party} {p : Party} (hd : (l.map (·.id)).Nodup) (hp : p ∈ l) : l.Perm (p :: partyCut l p.id) := by
 obtain ⟨k, h1, h2⟩ := atId_of hd hp
 rw [partyCut, h1, if_neg (by omega), Int.toNat_natCast]
 exact cutAt_perm h2
theorem partyCut_sub (l : List Party) (id : Int) : (partyCut l id).Sublist l := by
 unfold partyCut
 split
 · exact List.Sublist.refl _
 · rename_i h
   obtain ⟨q, h1, h2⟩ := atId_at h
   exact cutAt_sub h1
theorem partyPut_perm {l : List Party} {p q : Party} (hd : (l.map (·.id)).Nodup) (hp : p ∈ l) (he : q.id = p.id) : (partyPut l q).Perm (q :: partyCut l p.id) := by
 obtain ⟨k, h1, h2⟩ := atId_of hd hp
 rw [partyCut, partyPut, he, h1, if_pos (by omega), if_neg (by omega), Int.toNat_natCast]
 exact set_perm q h2
theorem partyPut_same {β : Type} {f : Party → β} {l : List Party} {p q : Party} (hd : (l.map (·.id)).Nodup) (hp : p ∈ l) (he : q.id = p.id) (hf : f q = f p) : (partyPut l q).map f = l.map f := by
 obtain ⟨k, h1, h2⟩ := atId_of hd hp
 rw [partyPut, he, h1, if_pos (by omega), Int.toNat_natCast]
 exact set_same h2 hf
theorem partyPut_new {l : List Party} {q : Party} (h : atId l q.id < 0) : partyPut l q = insL idLess l q := by
 rw [partyPut, if_neg (by omega)]
structure RowR (r : Rules) (now : Int) (l : List Party) (k : Int) (row : List Entry) : Prop where
 ss : SS entryLess row
 mem : ∀ e, e ∈ row ↔ rowM r now l k e
theorem rowM_cons {r : Rules} {now k : Int} {p : Party} {l : List Party} {e : Entry} : rowM r now (p :: l) k e ↔ (entryOk r p now = true ∧ p.cabin = k ∧ e = entryOf r p now) ∨ rowM r now l k e := by
 constructor
 · rintro ⟨q, hq, h⟩
   rcases List.mem_cons.1 hq with rfl | hq
   · exact .inl h
   · exact .inr ⟨q, hq, h⟩
 · rintro (h | ⟨q, hq, h⟩)
   · exact ⟨p, by simp, h⟩
   · exact ⟨q, by simp [hq], h⟩
theorem rowM_perm {r : Rules} {now k : Int} {l m : List Party} {e : Entry} (h : l.Perm m) : rowM r now l k e ↔ rowM r now m k e := by
 simp only [rowM, h.mem_iff]
theorem RowR.perm {r : Rules} {now k : Int} {l m : List Party} {row : List Entry} (h : RowR r now l k row) (hp : l.Perm m) : RowR r now m k row := ⟨h.ss, fun e => (h.mem e).trans (rowM_perm hp)⟩
theorem RowR.skip {r : Rules} {now k : Int} {p : Party} {l : List Party} {row : List Entry} (hn : ¬ (entryOk r p now = true ∧ p.cabin = k)) : RowR r now (p :: l) k row ↔ RowR r now l k row := by
 have : ∀ e, rowM r now (p :: l) k e ↔ rowM r now l k e := fun e => by
  rw [rowM_cons]
  exact ⟨fun h => h.resolve_left fun w => hn ⟨w.1, w.2.1⟩, .inr⟩
 exact ⟨fun h => ⟨h.ss, fun e => (h.mem e).trans (this e)⟩, fun h => ⟨h.ss, fun e => (h.mem e).trans (this e).symm⟩⟩
theorem RowR.add {r : Rules} {now k : Int} {p : Party} {l : List Party} {row : List Entry} (h : RowR r now l k row) (ht : p.turn ∉ l.map (·.turn)) (he : entryOk r p now = true) (hk : p.cabin = k) : RowR r now (p :: l) k (qIns row (entryOf r p now)) := by
 rw [qIns_eq]
 refine ⟨ss_ins entryOrd h.ss fun y hy => ?_, fun e => ?_⟩
 · obtain ⟨q, hq, h1, h2, rfl⟩ := (h.mem y).1 hy
   refine entry_cmp h1 he fun w => ht ?_
   rw [← w]; exact List.mem_map.2 ⟨q, hq, rfl⟩
 · rw [insL_iff, rowM_cons, h.mem]
   exact ⟨fun w => w.elim (fun w => .inl ⟨he, hk, w⟩) .inr, fun w => w.elim (fun w => .inl w.2.2) .inr⟩
theorem RowR.del {r : Rules} {now k : Int} {p : Party} {l : List Party} {row : List Entry} (g : Good r now (p :: l)) (h : RowR r now (p :: l) k row) (he : entryOk r p now = true) (hk : p.cabin = k) : RowR r now l k (queueCut row p.id) := by
 have hm : entryOf r p now ∈ row := (h.mem _).2 (rowM_cons.2 (.inl ⟨he, hk, rfl⟩))
 have hid : (entryOf r p now).id = p.id := by rw [entryOf_ok he]
 have hd := ss_ids g h.ss fun e he => (h.mem e).1 he
 refine ⟨h.ss.sublist (queueCut_sub _ _), fun e => ?_⟩
 rw [← hid, queueCut_iff hd hm, h.mem, hid]
 have hids := g.ids
 rw [List.map_cons, List.nodup_cons] at hids
 constructor
 · rintro ⟨h1, h2⟩
   rcases rowM_cons.1 h1 with h1 | h1
   · exact absurd (by rw [h1.2.2, hid]) h2
   · exact h1
 · intro h1
   refine ⟨rowM_cons.2 (.inr h1), fun he' => hids.1 ?_⟩
   obtain ⟨q, hq, h3, _, rfl⟩ := h1
   rw [entryOf_ok h3] at he'
   rw [← he']; exact List.mem_map.2 ⟨q, hq, rfl⟩
structure WhR (l : List Party) (k : Int) (wh : Wheel) : Prop where
 ok : WheelP wh
 mem : ∀ x, x ∈ wh.spoke.flatten ↔ pinM l k x
theorem pinM_cons {k : Int} {p : Party} {l : List Party} {x : Pin} : pinM (p :: l) k x ↔ (p.state = 2 ∧ p.cabin = k ∧ x = ⟨p.until', p.id⟩) ∨ pinM l k x := by
 constructor
 · rintro ⟨q, hq, h⟩
   rcases List.mem_cons.1 hq with rfl | hq
   · exact .inl h
   · exact .inr ⟨q, hq, h⟩
 · rintro (h | ⟨q, hq, h⟩)
   · exact ⟨p, by simp, h⟩
   · exact ⟨q, by simp [hq], h⟩
theorem WhR.perm {k : Int} {l m : List Party} {wh : Wheel} (h : WhR l k wh) (hp : l.Perm m) : WhR m k wh := ⟨h.ok, fun x => (h.mem x).trans (by simp only [pinM, hp.mem_iff])⟩
theorem WhR.skip {k : Int} {p : Party} {l : List Party} {wh : Wheel} (hn : ¬ (p.state = 2 ∧ p.cabin = k)) : WhR (p :: l) k wh ↔ WhR l k wh := by
 have : ∀ x, pinM (p :: l) k x ↔ pinM l k x := fun x => by
  rw [pinM_cons]
  exact ⟨fun h => h.resolve_left fun w => hn ⟨w.1, w.2.1⟩, .inr⟩
 exact ⟨fun h => ⟨h.ok, fun x => (h.mem x).trans (this x)⟩, fun h => ⟨h.ok, fun x => (h.mem x).trans (this x).symm⟩⟩
theorem flatten_perm : ∀ {xss : List (List Pin)} {i : Nat} {l m : List Pin} {p : Pin}, xss[i]? = some l → m.Perm (p :: l) → (xss.set i m).flatten.Perm (p :: xss.flatten)
 | [], _, _, _, _, h, _ => by simp at h
 | z :: xss, 0, l, m, p, h, hp => by
   simp at h; subst h
   rw [List.set_cons_zero, List.flatten_cons, List.flatten_cons]
   exact (hp.append_right _)
 | z :: xss, i + 1, l, m, p, h, hp => by
   rw [List.getElem?_cons_succ] at h
   have h1 := flatten_perm h hp
   rw [List.set_cons_succ, List.flatten_cons, List.flatten_cons]
   exact (h1.append_left z).trans List.perm_middle
theorem spoke_ss {i : Nat} {l : List Pin} : SpokeP i l ↔ (∀ x ∈ l, Int.tmod x.at' 9 = (i : Int)) ∧ SS pinLess l := by
 constructor
 · intro h
   refine ⟨fun x hx => ?_, ?_⟩
   · obtain ⟨m, hm⟩ := List.mem_iff_getElem?.1 hx
     exact (h m x hm).1
   · have : ∀ (d m : Nat) (x y : Pin), l[m]? = some x → l[m + d + 1]? = some y → pinLess x y = true := by
      intro d
      induction d with
      | zero => intro m x y hx hy; exact (h (m + 1) y hy).2 (by omega) x hx
      | succ d ih =>
        intro m x y hx hy
        have hlt : m + d + 1 < l.length := by have := (List.getElem?_eq_some_iff.1 hy).1; omega
        exact pinOrd.tr (ih m x _ hx (List.getElem?_eq_getElem hlt)) ((h _ y hy).2 (by omega) _ (by rw [show m + (d + 1) + 1 - 1 = m + d + 1 by omega]; exact List.getElem?_eq_getElem hlt))
     refine List.pairwise_iff_getElem.2 ?_
     intro a b ha hb hab
     exact this (b - a - 1) a _ _ (List.getElem?_eq_getElem ha) (by rw [show a + (b - a - 1) + 1 = b by omega]; exact List.getElem?_eq_getElem hb)
 · rintro ⟨h1, h2⟩ m x hx
   refine ⟨h1 x (List.mem_of_getElem? hx), fun h0 y hy => ?_⟩
   obtain ⟨g1, e1⟩ := List.getElem?_eq_some_iff.1 hy
   obtain ⟨g2, e2⟩ := List.getElem?_eq_some_iff.1 hx
   have := (List.pairwise_iff_getElem.1 h2) (m - 1) m g1 g2 (by omega)
   rw [e1, e2] at this; exact this
theorem wheelP_iff {wh : Wheel} : WheelP wh ↔ wh.spoke.length = 9 ∧ wh.spoke.flatten.length ≤ 10 ∧ (∀ p ∈ wh.spoke.flatten, PinR p) ∧ (wh.spoke.flatten.map (·.id)).Nodup ∧ ∀ (i : Nat) (l : List Pin), wh.spoke[i]? = some l → (∀ x ∈ l, Int.tmod x.at' 9 = (i : Int)) ∧ SS pinLess l := by
 unfold WheelP
 refine and_congr_right fun _ => and_congr_right fun _ => and_congr_right fun _ => and_congr_right fun _ => ?_
 exact ⟨fun h i l hl => spoke_ss.1 (h i l hl), fun h i l hl => spoke_ss.2 (h i l hl)⟩
theorem get_set {α : Type} {l : List α} {i j : Nat} {x y : α} (h : (l.set i y)[j]? = some x) : (i = j ∧ x = y ∧ j < l.length) ∨ (i ≠ j ∧ l[j]? = some x) := by
 rw [List.getElem?_set] at h
 split at h
 · rename_i hij
   split at h
   · rename_i hl
     injection h with h
     exact .inl ⟨hij, h.symm, by omega⟩
   · cases h
 · exact .inr ⟨by assumption, h⟩
theorem spoke_at {wh : Wheel} (hw : WheelP wh) {p : Pin} (hp : PinR p) : ∃ l, wh.spoke[(Int.tmod p.at' 9).toNat]? = some l ∧ (((Int.tmod p.at' 9).toNat : Nat) : Int) = Int.tmod p.at' 9 ∧ 1 ≤ p.at' := by
 obtain ⟨h1, h2⟩ := hp
 simp only [inB, Bool.and_eq_true, decide_eq_true_eq] at h1
 have h3 := tmod_rng (a := p.at') (n := 9) (by omega) (by omega)
 have h4 := hw.1
 exact ⟨_, List.getElem?_eq_getElem (by omega), by omega, h1.1⟩
theorem WhR.add {r : Rules} {now k : Int} {p : Party} {l : List Party} {wh : Wheel} (h : WhR l k wh) (hid : p.id ∉ l.map (·.id)) (hr : PinR ⟨p.until', p.id⟩) (hs : p.state = 2) (hk : p.cabin = k) (hlen : wh.spoke.flatten.length ≤ 9) :
 WhR (p :: l) k (wheelIns wh ⟨p.until', p.id⟩) ∧ wheelPut wh ⟨p.until', p.id⟩ = wheelIns wh ⟨p.until', p.id⟩ := by
 obtain ⟨sp, hsp, htm, hat⟩ := spoke_at h.ok hr
 have hins := wheelIns_of (w := wh) hsp
 have hfp : (wheelIns wh ⟨p.until', p.id⟩).spoke.flatten.Perm (⟨p.until', p.id⟩ :: wh.spoke.flatten) := by
  rw [hins]; exact flatten_perm hsp (by rw [pIns_eq]; exact insL_perm _ _)
 obtain ⟨h1, h2, h3, h4, h5⟩ := wheelP_iff.1 h.ok
 have hno : ∀ y ∈ wh.spoke.flatten, y.id ≠ p.id := by
  intro y hy he
  obtain ⟨q, hq, _, _, rfl⟩ := (h.mem y).1 hy
  exact hid (by rw [← he]; exact List.mem_map.2 ⟨q, hq, rfl⟩)
 have hw : WheelP (wheelIns wh ⟨p.until', p.id⟩) := by
  refine wheelP_iff.2 ⟨by rw [(wheelIns_len _ _).1]; exact h1, by rw [hfp.length_eq, List.length_cons]; omega, fun y hy => ?_, ?_, fun i m hm => ?_⟩
  · rcases List.mem_cons.1 (hfp.mem_iff.1 hy) with rfl | hy
    · exact hr
    · exact h3 y hy
  · rw [(hfp.map _).nodup_iff, List.map_cons, List.nodup_cons]
    refine ⟨fun hin => ?_, h4⟩
    obtain ⟨y, hy, he⟩ := List.mem_map.1 hin
    exact hno y hy he
  · rw [hins] at hm
    rcases get_set hm with ⟨rfl, rfl, _⟩ | ⟨_, hm⟩
    · obtain ⟨g1, g2⟩ := h5 _ sp hsp
      rw [pIns_eq]
      refine ⟨fun x hx => ?_, ss_ins pinOrd g2 fun y hy => ?_⟩
      · rcases insL_iff.1 hx with rfl | hx
        · exact htm.symm
        · exact g1 x hx
      · refine pin_cmp fun he => hno y (List.mem_flatten.2 ⟨sp, List.mem_of_getElem? hsp, hy⟩) ?_
        rw [he]
    · exact h5 i m hm
 refine ⟨⟨hw, fun x => ?_⟩, (wheelPut_t (wheelOk_t h.ok) (by have hat9 : 1 ≤ p.until' := hat; show ¬ p.until' < 1; omega) (wheelOk_t hw)).1⟩
 rw [hfp.mem_iff, List.mem_cons, pinM_cons, h.mem]
 exact ⟨fun w => w.elim (fun w => .inl ⟨hs, hk, w⟩) .inr, fun w => w.elim (fun w => .inl w.2.2) .inr⟩
theorem pinAt_of {l : List Pin} {p : Pin} (hp : p ∈ l) : ∃ k : Nat, pinAt l p = (k : Int) ∧ l[k]? = some p := by
 have hnn : 0 ≤ pinAt l p := by
  have : ∀ (m : List Pin) (n : Nat), p ∈ m → 0 ≤ idxF (fun x : Pin => x.at' == p.at' && x.id == p.id) m n := by
   intro m
   induction m with
   | nil => intro n h; exact absurd h List.not_mem_nil
   | cons y m ih =>
     intro n h
     unfold idxF
     split
     · omega
     · rename_i hne
       rcases List.mem_cons.1 h with rfl | h
       · simp at hne
       · exact ih (n + 1) h
  exact this l 0 hp
 obtain ⟨i, e, h1, h2, h3, _⟩ := idxF_at l 0 hnn
 refine ⟨i, by rw [pinAt, h1]; congr 1; omega, ?_⟩
 rw [h2]; congr 1
 simp only [Bool.and_eq_true, beq_iff_eq] at h3
 cases e; cases p; simp_all
theorem WhR.del {r : Rules} {now k : Int} {p : Party} {l : List Party} {wh : Wheel} (h : WhR (p :: l) k wh) (hid : p.id ∉ l.map (·.id)) (hs : p.state = 2) (hk : p.cabin = k) : WhR l k (wheelCut wh ⟨p.until', p.id⟩) := by
 have hm : (⟨p.until', p.id⟩ : Pin) ∈ wh.spoke.flatten := (h.mem _).2 (pinM_cons.2 (.inl ⟨hs, hk, rfl⟩))
 obtain ⟨h1, h2, h3, h4, h5⟩ := wheelP_iff.1 h.ok
 have hr := h3 _ hm
 obtain ⟨sp, hsp, htm, hat⟩ := spoke_at h.ok hr
 have hin : (⟨p.until', p.id⟩ : Pin) ∈ sp := by
  obtain ⟨m, hml, hpm⟩ := List.mem_flatten.1 hm
  obtain ⟨i, hi⟩ := List.mem_iff_getElem?.1 hml
  have := (h5 i m hi).1 _ hpm
  dsimp only at this htm
  have hii : i = (Int.tmod p.until' 9).toNat := by omega
  rw [hii] at hi
  have h9 : some m = some sp := hi.symm.trans hsp
  injection h9 with h9
  rw [← h9]; exact hpm
 obtain ⟨j, hj1, hj2⟩ := pinAt_of hin
 have hcut : wheelCut wh ⟨p.until', p.id⟩ = ⟨wh.spoke.set (Int.tmod p.until' 9).toNat (cutAt sp j)⟩ := by
  have hc : (wheelOk wh && !decide (p.until' < 1)) = true := by
   rw [wheelOk_t h.ok]
   simp only [Bool.true_and, Bool.not_eq_true', decide_eq_false_iff_not]
   dsimp only at hat; omega
  unfold wheelCut
  dsimp only
  rw [if_pos hc]
  dsimp only at hsp
  rw [hsp]
  dsimp only
  rw [hj1, if_neg (by omega), Int.toNat_natCast]
 have hfp : wh.spoke.flatten.Perm (⟨p.until', p.id⟩ :: (wheelCut wh ⟨p.until', p.id⟩).spoke.flatten) := by
  rw [hcut]
  have hlt := (List.getElem?_eq_some_iff.1 hsp).1
  have := flatten_perm (xss := wh.spoke.set (Int.tmod p.until' 9).toNat (cutAt sp j)) (i := (Int.tmod p.until' 9).toNat) (l := cutAt sp j) (m := sp) (p := ⟨p.until', p.id⟩) (by rw [List.getElem?_set_self hlt]) (cutAt_perm hj2)
  rw [List.set_set] at this
  have hss : wh.spoke.set (Int.tmod p.until' 9).toNat sp = wh.spoke := by
   have := set_same (f := id) (l := wh.spoke) (k := (Int.tmod p.until' 9).toNat) (x := sp) (y := sp) hsp rfl
   simpa using this
  rw [hss] at this
  exact this
 have hnd := (hfp.map (·.id)).nodup_iff.1 h4
 rw [List.map_cons, List.nodup_cons] at hnd
 refine ⟨wheelP_iff.2 ⟨by rw [hcut]; simp [h1], by have := hfp.length_eq; rw [List.length_cons] at this; omega, fun y hy => h3 y (hfp.mem_iff.2 (List.mem_cons_of_mem _ hy)), hnd.2, fun i m hm => ?_⟩, fun x => ?_⟩
 · rw [hcut] at hm
   rcases get_set hm with ⟨rfl, rfl, _⟩ | ⟨_, hm⟩
   · obtain ⟨g1, g2⟩ := h5 _ sp hsp
     exact ⟨fun x hx => g1 x ((cutAt_sub hj2).subset hx), g2.sublist (cutAt_sub hj2)⟩
   · exact h5 i m hm
 · constructor
   · intro hx
     have := (h.mem x).1 (hfp.mem_iff.2 (List.mem_cons_of_mem _ hx))
     rcases pinM_cons.1 this with w | w
     · exact absurd (List.mem_map.2 ⟨x, hx, by rw [w.2.2]⟩) hnd.1
     · exact w
   · intro hx
     have := (h.mem x).2 (pinM_cons.2 (.inr hx))
     rcases List.mem_cons.1 (hfp.mem_iff.1 this) with w | w
     · obtain ⟨q, hq, _, _, he⟩ := hx
       rw [w] at he
       injection he with _ he
       exact absurd (by rw [he]; exact List.mem_map.2 ⟨q, hq, rfl⟩) hid
     · exact w
theorem pins_le {l : List Party} {k : Int} {wh : Wheel} (h : WhR l k wh) (hd : (l.map (·.id)).Nodup) : wh.spoke.flatten.length ≤ cnt l k := by
 have hsub : (wh.spoke.flatten.map (·.id)) ⊆ ((l.filter fun p => p.cabin == k).map (·.id)) := by
  intro x hx
  obtain ⟨y, hy, rfl⟩ := List.mem_map.1 hx
  obtain ⟨q, hq, _, h2, rfl⟩ := (h.mem y).1 hy
  exact List.mem_map.2 ⟨q, List.mem_filter.2 ⟨hq, by simpa using h2⟩, rfl⟩
 have := nodup_le h.ok.2.2.2.1 hsub
 rw [List.length_map, List.length_map] at this
 exact this
theorem Rep.rowR {r : Rules} {now k : Int} {l : List Party} {c : Cabin} (h : Rep r now l k c) : RowR r now l k c.row := ⟨h.ss, h.row⟩
theorem Rep.whR {r : Rules} {now k : Int} {l : List Party} {c : Cabin} (h : Rep r now l k c) : WhR l k c.wheel := ⟨h.wh, h.pin⟩
theorem rep_of {r : Rules} {now k : Int} {l : List Party} {c : Cabin} (h1 : ledgerOk c.seats = true) (h2 : RowR r now l k c.row) (h3 : WhR l k c.wheel) (h4 : c.seats.held = (l.map (heldW k)).sum) (h5 : c.seats.tied = (l.map (tiedW k)).sum) : Rep r now l k c :=
 ⟨h1, h2.ss, h2.mem, h3.ok, h3.mem, h4, h5⟩
theorem sum_cons {f : Party → Int} {l R : List Party} {p : Party} (h : l.Perm (p :: R)) : (l.map f).sum = f p + (R.map f).sum := by
 rw [sum_perm h, List.map_cons, List.sum_cons]
structure LP (l : Ledger) : Prop where
 total : 1 ≤ l.total ∧ l.total ≤ 60
 free : 0 ≤ l.free
 held : 0 ≤ l.held
 sold : 0 ≤ l.sold
 sum : l.free + l.held + l.sold = l.total
 tied : 0 ≤ l.tied ∧ l.tied ≤ l.sold
theorem ledgerOk_iff {l : Ledger} : ledgerOk l = true ↔ LP l := by
 unfold ledgerOk
 simp only [Bool.and_eq_true, inB, decide_eq_true_eq, beq_iff_eq]
 constructor
 · rintro ⟨⟨⟨⟨⟨h1, h2⟩, h3⟩, h4⟩, h5⟩, h6⟩
   rw [wr_of (x := l.free + l.held) (by omega) (by omega), wr_of (by omega) (by omega)] at h5
   exact ⟨h1, h2.1, h3.1, h4.1, h5, h6⟩
 · rintro ⟨h1, h2, h3, h4, h5, h6⟩
   refine ⟨⟨⟨⟨⟨h1, h2, by omega⟩, h3, by omega⟩, h4, by omega⟩, ?_⟩, h6⟩
   rw [wr_of (x := l.free + l.held) (by omega) (by omega), wr_of (by omega) (by omega)]; exact h5
def mvL (l : Ledger) (df dh ds dt : Int) : Ledger := ⟨l.total, wr (l.free + df), wr (l.held + dh), wr (l.sold + ds), wr (l.tied + dt)⟩
def movedB (l : Ledger) (n df dh ds dt : Int) : Bool := ledgerOk l && inB n 0 60 && ledgerOk (mvL l df dh ds dt)
def movedL (l : Ledger) (n df dh ds dt : Int) : Ledger := if movedB l n df dh ds dt then mvL l df dh ds dt else l
def lHold (l : Ledger) (n : Int) : Ledger := movedL l n (-n) n 0 0
def lDrop (l : Ledger) (n : Int) : Ledger := movedL l n n (-n) 0 0
def lSell (l : Ledger) (n : Int) : Ledger := movedL l n 0 (-n) n 0
def lFree (l : Ledger) (n : Int) : Ledger := movedL l n n 0 (-n) 0
def lTie (l : Ledger) (n : Int) : Ledger := movedL l n 0 0 0 n
def lUntie (l : Ledger) (n : Int) : Ledger := movedL l n 0 0 0 (-n)
theorem movedL_of {l : Ledger} {n df dh ds dt : Int} (h : LP l) (hn : 0 ≤ n ∧ n ≤ 60) (h2 : LP ⟨l.total, l.free + df, l.held + dh, l.sold + ds, l.tied + dt⟩) : movedL l n df dh ds dt = ⟨l.total, l.free + df, l.held + dh, l.sold + ds, l.tied + dt⟩ := by
 have a1 := h2.free; have a2 := h2.held; have a3 := h2.sold; have a4 := h2.tied; have a5 := h2.sum; have a6 := h2.total
 dsimp only at a1 a2 a3 a4 a5 a6
 have he : mvL l df dh ds dt = ⟨l.total, l.free + df, l.held + dh, l.sold + ds, l.tied + dt⟩ := by
  unfold mvL
  rw [wr_of (x := l.free + df) (by omega) (by omega), wr_of (x := l.held + dh) (by omega) (by omega), wr_of (x := l.sold + ds) (by omega) (by omega), wr_of (x := l.tied + dt) (by omega) (by omega)]
 have hb : movedB l n df dh ds dt = true := by
  unfold movedB
  rw [he, ledgerOk_iff.2 h, ledgerOk_iff.2 h2]
  simp only [inB, Bool.true_and, Bool.and_true, Bool.and_eq_true, decide_eq_true_eq]
  exact hn
 rw [movedL, if_pos hb, he]
theorem entryOk_st {r : Rules} {p : Party} {now : Int} (h : partyOk r p now = true) : entryOk r p now = true ↔ p.state = 1 := by
 have := level_rng h
 simp only [entryOk, Bool.and_eq_true, Bool.not_eq_true', decide_eq_false_iff_not, beq_iff_eq]
 exact ⟨fun w => w.2, fun w => ⟨by omega, w⟩⟩
theorem Good.fresh {r : Rules} {now : Int} {p : Party} {l : List Party} (g : Good r now (p :: l)) : p.turn ∉ l.map (·.turn) ∧ p.id ∉ l.map (·.id) := by
 have h1 := g.ids; have h2 := g.turns
 rw [List.map_cons, List.nodup_cons] at h1 h2
 exact ⟨h2.1, h1.1⟩
theorem RowR.del' {r : Rules} {now k : Int} {p : Party} {l : List Party} {row : List Entry} (g : Good r now (p :: l)) (h : RowR r now (p :: l) k row) : RowR r now l k (if p.state = 1 ∧ p.cabin = k then queueCut row p.id else row) := by
 have hp := entryOk_st (g.pok (p := p) (by simp))
 split
 · rename_i hc; exact h.del g (hp.2 hc.1) hc.2
 · rename_i hc; exact (RowR.skip fun w => hc ⟨hp.1 w.1, w.2⟩).1 h
theorem RowR.add' {r : Rules} {now k : Int} {p : Party} {l : List Party} {row : List Entry} (g : Good r now (p :: l)) (h : RowR r now l k row) : RowR r now (p :: l) k (if p.state = 1 ∧ p.cabin = k then qIns row (entryOf r p now) else row) := by
 have hp := entryOk_st (g.pok (p := p) (by simp))
 split
 · rename_i hc; exact h.add g.fresh.1 (hp.2 hc.1) hc.2
 · rename_i hc; exact (RowR.skip fun w => hc ⟨hp.1 w.1, w.2⟩).2 h
theorem WhR.del' {r : Rules} {now k : Int} {p : Party} {l : List Party} {wh : Wheel} (g : Good r now (p :: l)) (h : WhR (p :: l) k wh) : WhR l k (if p.state = 2 ∧ p.cabin = k then wheelCut wh ⟨p.until', p.id⟩ else wh) := by
 split
 · rename_i hc; exact h.del (r := r) (now := now) g.fresh.2 hc.1 hc.2
 · rename_i hc; exact (WhR.skip hc).1 h
theorem pinR_of {r : Rules} {now : Int} {p : Party} (g : PR r now p) (rr : RR r) (hn : 0 ≤ now ∧ now ≤ 1000000) (hs : p.state = 2) : PinR ⟨p.until', p.id⟩ := by
 have h1 := g.id0; have h2 := g.id1; have h3 := g.st; have h4 := rr.window
 unfold PinR
 simp only [inB, Bool.and_eq_true, decide_eq_true_eq]
 omega
theorem WhR.add' {r : Rules} {now k : Int} {p : Party} {l : List Party} {wh : Wheel} (g : Good r now (p :: l)) (hc : cnt (p :: l) k ≤ 10) (h : WhR l k wh) : WhR (p :: l) k (if p.state = 2 ∧ p.cabin = k then wheelPut wh ⟨p.until', p.id⟩ else wh) := by
 split
 · rename_i h1
   have h2 := pins_le h g.tail.ids
   rw [cnt_cons, if_pos h1.2] at hc
   have := h.add (r := r) (now := now) g.fresh.2 (pinR_of (g.ok p (by simp)) (rr_of g.rules) g.nw h1.1) h1.1 h1.2 (by omega)
   rw [this.2]; exact this.1
 · rename_i h1; exact (WhR.skip h1).2 h
theorem heldW_nn {r : Rules} {now k : Int} {p : Party} (g : PR r now p) : 0 ≤ heldW k p ∧ heldW k p ≤ 6 := by
 have := g.size
 unfold heldW; split <;> omega
theorem tiedW_nn {r : Rules} {now k : Int} {p : Party} (g : PR r now p) : 0 ≤ tiedW k p ∧ tiedW k p ≤ 6 := by
 have := g.size
 unfold tiedW; split <;> omega
theorem held_ge {r : Rules} {now k : Int} {p : Party} {l R : List Party} (g : Good r now l) (h : l.Perm (p :: R)) : heldW k p ≤ (l.map (heldW k)).sum ∧ tiedW k p ≤ (l.map (tiedW k)).sum := by
 have g2 := g.perm h
 rw [sum_cons h, sum_cons h]
 have h1 := sum_nn (f := heldW k) (l := R) fun q hq => (heldW_nn (g2.ok q (by simp [hq]))).1
 have h2 := sum_nn (f := tiedW k) (l := R) fun q hq => (tiedW_nn (g2.ok q (by simp [hq]))).1
 omega
def KT (a b : Int × Int) : Prop := a.1 ≠ b.1 ∧ ¬ (a.1 < b.1 ∧ b.2 < a.2) ∧ ¬ (b.1 < a.1 ∧ a.2 < b.2)
theorem kk_map {l : List Party} : l.Pairwise KK ↔ (l.map fun p => (p.turn, p.since)).Pairwise KT := by
 rw [List.pairwise_map]; exact Iff.rfl
theorem ids_map {l : List Party} : (l.Pairwise fun a b => a.id < b.id) ↔ (l.map (·.id)).Pairwise (· < ·) := by
 rw [List.pairwise_map]
theorem PPs.nodup {h : House} (hp : PPs h) : (h.parties.map (·.id)).Nodup := by
 rw [List.Nodup, List.pairwise_map]
 exact hp.ids.imp fun h => by omega
theorem PPs.put {h h' : House} {p q : Party} (hp : PPs h) (hm : p ∈ h.parties) (hq : partyOk h.rules q h.now = true) (k1 : q.id = p.id) (k2 : q.turn = p.turn) (k3 : q.since = p.since) (e1 : h'.rules = h.rules) (e2 : h'.now = h.now) (e3 : h.turn ≤ h'.turn) (e4 : h'.parties = partyPut h.parties q) : PPs h' := by
 have hper := partyPut_perm hp.nodup hm k1
 refine ⟨fun x hx => ?_, ?_, ?_⟩
 · rw [e1, e2]
   rw [e4, hper.mem_iff] at hx
   rcases List.mem_cons.1 hx with rfl | hx
   · exact ⟨hq, by have := (hp.ok p hm).2; omega⟩
   · have := hp.ok x ((partyCut_sub _ _).subset hx)
     exact ⟨this.1, by omega⟩
 · rw [e4, ids_map, partyPut_same hp.nodup hm k1 k1, ← ids_map]; exact hp.ids
 · rw [e4, kk_map, partyPut_same hp.nodup hm k1 (by rw [k2, k3]), ← kk_map]; exact hp.kk
theorem PPs.cut {h h' : House} {id : Int} (hp : PPs h) (e1 : h'.rules = h.rules) (e2 : h'.now = h.now) (e3 : h.turn ≤ h'.turn) (e4 : h'.parties = partyCut h.parties id) : PPs h' := by
 refine ⟨fun x hx => ?_, ?_, ?_⟩
 · rw [e4] at hx
   have := hp.ok x ((partyCut_sub _ _).subset hx)
   rw [e1, e2]; exact ⟨this.1, by omega⟩
 · rw [e4]; exact hp.ids.sublist (partyCut_sub _ _)
 · rw [e4]; exact hp.kk.sublist (partyCut_sub _ _)
theorem idOrd : Ord idLess := by
 constructor <;> intros <;> simp only [idLess, decide_eq_true_eq, decide_eq_false_iff_not] at * <;> omega
theorem atId_none {l : List Party} {id : Int} (h : atId l id < 0) : ∀ p ∈ l, p.id ≠ id := by
 intro p hp he
 have : ∀ (m : List Party) (n : Nat), p ∈ m → 0 ≤ idxF (fun e : Party => e.id == id) m n := by
  intro m
  induction m with
  | nil => intro n h; exact absurd h List.not_mem_nil
  | cons y m ih =>
    intro n h
    unfold idxF
    split
    · omega
    · rename_i hne
      rcases List.mem_cons.1 h with rfl | h
      · simp [he] at hne
      · exact ih (n + 1) h
 have := this l 0 hp
 unfold atId at h; omega
theorem PPs.join {h h' : House} {q : Party} (hp : PPs h) (hq : partyOk h.rules q h.now = true) (hno : atId h.parties q.id < 0) (k2 : q.turn = h.turn) (k3 : q.since = h.now) (e1 : h'.rules = h.rules) (e2 : h'.now = h.now) (e3 : h'.turn = h.turn + 1) (e4 : h'.parties = partyPut h.parties q) : PPs h' := by
 rw [partyPut_new hno] at e4
 have hno := atId_none hno
 have hper := insL_perm (lt := idLess) q h.parties
 refine ⟨fun x hx => ?_, ?_, ?_⟩
 · rw [e1, e2]
   rw [e4, insL_iff] at hx
   rcases hx with rfl | hx
   · exact ⟨hq, by omega⟩
   · have := hp.ok x hx
     exact ⟨this.1, by omega⟩
 · rw [e4]
   have hs : SS idLess h.parties := hp.ids.imp fun h => by simpa [idLess] using h
   have := ss_ins idOrd (e := q) hs fun y hy => by
    have := hno y hy
    simp only [idLess, decide_eq_true_eq]; omega
   exact this.imp fun h => by simpa [idLess] using h
 · rw [e4, hper.pairwise_iff (fun h => KK.symm h)]
   refine List.pairwise_cons.2 ⟨fun x hx => ?_, hp.kk⟩
   have h1 := hp.ok x hx
   have h2 := (partyOk_iff.1 h1.1).2.2.since
   unfold KK
   omega
theorem jobsP_of_eq {h h' : House} (hj : JobsP h) (e1 : h'.rules = h.rules) (e5 : h'.cabins.length = h.cabins.length) (e6 : h'.todo = h.todo) (e7 : h'.jobs = h.jobs) : JobsP h' := by
 unfold JobsP at *
 rw [e1, e5, e6, e7]; exact hj
theorem HRep.room {h : House} (hp : HRep h) {k : Nat} {c : Cabin} (hc : h.cabins[k]? = some c) : cnt h.parties k ≤ 10 := by
 have h1 := (hp.cab k c hc).2.2
 have h2 := (rr_of hp.rules).room
 omega
theorem HRep.step {h h' : House} (hp : HRep h) (e1 : h'.rules = h.rules) (e2 : h'.now = h.now) (e3 : 1 ≤ h'.turn ∧ h'.turn ≤ 1000001) (e4 : h'.parties.length ≤ 40) (e5 : h'.cabins.length = h.cabins.length) (e6 : PPs h') (e7 : JobsP h')
 (e8 : ∀ (k : Nat) (c c' : Cabin), h.cabins[k]? = some c → h'.cabins[k]? = some c' → c'.seats.total = c.seats.total ∧ Rep h.rules h.now h'.parties k c' ∧ (cnt h'.parties k : Int) ≤ h.rules.room) : HRep h' := by
 refine ⟨by rw [e1]; exact hp.rules, by rw [e2]; exact hp.now, e3, e4, by rw [e5, e1]; exact hp.cabs, e6, e7, fun k c' hc' => ?_⟩
 have hlt : k < h.cabins.length := by have := (List.getElem?_eq_some_iff.1 hc').1; omega
 have hc := List.getElem?_eq_getElem hlt
 obtain ⟨g1, g2, g3⟩ := e8 k _ c' hc hc'
 have := hp.cab k _ hc
 rw [e1, e2, g1]
 exact ⟨this.1, g2, g3⟩
theorem HRep.swap {h h' : House} {p q : Party} (hp : HRep h) (hm : p ∈ h.parties) (hq : PR h.rules h.now q) (k1 : q.id = p.id) (k2 : q.turn = p.turn) (k3 : q.since = p.since) (k4 : q.cabin = p.cabin) (k5 : q.from' = p.from') (k6 : q.size = p.size)
 (e1 : h'.rules = h.rules) (e2 : h'.now = h.now) (e3 : h'.turn = h.turn) (e4 : h'.parties = partyPut h.parties q) (e5 : h'.cabins.length = h.cabins.length) (e6 : h'.todo = h.todo) (e7 : h'.jobs = h.jobs)
 (cab : ∀ (k : Nat) (c c' : Cabin), h.cabins[k]? = some c → h'.cabins[k]? = some c' → LP c.seats → heldW k p ≤ c.seats.held →
   c'.row = (if q.state = 1 ∧ q.cabin = k then qIns (if p.state = 1 ∧ p.cabin = k then queueCut c.row p.id else c.row) (entryOf h.rules q h.now) else (if p.state = 1 ∧ p.cabin = k then queueCut c.row p.id else c.row)) ∧
   c'.wheel = (if q.state = 2 ∧ q.cabin = k then wheelPut (if p.state = 2 ∧ p.cabin = k then wheelCut c.wheel ⟨p.until', p.id⟩ else c.wheel) ⟨q.until', q.id⟩ else (if p.state = 2 ∧ p.cabin = k then wheelCut c.wheel ⟨p.until', p.id⟩ else c.wheel)) ∧
   LP c'.seats ∧ c'.seats.total = c.seats.total ∧ c'.seats.held = c.seats.held - heldW k p + heldW k q ∧ c'.seats.tied = c.seats.tied) : HRep h' := by
 have g := hp.good
 have hqok : partyOk h.rules q h.now = true := partyOk_iff.2 ⟨hp.rules, hp.now, hq⟩
 have hpp : PPs h' := hp.pps.put hm hqok k1 k2 k3 e1 e2 (by omega) e4
 have hl := partyCut_perm g.ids hm
 have hl' := partyPut_perm g.ids hm k1
 have gp := g.perm hl
 have hlen : h'.parties.length ≤ 40 := by
  rw [e4, hl'.length_eq, List.length_cons]
  have h1 := hl.length_eq; have h2 := hp.len
  rw [List.length_cons] at h1; omega
 have gq : Good h.rules h.now (q :: partyCut h.parties p.id) := by
  have := hpp.good (by rw [e1]; exact hp.rules) (by rw [e2]; exact hp.now) hlen
  rw [e1, e2, e4] at this
  exact this.perm hl'
 have hcnt : ∀ k : Int, cnt h'.parties k = cnt h.parties k := by
  intro k
  rw [e4, cnt_perm hl', cnt_perm hl, cnt_cons, cnt_cons, k4]
 refine hp.step e1 e2 (by rw [e3]; exact hp.turn) hlen e5 hpp (jobsP_of_eq hp.jobs e1 e5 e6 e7) fun k c c' hc hc' => ?_
 have hr := (hp.cab k c hc).2.1
 have hge := held_ge (k := k) g hl
 rw [← hr.held, ← hr.tied] at hge
 obtain ⟨c1, c2, c3, c4, c5, c6⟩ := cab k c c' hc hc' (ledgerOk_iff.1 hr.led) hge.1
 have hroom := hp.room hc
 refine ⟨c4, rep_of (ledgerOk_iff.2 c3) ?_ ?_ ?_ ?_, by rw [hcnt]; exact (hp.cab k c hc).2.2⟩
 · rw [c1, e4]
   exact (((hr.rowR.perm hl).del' gp).add' gq).perm hl'.symm
 · rw [c2, e4]
   refine (((hr.whR.perm hl).del' gp).add' gq ?_).perm hl'.symm
   rw [← cnt_perm hl', ← e4, hcnt]; exact hroom
 · rw [c5, e4, sum_cons hl', hr.held, sum_cons hl]; omega
 · have ht : tiedW k q = tiedW k p := by unfold tiedW; rw [k5, k6]
   rw [c6, e4, sum_cons hl', hr.tied, sum_cons hl, ht]
theorem HRep.gone {h h' : House} {p : Party} (hp : HRep h) (hm : p ∈ h.parties)
 (e1 : h'.rules = h.rules) (e2 : h'.now = h.now) (e3 : h'.turn = h.turn) (e4 : h'.parties = partyCut h.parties p.id) (e5 : h'.cabins.length = h.cabins.length) (e6 : h'.todo = h.todo) (e7 : h'.jobs = h.jobs)
 (cab : ∀ (k : Nat) (c c' : Cabin), h.cabins[k]? = some c → h'.cabins[k]? = some c' → LP c.seats → heldW k p ≤ c.seats.held → tiedW k p ≤ c.seats.tied →
   c'.row = (if p.state = 1 ∧ p.cabin = k then queueCut c.row p.id else c.row) ∧
   c'.wheel = (if p.state = 2 ∧ p.cabin = k then wheelCut c.wheel ⟨p.until', p.id⟩ else c.wheel) ∧
   LP c'.seats ∧ c'.seats.total = c.seats.total ∧ c'.seats.held = c.seats.held - heldW k p ∧ c'.seats.tied = c.seats.tied - tiedW k p) : HRep h' := by
 have g := hp.good
 have hpp : PPs h' := hp.pps.cut e1 e2 (by omega) e4
 have hl := partyCut_perm g.ids hm
 have gp := g.perm hl
 have hlen : h'.parties.length ≤ 40 := by
  have h1 := hl.length_eq; have h2 := hp.len
  rw [List.length_cons] at h1; rw [e4]; omega
 have hcnt : ∀ k : Int, cnt h'.parties k ≤ cnt h.parties k := by
  intro k
  rw [e4, cnt_perm hl, cnt_cons]; omega
 refine hp.step e1 e2 (by rw [e3]; exact hp.turn) hlen e5 hpp (jobsP_of_eq hp.jobs e1 e5 e6 e7) fun k c c' hc hc' => ?_
 have hr := (hp.cab k c hc).2.1
 have hge := held_ge (k := k) g hl
 rw [← hr.held, ← hr.tied] at hge
 obtain ⟨c1, c2, c3, c4, c5, c6⟩ := cab k c c' hc hc' (ledgerOk_iff.1 hr.led) hge.1 hge.2
 refine ⟨c4, rep_of (ledgerOk_iff.2 c3) ?_ ?_ ?_ ?_, by have := hcnt k; have := (hp.cab k c hc).2.2; omega⟩
 · rw [c1, e4]; exact (hr.rowR.perm hl).del' gp
 · rw [c2, e4]; exact (hr.whR.perm hl).del' gp
 · rw [c5, e4, hr.held, sum_cons hl]; omega
 · rw [c6, e4, hr.tied, sum_cons hl]; omega
theorem HRep.join {h h' : House} {q : Party} (hp : HRep h) (hq : PR h.rules h.now q) (hno : atId h.parties q.id < 0) (k2 : q.turn = h.turn) (k3 : q.since = h.now) (hst : q.state = 1) (hfull : (cnt h.parties q.cabin : Int) < h.rules.room)
 (e1 : h'.rules = h.rules) (e2 : h'.now = h.now) (e3 : h'.turn = h.turn + 1) (e4 : h'.parties = partyPut h.parties q) (e5 : h'.cabins.length = h.cabins.length) (e6 : h'.todo = h.todo) (e7 : h'.jobs = h.jobs) (hlen : h'.parties.length ≤ 40)
 (cab : ∀ (k : Nat) (c c' : Cabin), h.cabins[k]? = some c → h'.cabins[k]? = some c' → LP c.seats →
   c'.row = (if q.cabin = k then qIns c.row (entryOf h.rules q h.now) else c.row) ∧ c'.wheel = c.wheel ∧
   LP c'.seats ∧ c'.seats.total = c.seats.total ∧ c'.seats.held = c.seats.held ∧ c'.seats.tied = c.seats.tied + tiedW k q) : HRep h' := by
 have g := hp.good
 have hqok : partyOk h.rules q h.now = true := partyOk_iff.2 ⟨hp.rules, hp.now, hq⟩
 have hpp : PPs h' := hp.pps.join hqok hno k2 k3 e1 e2 e3 e4
 have hl' : h'.parties.Perm (q :: h.parties) := by rw [e4, partyPut_new hno]; exact insL_perm _ _
 have hturn := hq.turn
 have hturn2 := hp.turn
 have gq : Good h.rules h.now (q :: h.parties) := by
  have := hpp.good (by rw [e1]; exact hp.rules) (by rw [e2]; exact hp.now) hlen
  rw [e1, e2] at this
  exact this.perm hl'
 refine hp.step e1 e2 (by omega) hlen e5 hpp (jobsP_of_eq hp.jobs e1 e5 e6 e7) fun k c c' hc hc' => ?_
 have hr := (hp.cab k c hc).2.1
 obtain ⟨c1, c2, c3, c4, c5, c6⟩ := cab k c c' hc hc' (ledgerOk_iff.1 hr.led)
 have hcnt : (cnt h'.parties k : Int) ≤ h.rules.room := by
  rw [cnt_perm hl', cnt_cons]
  have h9 := (hp.cab k c hc).2.2
  split
  · rename_i he; rw [he] at hfull; omega
  · omega
 refine ⟨c4, rep_of (ledgerOk_iff.2 c3) ?_ ?_ ?_ ?_, hcnt⟩
 · have := (hr.rowR.add' gq).perm hl'.symm
   rw [c1]
   simpa only [hst, true_and] using this
 · rw [c2]
   exact ((WhR.skip (p := q) (by rw [hst]; omega)).2 hr.whR).perm hl'.symm
 · have : heldW k q = 0 := by unfold heldW; rw [if_neg (by rw [hst]; omega)]
   rw [c5, sum_cons hl', hr.held, this]; omega
 · rw [c6, sum_cons hl', hr.tied]; omega
theorem HRep.ledger {h h' : House} (hp : HRep h) (e1 : h'.rules = h.rules) (e2 : h'.now = h.now) (e3 : h'.turn = h.turn) (e4 : h'.parties = h.parties) (e5 : h'.cabins.length = h.cabins.length) (e6 : h'.todo = h.todo) (e7 : h'.jobs = h.jobs)
 (cab : ∀ (k : Nat) (c c' : Cabin), h.cabins[k]? = some c → h'.cabins[k]? = some c' → LP c.seats → c'.row = c.row ∧ c'.wheel = c.wheel ∧ LP c'.seats ∧ c'.seats.total = c.seats.total ∧ c'.seats.held = c.seats.held ∧ c'.seats.tied = c.seats.tied) : HRep h' := by
 have hpp : PPs h' := ⟨by rw [e1, e2, e3, e4]; exact hp.pps.ok, by rw [e4]; exact hp.pps.ids, by rw [e4]; exact hp.pps.kk⟩
 refine hp.step e1 e2 (by rw [e3]; exact hp.turn) (by rw [e4]; exact hp.len) e5 hpp (jobsP_of_eq hp.jobs e1 e5 e6 e7) fun k c c' hc hc' => ?_
 have hr := (hp.cab k c hc).2.1
 obtain ⟨c1, c2, c3, c4, c5, c6⟩ := cab k c c' hc hc' (ledgerOk_iff.1 hr.led)
 rw [e4]
 refine ⟨c4, rep_of (ledgerOk_iff.2 c3) ?_ ?_ ?_ ?_, (hp.cab k c hc).2.2⟩
 · rw [c1]; exact hr.rowR
 · rw [c2]; exact hr.whR
 · rw [c5]; exact hr.held
 · rw [c6]; exact hr.tied
theorem JobsP.iff {h : House} : JobsP h ↔ (∀ x ∈ h.todo, inB x 0 (wr (h.cabins.length - 1)) = true) ∧ h.todo.Nodup ∧ (∀ x ∈ h.jobs, inB x (-1) (wr (h.cabins.length - 1)) = true) ∧ (h.jobs.length : Int) = h.rules.crew := by
 unfold JobsP
 constructor
 · rintro ⟨h1, h2, h3⟩
   refine ⟨fun x hx => ?_, ?_, h2, h3⟩
   · obtain ⟨i, hi⟩ := List.mem_iff_getElem?.1 hx
     exact (h1 i x hi).1
   · rw [List.Nodup, List.pairwise_iff_getElem]
     intro i j hi hj hij
     exact (h1 j _ (List.getElem?_eq_getElem hj)).2 i _ hij (List.getElem?_eq_getElem hi)
 · rintro ⟨h1, h2, h3, h4⟩
   refine ⟨fun i x hi => ⟨h1 x (List.mem_of_getElem? hi), fun j y hj hy => ?_⟩, h3, h4⟩
   obtain ⟨g1, e1⟩ := List.getElem?_eq_some_iff.1 hy
   obtain ⟨g2, e2⟩ := List.getElem?_eq_some_iff.1 hi
   have := (List.pairwise_iff_getElem.1 h2) j i g1 g2 hj
   rw [e1, e2] at this; exact this
theorem HRep.jobs' {h h' : House} (hp : HRep h) (e1 : h'.rules = h.rules) (e2 : h'.now = h.now) (e3 : h'.turn = h.turn) (e4 : h'.parties = h.parties) (e5 : h'.cabins = h.cabins) (hj : JobsP h') : HRep h' := by
 refine hp.step e1 e2 (by rw [e3]; exact hp.turn) (by rw [e4]; exact hp.len) (by rw [e5]) ⟨by rw [e1, e2, e3, e4]; exact hp.pps.ok, by rw [e4]; exact hp.pps.ids, by rw [e4]; exact hp.pps.kk⟩ hj fun k c c' hc hc' => ?_
 rw [e5, hc] at hc'
 injection hc' with hc'; subst hc'
 rw [e4]
 exact ⟨rfl, (hp.cab k c hc).2⟩
theorem HRep.eq {h : House} (hp : HRep h) : houseOk h = true := houseOk_t (houseP_iff.2 hp)
theorem hp_of {h : House} (hb : houseOk h = true) : HRep h := houseP_iff.1 (houseP_of hb)
def todoPut (l : List Int) (x : Int) : List Int := if l.any (fun e => e == x) then l else l ++ [x]
theorem todoPut_len (l : List Int) (x : Int) : (todoPut l x).length ≤ l.length + 1 := by unfold todoPut; split <;> simp
def Few (n : Nat) (l : List Int) : Prop := l.Nodup ∧ ∀ x ∈ l, 0 ≤ x ∧ x < (n : Int)
theorem Few.put {n : Nat} {l : List Int} {x : Int} (h : Few n l) (h0 : 0 ≤ x) (h1 : x < (n : Int)) : Few n (todoPut l x) := by
 unfold todoPut
 split
 · exact h
 · rename_i hx
   have hx' : x ∉ l := fun hm => hx (by rw [List.any_eq_true]; exact ⟨x, hm, by simp⟩)
   refine ⟨List.nodup_append.2 ⟨h.1, by simp, fun a ha b hb e => ?_⟩, fun y hy => ?_⟩
   · simp at hb; subst hb; subst e; exact hx' ha
   · rcases List.mem_append.1 hy with hy | hy
     · exact h.2 y hy
     · simp at hy; subst hy; exact ⟨h0, h1⟩
def modC (cs : List Cabin) (k : Int) (f : Cabin → Cabin) : List Cabin := match cs[k.toNat]? with
 | some c => cs.set k.toNat (f c)
 | none => cs
theorem modC_len (cs : List Cabin) (k : Int) (f : Cabin → Cabin) : (modC cs k f).length = cs.length := by
 unfold modC
 split
 · simp
 · rfl
theorem modC_of {cs : List Cabin} {k : Int} {c : Cabin} (f : Cabin → Cabin) (h : cs[k.toNat]? = some c) : modC cs k f = cs.set k.toNat (f c) := by simp [modC, h]
theorem modC_at {cs : List Cabin} {k : Int} {f : Cabin → Cabin} {i : Nat} {c : Cabin} (h0 : 0 ≤ k) (hc : cs[i]? = some c) : (modC cs k f)[i]? = some (if k = (i : Int) then f c else c) := by
 unfold modC
 by_cases hk : k = (i : Int)
 · subst hk
   rw [Int.toNat_natCast, hc]
   dsimp only
   rw [List.getElem?_set_self (List.getElem?_eq_some_iff.1 hc).1, if_pos rfl]
 · rw [if_neg hk]
   split
   · rw [List.getElem?_set_ne (by omega)]; exact hc
   · exact hc
theorem modC_modC {cs : List Cabin} {k : Int} {f g : Cabin → Cabin} : modC (modC cs k f) k g = modC cs k (fun c => g (f c)) := by
 cases hc : cs[k.toNat]? with
 | none =>
   have : ∀ f, modC cs k f = cs := fun f => by simp [modC, hc]
   rw [this, this, this]
 | some c =>
   rw [modC_of f hc, modC_of (c := f c), List.set_set, modC_of _ hc]
   rw [List.getElem?_set_self (List.getElem?_eq_some_iff.1 hc).1]
def seatsC (f : Ledger → Ledger) (c : Cabin) : Cabin := ⟨f c.seats, c.row, c.wheel⟩
noncomputable def dropC (p : Party) (c : Cabin) : Cabin := ⟨lDrop c.seats p.size, c.row, wheelCut c.wheel ⟨p.until', p.id⟩⟩
noncomputable def sellC (p : Party) (c : Cabin) : Cabin := ⟨lSell c.seats p.size, c.row, wheelCut c.wheel ⟨p.until', p.id⟩⟩
def rowPut (e : Entry) (c : Cabin) : Cabin := ⟨c.seats, qIns c.row e, c.wheel⟩
noncomputable def rowPutW (e : Entry) (c : Cabin) : Cabin := ⟨c.seats, queuePut c.row e, c.wheel⟩
def rowCut (id : Int) (c : Cabin) : Cabin := ⟨c.seats, queueCut c.row id, c.wheel⟩
noncomputable def holdC (p : Party) (u : Int) (c : Cabin) : Cabin := ⟨lHold c.seats p.size, queueCut c.row p.id, wheelPut c.wheel ⟨u, p.id⟩⟩
def goneM (h : House) (p : Party) : House := ⟨h.rules, h.now, h.turn, partyCut h.parties p.id, if p.from' < 0 then h.cabins else modC h.cabins p.from' (seatsC (lUntie · p.size)), h.todo, h.jobs⟩
noncomputable def dropM (h : House) (p : Party) : House := ⟨h.rules, h.now, h.turn, h.parties, modC h.cabins p.cabin (dropC p), h.todo, h.jobs⟩
def rowM' (h : House) (p : Party) : House := ⟨h.rules, h.now, h.turn, h.parties, modC h.cabins p.cabin (rowPut (entryOf h.rules p h.now)), h.todo, h.jobs⟩
def failedB (r : Rules) (p : Party) (now : Int) : Bool := partyOk r p now && p.state == 2 && !decide (wr (p.asked + 1) ≥ r.tries)
def failedP (r : Rules) (p : Party) (now : Int) : Party := ⟨p.id, p.cabin, p.from', p.size, p.tier, p.since, p.turn, 1, wr (now + r.rest), wr (p.asked + 1)⟩
def partyZ : Party := ⟨0, 0, 0, 0, 0, 0, 0, 0, 0, 0⟩
def failedX (r : Rules) (p : Party) (now : Int) : Party := if failedB r p now then failedP r p now else partyZ
noncomputable def failsM (h : House) (p : Party) : House :=
 if failedB h.rules p h.now then ⟨h.rules, h.now, h.turn, partyPut h.parties (failedP h.rules p h.now), modC h.cabins p.cabin (fun c => rowPut (entryOf h.rules (failedP h.rules p h.now) h.now) (dropC p c)), h.todo, h.jobs⟩
 else goneM (dropM h p) p
def withTodo (h : House) (l : List Int) : House := ⟨h.rules, h.now, h.turn, h.parties, h.cabins, l, h.jobs⟩
def freeM (h : House) (cabin n : Int) : House := ⟨h.rules, h.now, h.turn, h.parties, modC h.cabins cabin (seatsC (lFree · n)), todoPut h.todo cabin, h.jobs⟩
noncomputable def soldM (h : House) (p : Party) : House := ⟨h.rules, h.now, h.turn, h.parties, modC h.cabins p.cabin (sellC p), h.todo, h.jobs⟩
noncomputable def acceptM (h : House) (p : Party) : House := if p.from' < 0 then goneM (soldM h p) p else freeM (goneM (soldM h p) p) p.from' p.size
noncomputable def cancelM (h : House) (p : Party) : House :=
 if p.state = 2 then goneM (withTodo (dropM h p) (todoPut h.todo p.cabin)) p
 else goneM ⟨h.rules, h.now, h.turn, h.parties, modC h.cabins p.cabin (rowCut p.id), h.todo, h.jobs⟩ p
def offeredP (r : Rules) (p : Party) (now : Int) : Party := ⟨p.id, p.cabin, p.from', p.size, p.tier, p.since, p.turn, 2, wr (now + r.window), p.asked⟩
noncomputable def offerM (h : House) (p : Party) : House := ⟨h.rules, h.now, h.turn, partyPut h.parties (offeredP h.rules p h.now), modC h.cabins p.cabin (holdC p (wr (h.now + h.rules.window))), h.todo, h.jobs⟩
theorem wheelCut_no {w : Wheel} {p : Pin} (h : wheelOk w = false ∨ p.at' < 1) : wheelCut w p = w := by
 unfold wheelCut
 rw [if_neg]
 rcases h with h | h <;> simp [h]
theorem wheelCut_none {w : Wheel} {p : Pin} {l : List Pin} (hl : w.spoke[(Int.tmod p.at' 9).toNat]? = some l) (hn : pinAt l p < 0) : wheelCut w p = w := by
 unfold wheelCut
 split
 · rw [hl]; dsimp only; rw [if_pos hn]
 · rfl
theorem wheelCut_at {w : Wheel} {p : Pin} {l : List Pin} {k : Nat} (h1 : wheelOk w = true) (h2 : ¬ p.at' < 1) (hl : w.spoke[(Int.tmod p.at' 9).toNat]? = some l) (hk : pinAt l p = (k : Int)) : wheelCut w p = ⟨w.spoke.set (Int.tmod p.at' 9).toNat (cutAt l k)⟩ := by
 unfold wheelCut
 rw [if_pos (by simp [h1, h2]), hl]
 dsimp only
 rw [hk, if_neg (by omega), Int.toNat_natCast]
theorem wheelCut_len (w : Wheel) (p : Pin) : (wheelCut w p).spoke.length = w.spoke.length ∧ (wheelCut w p).spoke.flatten.length ≤ w.spoke.flatten.length := by
 unfold wheelCut
 split
 · split
   · rename_i l hl
     split
     · exact ⟨rfl, Nat.le_refl _⟩
     · dsimp only
       refine ⟨by simp, ?_⟩
       have := flat_set_len (cutAt l (pinAt l p).toNat) hl
       have h2 : (cutAt l (pinAt l p).toNat).length ≤ l.length := by simp only [cutAt, List.length_append, List.length_take, List.length_drop]; omega
       omega
   · exact ⟨rfl, Nat.le_refl _⟩
 · exact ⟨rfl, Nat.le_refl _⟩
theorem pin_skip {p y : Pin} {ys : List Pin} {k : Nat} (h : ((y.at' == p.at') && ((y.id == p.id) && true)) = false) : idxF (fun x : Pin => x.at' == p.at' && x.id == p.id) (y :: ys) k = idxF (fun x : Pin => x.at' == p.at' && x.id == p.id) ys (k + 1) := by
 rw [Bool.and_true] at h
 simp [idxF, h]
theorem pin_hit {p y : Pin} {ys : List Pin} {k : Nat} (h : ((y.at' == p.at') && ((y.id == p.id) && true)) = true) : idxF (fun x : Pin => x.at' == p.at' && x.id == p.id) (y :: ys) k = (k : Int) := by
 rw [Bool.and_true] at h
 simp [idxF, h]
theorem movedL_congr {l : Ledger} {n a1 a2 a3 a4 b1 b2 b3 b4 : Int} (h : inB n 0 60 = true → a1 = b1 ∧ a2 = b2 ∧ a3 = b3 ∧ a4 = b4) : movedL l n a1 a2 a3 a4 = movedL l n b1 b2 b3 b4 := by
 unfold movedL movedB
 cases hn : inB n 0 60 with
 | false => simp
 | true => obtain ⟨rfl, rfl, rfl, rfl⟩ := h hn; rfl
theorem turn_eq {l : Ledger} {n f1 f2 f3 f4 b1 b2 b3 b4 : Int} (h : 0 ≤ n ∧ n ≤ 60 → wr (f1 * n) = b1 ∧ wr (f2 * n) = b2 ∧ wr (f3 * n) = b3 ∧ wr (f4 * n) = b4) : movedL l n (wr (f1 * n)) (wr (f2 * n)) (wr (f3 * n)) (wr (f4 * n)) = movedL l n b1 b2 b3 b4 :=
 movedL_congr fun hn => h (by simpa [inB] using hn)
theorem turn_drop (l : Ledger) (n : Int) : movedL l n (wr (1 * n)) (wr (-1 * n)) (wr (0 * n)) (wr (0 * n)) = lDrop l n := turn_eq fun hn => by refine ⟨?_, ?_, ?_, ?_⟩ <;> rw [wr_of (by omega) (by omega)] <;> omega
theorem turn_hold (l : Ledger) (n : Int) : movedL l n (wr (-1 * n)) (wr (1 * n)) (wr (0 * n)) (wr (0 * n)) = lHold l n := turn_eq fun hn => by refine ⟨?_, ?_, ?_, ?_⟩ <;> rw [wr_of (by omega) (by omega)] <;> omega
theorem turn_sell (l : Ledger) (n : Int) : movedL l n (wr (0 * n)) (wr (-1 * n)) (wr (1 * n)) (wr (0 * n)) = lSell l n := turn_eq fun hn => by refine ⟨?_, ?_, ?_, ?_⟩ <;> rw [wr_of (by omega) (by omega)] <;> omega
theorem turn_free (l : Ledger) (n : Int) : movedL l n (wr (1 * n)) (wr (0 * n)) (wr (-1 * n)) (wr (0 * n)) = lFree l n := turn_eq fun hn => by refine ⟨?_, ?_, ?_, ?_⟩ <;> rw [wr_of (by omega) (by omega)] <;> omega
theorem turn_tie (l : Ledger) (n : Int) : movedL l n (wr (0 * n)) (wr (0 * n)) (wr (0 * n)) (wr (1 * n)) = lTie l n := turn_eq fun hn => by refine ⟨?_, ?_, ?_, ?_⟩ <;> rw [wr_of (by omega) (by omega)] <;> omega
theorem turn_untie (l : Ledger) (n : Int) : movedL l n (wr (0 * n)) (wr (0 * n)) (wr (0 * n)) (wr (-1 * n)) = lUntie l n := turn_eq fun hn => by refine ⟨?_, ?_, ?_, ?_⟩ <;> rw [wr_of (by omega) (by omega)] <;> omega
theorem partyCut_no {l : List Party} {id : Int} (h : atId l id < 0) : partyCut l id = l := by simp [partyCut, h]
theorem partyCut_at {l : List Party} {id : Int} (h : ¬ atId l id < 0) : partyCut l id = cutAt l (atId l id).toNat := by simp only [partyCut, if_neg h]
theorem heldW_no {k : Int} {p : Party} (h : ¬ (p.state = 2 ∧ p.cabin = k)) : heldW k p = 0 := by unfold heldW; rw [if_neg h]
theorem heldW_yes {k : Int} {p : Party} (h : p.state = 2 ∧ p.cabin = k) : heldW k p = p.size := by unfold heldW; rw [if_pos h]
theorem tiedW_no {k : Int} {p : Party} (h : p.from' ≠ k) : tiedW k p = 0 := by unfold tiedW; rw [if_neg h]
theorem tiedW_yes {k : Int} {p : Party} (h : p.from' = k) : tiedW k p = p.size := by unfold tiedW; rw [if_pos h]
theorem LP.drop {l : Ledger} {n : Int} (h : LP l) (hn : 0 ≤ n ∧ n ≤ 60) (hh : n ≤ l.held) : lDrop l n = ⟨l.total, l.free + n, l.held - n, l.sold, l.tied⟩ ∧ LP ⟨l.total, l.free + n, l.held - n, l.sold, l.tied⟩ := by
 have a1 := h.total; have a2 := h.free; have a3 := h.held; have a4 := h.sold; have a5 := h.sum; have a6 := h.tied
 have h2 : LP ⟨l.total, l.free + n, l.held + -n, l.sold + 0, l.tied + 0⟩ := by constructor <;> dsimp only <;> omega
 have := movedL_of h hn h2
 simp only [Int.add_zero, ← Int.sub_eq_add_neg] at this h2
 exact ⟨this, h2⟩
theorem LP.hold {l : Ledger} {n : Int} (h : LP l) (hn : 0 ≤ n ∧ n ≤ 60) (hh : n ≤ l.free) : lHold l n = ⟨l.total, l.free - n, l.held + n, l.sold, l.tied⟩ ∧ LP ⟨l.total, l.free - n, l.held + n, l.sold, l.tied⟩ := by
 have a1 := h.total; have a2 := h.free; have a3 := h.held; have a4 := h.sold; have a5 := h.sum; have a6 := h.tied
 have h2 : LP ⟨l.total, l.free + -n, l.held + n, l.sold + 0, l.tied + 0⟩ := by constructor <;> dsimp only <;> omega
 have := movedL_of h hn h2
 simp only [Int.add_zero, ← Int.sub_eq_add_neg] at this h2
 exact ⟨this, h2⟩
theorem LP.sell {l : Ledger} {n : Int} (h : LP l) (hn : 0 ≤ n ∧ n ≤ 60) (hh : n ≤ l.held) : lSell l n = ⟨l.total, l.free, l.held - n, l.sold + n, l.tied⟩ ∧ LP ⟨l.total, l.free, l.held - n, l.sold + n, l.tied⟩ := by
 have a1 := h.total; have a2 := h.free; have a3 := h.held; have a4 := h.sold; have a5 := h.sum; have a6 := h.tied
 have h2 : LP ⟨l.total, l.free + 0, l.held + -n, l.sold + n, l.tied + 0⟩ := by constructor <;> dsimp only <;> omega
 have := movedL_of h hn h2
 simp only [Int.add_zero, ← Int.sub_eq_add_neg] at this h2
 exact ⟨this, h2⟩
theorem LP.untie {l : Ledger} {n : Int} (h : LP l) (hn : 0 ≤ n ∧ n ≤ 60) (hh : n ≤ l.tied) : lUntie l n = ⟨l.total, l.free, l.held, l.sold, l.tied - n⟩ ∧ LP ⟨l.total, l.free, l.held, l.sold, l.tied - n⟩ := by
 have a1 := h.total; have a2 := h.free; have a3 := h.held; have a4 := h.sold; have a5 := h.sum; have a6 := h.tied
 have h2 : LP ⟨l.total, l.free + 0, l.held + 0, l.sold + 0, l.tied + -n⟩ := by constructor <;> dsimp only <;> omega
 have := movedL_of h hn h2
 simp only [Int.add_zero, ← Int.sub_eq_add_neg] at this h2
 exact ⟨this, h2⟩
theorem LP.tie {l : Ledger} {n : Int} (h : LP l) (hn : 0 ≤ n ∧ n ≤ 60) (hh : n ≤ l.sold - l.tied) : lTie l n = ⟨l.total, l.free, l.held, l.sold, l.tied + n⟩ ∧ LP ⟨l.total, l.free, l.held, l.sold, l.tied + n⟩ := by
 have a1 := h.total; have a2 := h.free; have a3 := h.held; have a4 := h.sold; have a5 := h.sum; have a6 := h.tied
 have h2 : LP ⟨l.total, l.free + 0, l.held + 0, l.sold + 0, l.tied + n⟩ := by constructor <;> dsimp only <;> omega
 have := movedL_of h hn h2
 simp only [Int.add_zero, ← Int.sub_eq_add_neg] at this h2
 exact ⟨this, h2⟩
theorem LP.free' {l : Ledger} {n : Int} (h : LP l) (hn : 0 ≤ n ∧ n ≤ 60) (hh : n ≤ l.sold - l.tied) : lFree l n = ⟨l.total, l.free + n, l.held, l.sold - n, l.tied⟩ ∧ LP ⟨l.total, l.free + n, l.held, l.sold - n, l.tied⟩ := by
 have a1 := h.total; have a2 := h.free; have a3 := h.held; have a4 := h.sold; have a5 := h.sum; have a6 := h.tied
 have h2 : LP ⟨l.total, l.free + n, l.held + 0, l.sold + -n, l.tied + 0⟩ := by constructor <;> dsimp only <;> omega
 have := movedL_of h hn h2
 simp only [Int.add_zero, ← Int.sub_eq_add_neg] at this h2
 exact ⟨this, h2⟩
theorem HRep.pr {h : House} (hp : HRep h) {p : Party} (hm : p ∈ h.parties) : PR h.rules h.now p := hp.good.ok p hm
theorem failed_iff {r : Rules} {p : Party} {now : Int} (hr : rulesOk r = true) (hn : 0 ≤ now ∧ now ≤ 1000000) (g : PR r now p) (hs : p.state = 2) : failedB r p now = true ↔ p.asked + 1 < r.tries := by
 have rr := rr_of hr
 have h1 := g.asked; have h2 := rr.tries
 have h3 : partyOk r p now = true := partyOk_iff.2 ⟨hr, hn, g⟩
 simp only [failedB, h3, hs, beq_self_eq_true, Bool.true_and, Bool.not_eq_true', decide_eq_false_iff_not, ge_iff_le, Int.not_le]
 rw [wr_of (by omega) (by omega)]
theorem failedP_pr {r : Rules} {p : Party} {now : Int} (hr : rulesOk r = true) (hn : 0 ≤ now ∧ now ≤ 1000000) (g : PR r now p) (hf : p.asked + 1 < r.tries) : PR r now (failedP r p now) := by
 have rr := rr_of hr
 have h1 := g.asked; have h2 := rr.tries; have h3 := rr.rest
 have e1 : wr (p.asked + 1) = p.asked + 1 := wr_of (by omega) (by omega)
 have e2 : wr (now + r.rest) = now + r.rest := wr_of (by omega) (by omega)
 exact ⟨g.id0, g.id1, g.cab, g.frm, g.ne, g.size, g.tier, g.since, g.turn, by unfold failedP; dsimp only; rw [e1]; omega, by unfold failedP; dsimp only; rw [e2]; omega⟩
theorem offeredP_pr {r : Rules} {p : Party} {now : Int} (hr : rulesOk r = true) (hn : 0 ≤ now ∧ now ≤ 1000000) (g : PR r now p) : PR r now (offeredP r p now) := by
 have rr := rr_of hr
 have h3 := rr.window
 have e2 : wr (now + r.window) = now + r.window := wr_of (by omega) (by omega)
 exact ⟨g.id0, g.id1, g.cab, g.frm, g.ne, g.size, g.tier, g.since, g.turn, g.asked, by unfold offeredP; dsimp only; rw [e2]; omega⟩
theorem goneDrop_hp {h : House} {p : Party} (hp : HRep h) (hm : p ∈ h.parties) (hs : p.state = 2) : HRep (goneM (dropM h p) p) := by
 have g := hp.pr hm
 have gs := g.size; have gc := g.cab; have gf := g.frm; have gn := g.ne
 refine hp.gone hm rfl rfl rfl rfl ?_ rfl rfl fun k c c' hc hc' hl hh ht => ?_
 · unfold goneM dropM
   dsimp only
   split <;> simp only [modC_len]
 · have h1 : (modC h.cabins p.cabin (dropC p))[k]? = some (if p.cabin = (k : Int) then dropC p c else c) := modC_at gc.1 hc
   have h2 : c' = if p.from' = (k : Int) then seatsC (lUntie · p.size) (if p.cabin = (k : Int) then dropC p c else c) else (if p.cabin = (k : Int) then dropC p c else c) := by
    unfold goneM dropM at hc'
    dsimp only at hc'
    split at hc'
    · rename_i hneg
      rw [if_neg (by omega)]
      rw [h1] at hc'; injection hc' with hc'; exact hc'.symm
    · rw [modC_at (by omega) h1] at hc'; injection hc' with hc'; exact hc'.symm
   rw [h2]
   by_cases hk : p.cabin = (k : Int)
   · have hf : ¬ p.from' = (k : Int) := by omega
     rw [if_pos hk, if_neg hf, if_neg (by omega), if_pos ⟨hs, hk⟩, heldW_yes ⟨hs, hk⟩, tiedW_no hf]
     rw [heldW_yes ⟨hs, hk⟩] at hh
     obtain ⟨e1, e2⟩ := hl.drop (n := p.size) (by omega) hh
     unfold dropC
     dsimp only
     rw [e1]
     exact ⟨rfl, rfl, e2, rfl, rfl, by dsimp only; omega⟩
   · rw [if_neg hk, if_neg (c := p.state = 1 ∧ p.cabin = (k : Int)) (fun w => hk w.2), if_neg (c := p.state = 2 ∧ p.cabin = (k : Int)) (fun w => hk w.2), heldW_no fun w => hk w.2]
     by_cases hf : p.from' = (k : Int)
     · rw [if_pos hf, tiedW_yes hf]
       rw [tiedW_yes hf] at ht
       obtain ⟨e1, e2⟩ := hl.untie (n := p.size) (by omega) ht
       unfold seatsC
       dsimp only
       rw [e1]
       exact ⟨rfl, rfl, e2, rfl, by dsimp only; omega, rfl⟩
     · rw [if_neg hf, tiedW_no hf]
       exact ⟨rfl, rfl, hl, rfl, by omega, by omega⟩
theorem fails_hp {h : House} {p : Party} (hp : HRep h) (hm : p ∈ h.parties) (hs : p.state = 2) : HRep (failsM h p) := by
 have g := hp.pr hm
 unfold failsM
 split
 · rename_i hf
   rw [failed_iff hp.rules hp.now g hs] at hf
   have gs := g.size; have gc := g.cab
   refine hp.swap (q := failedP h.rules p h.now) hm (failedP_pr hp.rules hp.now g hf) rfl rfl rfl rfl rfl rfl rfl rfl rfl rfl (modC_len _ _ _) rfl rfl fun k c c' hc hc' hl hh => ?_
   dsimp only at hc'
   rw [modC_at gc.1 hc] at hc'
   injection hc' with hc'
   subst hc'
   have q1 : (failedP h.rules p h.now).state = 1 := rfl
   have q2 : (failedP h.rules p h.now).cabin = p.cabin := rfl
   rw [q1, q2, hs]
   have hq : heldW (k : Int) (failedP h.rules p h.now) = 0 := heldW_no fun w => by rw [q1] at w; omega
   rw [hq]
   by_cases hk : p.cabin = (k : Int)
   · rw [if_pos hk, if_pos ⟨rfl, hk⟩, if_neg (by omega), if_neg (by omega), if_pos ⟨rfl, hk⟩, heldW_yes ⟨hs, hk⟩]
     rw [heldW_yes ⟨hs, hk⟩] at hh
     obtain ⟨e1, e2⟩ := hl.drop (n := p.size) (by omega) hh
     unfold rowPut dropC
     dsimp only
     rw [e1]
     exact ⟨rfl, rfl, e2, rfl, by dsimp only; omega, rfl⟩
   · rw [if_neg hk, if_neg (fun w => hk w.2), if_neg (fun w => hk w.2), if_neg (fun w => hk w.2), if_neg (fun w => hk w.2), heldW_no fun w => hk w.2]
     exact ⟨rfl, rfl, hl, rfl, by omega, rfl⟩
 · exact goneDrop_hp hp hm hs
theorem offer_hp {h : House} {p : Party} {c : Cabin} (hp : HRep h) (hm : p ∈ h.parties) (hs : p.state = 1) (hc : h.cabins[p.cabin.toNat]? = some c) (hfit : p.size ≤ c.seats.free) : HRep (offerM h p) := by
 have g := hp.pr hm
 have gs := g.size; have gc := g.cab
 refine hp.swap (q := offeredP h.rules p h.now) hm (offeredP_pr hp.rules hp.now g) rfl rfl rfl rfl rfl rfl rfl rfl rfl rfl (modC_len _ _ _) rfl rfl fun k d d' hd hd' hl hh => ?_
 unfold offerM at hd'
 dsimp only at hd'
 rw [modC_at gc.1 hd] at hd'
 injection hd' with hd'
 subst hd'
 have q1 : (offeredP h.rules p h.now).state = 2 := rfl
 have q2 : (offeredP h.rules p h.now).cabin = p.cabin := rfl
 have q3 : (offeredP h.rules p h.now).size = p.size := rfl
 rw [q1, q2, hs, heldW_no (p := p) (fun w => by omega)]
 by_cases hk : p.cabin = (k : Int)
 · rw [if_pos hk, if_neg (by omega), if_pos ⟨rfl, hk⟩, if_pos ⟨rfl, hk⟩, if_neg (by omega), heldW_yes (p := offeredP h.rules p h.now) ⟨q1, hk⟩, q3]
   have hkn : p.cabin.toNat = k := by omega
   rw [hkn, hd] at hc
   injection hc with hc
   subst hc
   obtain ⟨e1, e2⟩ := hl.hold (n := p.size) (by omega) hfit
   unfold holdC
   dsimp only
   rw [e1]
   exact ⟨rfl, rfl, e2, rfl, by dsimp only; omega, rfl⟩
 · rw [if_neg hk, if_neg (fun w => hk w.2), if_neg (fun w => hk w.2), if_neg (fun w => hk w.2), if_neg (fun w => hk w.2), heldW_no (p := offeredP h.rules p h.now) fun w => hk w.2]
   exact ⟨rfl, rfl, hl, rfl, by omega, rfl⟩
end SX
end Go.Proofs.YtejojcoaohlfbaaGreat
