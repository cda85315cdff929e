/- Texts of this claim, put together by program. -/
import Derived.Test.YtejojcoaohlfbaaGreatSx9
/- What comes of all offers that are accepted; a scan that is judged; rounds that leave nobody late; in plain Lean. It imports no program. -/
namespace Go.Proofs.YtejojcoaohlfbaaGreat
namespace SX
set_option linter.unusedVariables false
set_option linter.unusedSimpArgs false
open Go Go.RowKit
theorem atId_mem {l : List Party} {p : Party} (hm : p ∈ l) : ¬ atId l p.id < 0 := fun h => atId_none h p hm rfl
/-! ### A scan that is judged -/
theorem skipGo_in {now : Int} {p : Party} : ∀ {l : List Party}, p ∈ l → restingB p now = true → p.id ∈ skipGo now l
  | q :: ps, h, hr => by
    unfold skipGo
    rcases List.mem_cons.1 h with rfl | h
    · rw [if_pos hr]; simp
    · split
      · exact List.mem_cons_of_mem _ (skipGo_in h hr)
      · exact skipGo_in h hr
theorem fit_party {h : House} {cabin : Int} {c : Cabin} {p : Party} (hp : HRep h) (hc : h.cabins[cabin.toNat]? = some c) (hm : p ∈ h.parties) (ho : entryOk h.rules p h.now = true) (hk : p.cabin = cabin) :
    fitE c.seats.free (skipGo h.now h.parties) (entryOf h.rules p h.now) = fitsB h cabin p := by
  have hs : p.state = 1 := (entryOk_st (hp.good.pok hm)).1 ho
  have e1 : (entryOf h.rules p h.now).size = p.size := by simp [entryOf, ho]
  have e2 : (entryOf h.rules p h.now).id = p.id := by simp [entryOf, ho]
  have e3 : (skipGo h.now h.parties).any (fun y => y == p.id) = restingB p h.now := by
    cases hr : restingB p h.now with
    | true => exact List.any_eq_true.2 ⟨p.id, skipGo_in hm hr, by simp⟩
    | false =>
      rw [List.any_eq_false]
      intro y hy hyq
      obtain ⟨z, hz, hz1, hz2⟩ := skipGo_mem hy
      have := hp.good.one hz hm (by simp at hyq; omega)
      subst this
      rw [hr] at hz1; cases hz1
  unfold fitE fitsB
  rw [e1, e2, e3, freeAt_of hc, hk, hs]
  simp [Bool.and_comm]
theorem row_of {h : House} {cabin : Int} {c : Cabin} (hp : HRep h) (h0 : 0 ≤ cabin) (hc : h.cabins[cabin.toNat]? = some c) (e : Entry) : e ∈ c.row ↔ rowM h.rules h.now h.parties cabin e := by
  have := (hp.cab _ c hc).2.1.row e
  rwa [show ((cabin.toNat : Nat) : Int) = cabin by omega] at this
theorem fit_next {h : House} {cabin : Int} {p : Party} (hb : hasCab h cabin = true) (hm : p ∈ h.parties) (hf : fitsB h cabin p = true) : nextOffer h cabin ≠ 0 ∧ (passed h cabin p.id = [] → nextOffer h cabin = p.id) := by
  obtain ⟨hp, c0, c1⟩ := hasCab_rep hb
  obtain ⟨c, hc⟩ : ∃ c, h.cabins[cabin.toNat]? = some c := ⟨_, List.getElem?_eq_getElem (by omega)⟩
  have hf' := hf
  simp only [fitsB, Bool.and_eq_true, beq_iff_eq] at hf'
  obtain ⟨⟨⟨f1, f2⟩, f3⟩, f4⟩ := hf'
  have ho : entryOk h.rules p h.now = true := (entryOk_st (hp.good.pok hm)).2 f2
  have hrow := (row_of hp c0 hc (entryOf h.rules p h.now)).2 ⟨p, hm, ho, f1, rfl⟩
  have hfit := (fit_party hp hc hm ho f1).trans hf
  obtain ⟨j, hj⟩ := List.mem_iff_getElem?.1 hrow
  have hk : ¬ firstFit c.row c.seats.free (skipGo h.now h.parties) < 0 := by
    intro hk
    obtain ⟨n1, n2⟩ := idxF_none (q := fitE c.seats.free (skipGo h.now h.parties)) c.row 0
    have hn := n1.1 (n2.resolve_right (by unfold firstFit at hk; omega))
    have := hn _ (List.mem_of_getElem? hj)
    rw [hfit] at this; cases this
  obtain ⟨k, e, hk1, hk2, hk3, hk4⟩ := idxF_at c.row 0 (by unfold firstFit at hk; exact Int.not_lt.1 hk)
  have hk5 : firstFit c.row c.seats.free (skipGo h.now h.parties) = (k : Int) := by unfold firstFit; rw [hk1]; simp
  have hid : nextOffer h cabin = e.id := nextOffer_at hb hc hk (by rw [hk5]; simpa using hk2)
  obtain ⟨p2, hm2, ho2, hcb2, he2⟩ := (row_of hp c0 hc e).1 (List.mem_of_getElem? hk2)
  have hpe : e.id = p2.id := by rw [he2]; simp [entryOf, ho2]
  have hp2 := hp.good.ok p2 hm2
  refine ⟨by rw [hid, hpe]; have := hp2.id0; omega, fun hpa => ?_⟩
  by_cases he : p2 = p
  · rw [hid, hpe, he]
  · exfalso
    have hf2 : fitsB h cabin p2 = true := by rw [← fit_party hp hc hm2 ho2 hcb2, ← he2]; exact hk3
    have hqp := (agrees_row (houseP_iff.2 hp) hc).1
    have hbf : beforeB h.rules p2 p h.now = true := by
      rcases Nat.lt_trichotomy j k with h2 | h2 | h2
      · have := hk4 j _ h2 hj
        rw [hfit] at this; cases this
      · subst h2
        rw [hj] at hk2
        injection hk2 with hk2
        exact absurd (hp.good.one hm2 hm (by rw [← hpe, ← hk2]; simp [entryOf, ho])) he
      · have hl := row_lt hqp (j - k - 1) k _ _ hk2 (by rw [show k + (j - k - 1) + 1 = j by omega]; exact hj)
        have l1 := level_rng (hp.good.pok hm); have l2 := level_rng (hp.good.pok hm2)
        rw [he2] at hl
        simp only [entryLess, entryOf, ho2, ho, if_true, beforeB, Bool.and_eq_true, Bool.or_eq_true, decide_eq_true_eq, beq_iff_eq] at hl ⊢
        omega
    have hnn := atId_mem hm
    obtain ⟨q, hq1, hq2⟩ := atId_at hnn
    have hqe : q = p := hp.good.one (List.mem_of_getElem? hq1) hm hq2
    subst hqe
    rw [passed_of hb hnn hq1 f1, passGo_eq] at hpa
    have hmem : p2.id ∈ (h.parties.filter fun p => fitsB h cabin p && beforeB h.rules p q h.now).map (·.id) := List.mem_map_of_mem (List.mem_filter.2 ⟨hm2, by rw [hf2, hbf]; rfl⟩)
    rw [hpa] at hmem
    exact absurd hmem List.not_mem_nil
end SX
end Go.Proofs.YtejojcoaohlfbaaGreat
/- Rounds: behind one all is idle, and nobody is late; a house that settles; in plain Lean. It imports no program. -/
namespace Go.Proofs.YtejojcoaohlfbaaGreat
namespace SX
set_option linter.unusedVariables false
set_option linter.unusedSimpArgs false
open Go Go.RowKit
/-! ### Nobody is late -/
/-! ### A house that settles -/
end SX
end Go.Proofs.YtejojcoaohlfbaaGreat
/- Requests, one behind the other: what stays; in plain Lean. It imports no program. -/
namespace Go.Proofs.YtejojcoaohlfbaaGreat
namespace SX
set_option linter.unusedVariables false
set_option linter.unusedSimpArgs false
open Go Go.RowKit
theorem scanGo_rules : ∀ (n : Nat) (x : House) (k : Int), (scanGo n x k).1.rules = x.rules
  | 0, x, k => rfl
  | n + 1, x, k => by
    unfold scanGo
    split
    · rfl
    · exact scanGo_rules n (offeredM x k) k
theorem scan_rules (h : House) (k : Int) : (scan h k).1.rules = h.rules := by
  unfold scan
  split
  · exact (scanGo_rules _ (expireM h k) k).trans (expireGo_same (dueIds h k) h).1
  · rfl
theorem do_rules (h : House) (q : Req) : (doM h q).rules = h.rules := by
  unfold doM
  split
  · unfold doneM
    split
    · rfl
    · split
      · unfold cancelM; split <;> rfl
      · split
        · rfl
        · split
          · unfold acceptM; split <;> rfl
          · split
            · exact (fails_same (h := h) (p := partyOf h.parties q.id)).1
            · split
              · rfl
              · unfold pickM
                split
                · rfl
                · exact scan_rules h _
  · rfl
noncomputable def doAllM (h : House) (l : List Req) : House := l.foldl doM h
theorem doAll_snoc {h : House} {l : List Req} {k : Nat} (hk : k < l.length) : doAllM h (l.take (k + 1)) = doM (doAllM h (l.take k)) l[k] := by
  unfold doAllM
  rw [List.take_succ_eq_append_getElem hk, List.foldl_append]; rfl
theorem doAll_hp : ∀ {l : List Req} {h : House}, HRep h → HRep (doAllM h l)
  | [], h, hp => hp
  | q :: l, h, hp => doAll_hp (l := l) (h := doM h q) (do_hp hp)
theorem doAll_rules : ∀ (l : List Req) (h : House), (doAllM h l).rules = h.rules
  | [], h => rfl
  | q :: l, h => (doAll_rules l (doM h q)).trans (do_rules h q)
def upto (n : Nat) : List Int := (List.range n).map fun i : Nat => (i : Int)
theorem upto_snoc (k : Nat) : upto (k + 1) = upto k ++ [(k : Int)] := by simp [upto, List.range_succ]
theorem upto_len (k : Nat) : (upto k).length = k := by simp [upto]
noncomputable def unkept (h : House) (l : List Req) : List Int := if houseOk h then [] else upto l.length
theorem verd_bad {h : House} {q : Req} (hb : houseOk h = false) : verdict h q = 1 := by unfold verdict; rw [if_pos hb]
theorem do_bad {h : House} {q : Req} (hb : houseOk h = false) : doM h q = h := by
  unfold doM
  rw [if_neg (by rw [verd_bad hb]; decide)]
theorem do_no {h : House} {q : Req} (hv : verdict h q ≠ 0) : doM h q = h := if_neg hv
/-- seats are as many as there are -/
theorem seats_sum {h : House} {k : Nat} {c : Cabin} (hp : HRep h) (hc : h.cabins[k]? = some c) : h.rules.seats[k]? = some c.seats.total ∧ ledgerOk c.seats = true ∧ wr (wr (c.seats.free + c.seats.held) + c.seats.sold) = c.seats.total := by
  obtain ⟨h1, h2, h3⟩ := hp.cab k c hc
  have h4 := ledgerOk_iff.1 h2.led
  have a1 := h4.total; have a2 := h4.free; have a3 := h4.held; have a4 := h4.sold; have a5 := h4.sum
  refine ⟨h1, h2.led, ?_⟩
  rw [wr_of (x := c.seats.free + c.seats.held) (by omega) (by omega), wr_of (by omega) (by omega)]
  omega
end SX
end Go.Proofs.YtejojcoaohlfbaaGreat
/- What requests leave of a party; what is left of the tries of those ahead of it; in plain Lean. It imports no program. -/
namespace Go.Proofs.YtejojcoaohlfbaaGreat
namespace SX
set_option linter.unusedVariables false
set_option linter.unusedSimpArgs false
open Go Go.RowKit
/-- what stays of a party -/
structure Kin (p p' : Party) : Prop where
  id : p'.id = p.id
  cab : p'.cabin = p.cabin
  frm : p'.from' = p.from'
  size : p'.size = p.size
  tier : p'.tier = p.tier
  since : p'.since = p.since
  turn : p'.turn = p.turn
theorem Kin.refl (p : Party) : Kin p p := ⟨rfl, rfl, rfl, rfl, rfl, rfl, rfl⟩
theorem Kin.trans {a b c : Party} (h : Kin a b) (g : Kin b c) : Kin a c :=
  ⟨g.id.trans h.id, g.cab.trans h.cab, g.frm.trans h.frm, g.size.trans h.size, g.tier.trans h.tier, g.since.trans h.since, g.turn.trans h.turn⟩
def KinL (l l' : List Party) : Prop := ∀ p' ∈ l', ∃ p ∈ l, Kin p p'
theorem KinL.refl (l : List Party) : KinL l l := fun p h => ⟨p, h, Kin.refl p⟩
theorem KinL.trans {a b c : List Party} (h : KinL a b) (g : KinL b c) : KinL a c := fun p hp => by
  obtain ⟨q, hq, k1⟩ := g p hp
  obtain ⟨r, hr, k2⟩ := h q hq
  exact ⟨r, hr, k2.trans k1⟩
theorem KinL.cut (l : List Party) (id : Int) : KinL l (partyCut l id) := fun p hp => ⟨p, (partyCut_sub l id).subset hp, Kin.refl p⟩
theorem KinL.put {l : List Party} {p q : Party} (hd : (l.map (·.id)).Nodup) (hm : p ∈ l) (k : Kin p q) : KinL l (partyPut l q) := fun x hx => by
  rcases List.mem_cons.1 ((partyPut_perm hd hm k.id).mem_iff.1 hx) with rfl | h1
  · exact ⟨p, hm, k⟩
  · exact ⟨x, (partyCut_sub _ _).subset h1, Kin.refl x⟩
/-! ### Tries that are left -/
/-- an offer that a waiting party with enough seats does not get goes to one ahead of it -/
theorem ahead {x : House} {k : Int} {p : Party} (hb : hasCab x k = true) (hm : p ∈ x.parties) (hf : fitsB x k p = true) (hl : levelOf x.rules p x.now = 0) (hne : nextOffer x k ≠ p.id) : nextOffer x k ≠ 0 ∧ (partyOf x.parties (nextOffer x k)).turn < p.turn := by
  have hp := (hasCab_rep hb).1
  have h0 := (fit_next hb hm hf).1
  refine ⟨h0, ?_⟩
  obtain ⟨g1, g2, g3, g4, g5⟩ := next_party h0
  have hpa := nextOffer_passed h0
  have hnn : ¬ atId x.parties (nextOffer x k) < 0 := by have := atId_mem g1; rwa [g2] at this
  obtain ⟨q, hq1, hq2⟩ := atId_at hnn
  have hqe : partyOf x.parties (nextOffer x k) = q := partyOf_of hq1
  rw [hqe] at g1 g4 ⊢
  rw [passed_of hb hnn hq1 g4, passGo_eq] at hpa
  have hnb : beforeB x.rules p q x.now = false := by
    cases hbq : beforeB x.rules p q x.now with
    | false => rfl
    | true =>
      have : p.id ∈ (x.parties.filter fun p => fitsB x k p && beforeB x.rules p q x.now).map (·.id) := List.mem_map_of_mem (List.mem_filter.2 ⟨hm, by rw [hf, hbq]; rfl⟩)
      rw [hpa] at this
      exact absurd this List.not_mem_nil
  have l1 := level_rng (hp.good.pok hm); have l2 := level_rng (hp.good.pok g1)
  simp only [beforeB, Bool.and_eq_false_iff, Bool.or_eq_false_iff, decide_eq_false_iff_not, beq_eq_false_iff_ne] at hnb
  have hne2 : q.turn ≠ p.turn := fun he => hne (by rw [← hq2, nodup_one hp.good.turns g1 hm he])
  have hor : ¬ (0 < levelOf x.rules q x.now) ∧ (0 ≠ levelOf x.rules q x.now ∨ ¬ p.turn < q.turn) := by
    rw [hl] at hnb
    rcases hnb with (h | h) | h
    · omega
    · omega
    · exact ⟨h.1, by rcases h.2 with h | h <;> first | exact .inl h | exact .inr h⟩
  rcases hor.2 with h | h <;> omega
end SX
end Go.Proofs.YtejojcoaohlfbaaGreat
/- What a history of requests says of sold seats; in plain Lean. It imports no program. -/
namespace Go.Proofs.YtejojcoaohlfbaaGreat
namespace SX
set_option linter.unusedVariables false
set_option linter.unusedSimpArgs false
open Go Go.RowKit
/-- the replies to requests, one behind the other: code and numbers -/
noncomputable def replGo : House → List Req → List (Int × List Int)
  | _, [] => []
  | h, q :: qs => (verdict h q, idsM h q) :: replGo (doM h q) qs
theorem repl_len : ∀ (l : List Req) (h : House), (replGo h l).length = l.length
  | [], h => rfl
  | q :: qs, h => by simp [replGo, repl_len qs]
theorem repl_snoc (l : List Req) : ∀ (h : House) (k : Nat) (hk : k < l.length), replGo h (l.take (k + 1)) = replGo h (l.take k) ++ [(verdict (doAllM h (l.take k)) l[k], idsM (doAllM h (l.take k)) l[k])] := by
  induction l with
  | nil => intro h k hk; simp at hk
  | cons q qs ih =>
    intro h k hk
    cases k with
    | zero => simp [replGo, doAllM]
    | succ k =>
      have := ih (doM h q) k (by simpa using hk)
      simpa [replGo, doAllM] using this
/-! ### Seats that are sold, request by request -/
def soldAt (h : House) (i : Nat) : Int := match h.cabins[i]? with
  | some c => c.seats.sold
  | none => 0
theorem soldAt_of {h : House} {i : Nat} {c : Cabin} (hc : h.cabins[i]? = some c) : soldAt h i = c.seats.sold := by simp [soldAt, hc]
/-- what moves no sold seats -/
def SoldSame (a b : List Cabin) : Prop := ∀ (i : Nat) (c : Cabin), a[i]? = some c → ∃ c', b[i]? = some c' ∧ c'.seats.sold = c.seats.sold
theorem SoldSame.refl (a : List Cabin) : SoldSame a a := fun i c h => ⟨c, h, rfl⟩
theorem SoldSame.trans {a b c : List Cabin} (h : SoldSame a b) (g : SoldSame b c) : SoldSame a c := fun i x hx => by
  obtain ⟨y, hy, e1⟩ := h i x hx
  obtain ⟨z, hz, e2⟩ := g i y hy
  exact ⟨z, hz, e2.trans e1⟩
theorem SoldSame.at {a b : House} (h : SoldSame a.cabins b.cabins) {i : Nat} (hi : i < a.cabins.length) : soldAt b i = soldAt a i := by
  obtain ⟨c', h1, h2⟩ := h i _ (List.getElem?_eq_getElem hi)
  rw [soldAt_of h1, soldAt_of (List.getElem?_eq_getElem hi), h2]
end SX
end Go.Proofs.YtejojcoaohlfbaaGreat
