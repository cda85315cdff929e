/- How a right house changes and stays right, in plain Lean. It imports no program. -/
import Derived.Test.YthnbaikmbgaddaaGreatMdlz
namespace Go.Proofs.YthnbaikmbgaddaaGreat
namespace SX
set_option linter.unusedVariables false
set_option linter.unusedSimpArgs false
open Go Go.RowKit
/-! ### Rows, wheels, once more -/
theorem entryOk_st {r : Rules} {p : Party} {now : Int} (h : partyOk r p now = true) : entryOk r p now = true ↔ p.state = 1 := by
  have := level_rng h
  simp only [entryOk, Bool.and_eq_true, Bool.not_eq_true', decide_eq_false_iff_not, beq_iff_eq]
  exact ⟨fun w => w.2, fun w => ⟨by omega, w⟩⟩
theorem Good.fresh {r : Rules} {now : Int} {p : Party} {l : List Party} (g : Good r now (p :: l)) : p.turn ∉ l.map (·.turn) ∧ p.id ∉ l.map (·.id) := by
  have h1 := g.ids; have h2 := g.turns
  rw [List.map_cons, List.nodup_cons] at h1 h2
  exact ⟨h2.1, h1.1⟩
theorem RowR.del' {r : Rules} {now k : Int} {p : Party} {l : List Party} {row : List Entry} (g : Good r now (p :: l)) (h : RowR r now (p :: l) k row) : RowR r now l k (if p.state = 1 ∧ p.cabin = k then queueCut row p.id else row) := by
  have hp := entryOk_st (g.pok (p := p) (by simp))
  split
  · rename_i hc; exact h.del g (hp.2 hc.1) hc.2
  · rename_i hc; exact (RowR.skip fun w => hc ⟨hp.1 w.1, w.2⟩).1 h
theorem RowR.add' {r : Rules} {now k : Int} {p : Party} {l : List Party} {row : List Entry} (g : Good r now (p :: l)) (h : RowR r now l k row) : RowR r now (p :: l) k (if p.state = 1 ∧ p.cabin = k then qIns row (entryOf r p now) else row) := by
  have hp := entryOk_st (g.pok (p := p) (by simp))
  split
  · rename_i hc; exact h.add g.fresh.1 (hp.2 hc.1) hc.2
  · rename_i hc; exact (RowR.skip fun w => hc ⟨hp.1 w.1, w.2⟩).2 h
theorem WhR.del' {r : Rules} {now k : Int} {p : Party} {l : List Party} {wh : Wheel} (g : Good r now (p :: l)) (h : WhR (p :: l) k wh) : WhR l k (if p.state = 2 ∧ p.cabin = k then wheelCut wh ⟨p.until', p.id⟩ else wh) := by
  split
  · rename_i hc; exact h.del (r := r) (now := now) g.fresh.2 hc.1 hc.2
  · rename_i hc; exact (WhR.skip hc).1 h
theorem pinR_of {r : Rules} {now : Int} {p : Party} (g : PR r now p) (rr : RR r) (hn : 0 ≤ now ∧ now ≤ 1000000) (hs : p.state = 2) : PinR ⟨p.until', p.id⟩ := by
  have h1 := g.id0; have h2 := g.id1; have h3 := g.st; have h4 := rr.window
  unfold PinR
  simp only [inB, Bool.and_eq_true, decide_eq_true_eq]
  omega
theorem WhR.add' {r : Rules} {now k : Int} {p : Party} {l : List Party} {wh : Wheel} (g : Good r now (p :: l)) (hc : cnt (p :: l) k ≤ 10) (h : WhR l k wh) : WhR (p :: l) k (if p.state = 2 ∧ p.cabin = k then wheelPut wh ⟨p.until', p.id⟩ else wh) := by
  split
  · rename_i h1
    have h2 := pins_le h g.tail.ids
    rw [cnt_cons, if_pos h1.2] at hc
    have := h.add (r := r) (now := now) g.fresh.2 (pinR_of (g.ok p (by simp)) (rr_of g.rules) g.nw h1.1) h1.1 h1.2 (by omega)
    rw [this.2]; exact this.1
  · rename_i h1; exact (WhR.skip h1).2 h
theorem heldW_nn {r : Rules} {now k : Int} {p : Party} (g : PR r now p) : 0 ≤ heldW k p ∧ heldW k p ≤ 6 := by
  have := g.size
  unfold heldW; split <;> omega
theorem tiedW_nn {r : Rules} {now k : Int} {p : Party} (g : PR r now p) : 0 ≤ tiedW k p ∧ tiedW k p ≤ 6 := by
  have := g.size
  unfold tiedW; split <;> omega
theorem held_ge {r : Rules} {now k : Int} {p : Party} {l R : List Party} (g : Good r now l) (h : l.Perm (p :: R)) : heldW k p ≤ (l.map (heldW k)).sum ∧ tiedW k p ≤ (l.map (tiedW k)).sum := by
  have g2 := g.perm h
  rw [sum_cons h, sum_cons h]
  have h1 := sum_nn (f := heldW k) (l := R) fun q hq => (heldW_nn (g2.ok q (by simp [hq]))).1
  have h2 := sum_nn (f := tiedW k) (l := R) fun q hq => (tiedW_nn (g2.ok q (by simp [hq]))).1
  omega
/-! ### Parties -/
def KT (a b : Int × Int) : Prop := a.1 ≠ b.1 ∧ ¬ (a.1 < b.1 ∧ b.2 < a.2) ∧ ¬ (b.1 < a.1 ∧ a.2 < b.2)
theorem kk_map {l : List Party} : l.Pairwise KK ↔ (l.map fun p => (p.turn, p.since)).Pairwise KT := by
  rw [List.pairwise_map]; exact Iff.rfl
theorem ids_map {l : List Party} : (l.Pairwise fun a b => a.id < b.id) ↔ (l.map (·.id)).Pairwise (· < ·) := by
  rw [List.pairwise_map]
theorem PPs.nodup {h : House} (hp : PPs h) : (h.parties.map (·.id)).Nodup := by
  rw [List.Nodup, List.pairwise_map]
  exact hp.ids.imp fun h => by omega
theorem PPs.put {h h' : House} {p q : Party} (hp : PPs h) (hm : p ∈ h.parties) (hq : partyOk h.rules q h.now = true) (k1 : q.id = p.id) (k2 : q.turn = p.turn) (k3 : q.since = p.since) (e1 : h'.rules = h.rules) (e2 : h'.now = h.now) (e3 : h.turn ≤ h'.turn) (e4 : h'.parties = partyPut h.parties q) : PPs h' := by
  have hper := partyPut_perm hp.nodup hm k1
  refine ⟨fun x hx => ?_, ?_, ?_⟩
  · rw [e1, e2]
    rw [e4, hper.mem_iff] at hx
    rcases List.mem_cons.1 hx with rfl | hx
    · exact ⟨hq, by have := (hp.ok p hm).2; omega⟩
    · have := hp.ok x ((partyCut_sub _ _).subset hx)
      exact ⟨this.1, by omega⟩
  · rw [e4, ids_map, partyPut_same hp.nodup hm k1 k1, ← ids_map]; exact hp.ids
  · rw [e4, kk_map, partyPut_same hp.nodup hm k1 (by rw [k2, k3]), ← kk_map]; exact hp.kk
theorem PPs.cut {h h' : House} {id : Int} (hp : PPs h) (e1 : h'.rules = h.rules) (e2 : h'.now = h.now) (e3 : h.turn ≤ h'.turn) (e4 : h'.parties = partyCut h.parties id) : PPs h' := by
  refine ⟨fun x hx => ?_, ?_, ?_⟩
  · rw [e4] at hx
    have := hp.ok x ((partyCut_sub _ _).subset hx)
    rw [e1, e2]; exact ⟨this.1, by omega⟩
  · rw [e4]; exact hp.ids.sublist (partyCut_sub _ _)
  · rw [e4]; exact hp.kk.sublist (partyCut_sub _ _)
theorem idOrd : Ord idLess := by
  constructor <;> intros <;> simp only [idLess, decide_eq_true_eq, decide_eq_false_iff_not] at * <;> omega
theorem atId_none {l : List Party} {id : Int} (h : atId l id < 0) : ∀ p ∈ l, p.id ≠ id := by
  intro p hp he
  have : ∀ (m : List Party) (n : Nat), p ∈ m → 0 ≤ idxF (fun e : Party => e.id == id) m n := by
    intro m
    induction m with
    | nil => intro n h; exact absurd h List.not_mem_nil
    | cons y m ih =>
      intro n h
      unfold idxF
      split
      · omega
      · rename_i hne
        rcases List.mem_cons.1 h with rfl | h
        · simp [he] at hne
        · exact ih (n + 1) h
  have := this l 0 hp
  unfold atId at h; omega
theorem PPs.join {h h' : House} {q : Party} (hp : PPs h) (hq : partyOk h.rules q h.now = true) (hno : atId h.parties q.id < 0) (k2 : q.turn = h.turn) (k3 : q.since = h.now) (e1 : h'.rules = h.rules) (e2 : h'.now = h.now) (e3 : h'.turn = h.turn + 1) (e4 : h'.parties = partyPut h.parties q) : PPs h' := by
  rw [partyPut_new hno] at e4
  have hno := atId_none hno
  have hper := insL_perm (lt := idLess) q h.parties
  refine ⟨fun x hx => ?_, ?_, ?_⟩
  · rw [e1, e2]
    rw [e4, insL_iff] at hx
    rcases hx with rfl | hx
    · exact ⟨hq, by omega⟩
    · have := hp.ok x hx
      exact ⟨this.1, by omega⟩
  · rw [e4]
    have hs : SS idLess h.parties := hp.ids.imp fun h => by simpa [idLess] using h
    have := ss_ins idOrd (e := q) hs fun y hy => by
      have := hno y hy
      simp only [idLess, decide_eq_true_eq]; omega
    exact this.imp fun h => by simpa [idLess] using h
  · rw [e4, hper.pairwise_iff (fun h => KK.symm h)]
    refine List.pairwise_cons.2 ⟨fun x hx => ?_, hp.kk⟩
    have h1 := hp.ok x hx
    have h2 := (partyOk_iff.1 h1.1).2.2.since
    unfold KK
    omega
/-! ### A house, step by step -/
theorem jobsP_of_eq {h h' : House} (hj : JobsP h) (e1 : h'.rules = h.rules) (e5 : h'.cabins.length = h.cabins.length) (e6 : h'.todo = h.todo) (e7 : h'.jobs = h.jobs) : JobsP h' := by
  unfold JobsP at *
  rw [e1, e5, e6, e7]; exact hj
theorem HRep.room {h : House} (hp : HRep h) {k : Nat} {c : Cabin} (hc : h.cabins[k]? = some c) : cnt h.parties k ≤ 10 := by
  have h1 := (hp.cab k c hc).2.2
  have h2 := (rr_of hp.rules).room
  omega
theorem HRep.step {h h' : House} (hp : HRep h) (e1 : h'.rules = h.rules) (e2 : h'.now = h.now) (e3 : 1 ≤ h'.turn ∧ h'.turn ≤ 1000001) (e4 : h'.parties.length ≤ 40) (e5 : h'.cabins.length = h.cabins.length) (e6 : PPs h') (e7 : JobsP h')
    (e8 : ∀ (k : Nat) (c c' : Cabin), h.cabins[k]? = some c → h'.cabins[k]? = some c' → c'.seats.total = c.seats.total ∧ Rep h.rules h.now h'.parties k c' ∧ (cnt h'.parties k : Int) ≤ h.rules.room) : HRep h' := by
  refine ⟨by rw [e1]; exact hp.rules, by rw [e2]; exact hp.now, e3, e4, by rw [e5, e1]; exact hp.cabs, e6, e7, fun k c' hc' => ?_⟩
  have hlt : k < h.cabins.length := by have := (List.getElem?_eq_some_iff.1 hc').1; omega
  have hc := List.getElem?_eq_getElem hlt
  obtain ⟨g1, g2, g3⟩ := e8 k _ c' hc hc'
  have := hp.cab k _ hc
  rw [e1, e2, g1]
  exact ⟨this.1, g2, g3⟩
/-- a party changes its state -/
theorem HRep.swap {h h' : House} {p q : Party} (hp : HRep h) (hm : p ∈ h.parties) (hq : PR h.rules h.now q) (k1 : q.id = p.id) (k2 : q.turn = p.turn) (k3 : q.since = p.since) (k4 : q.cabin = p.cabin) (k5 : q.from' = p.from') (k6 : q.size = p.size)
    (e1 : h'.rules = h.rules) (e2 : h'.now = h.now) (e3 : h'.turn = h.turn) (e4 : h'.parties = partyPut h.parties q) (e5 : h'.cabins.length = h.cabins.length) (e6 : h'.todo = h.todo) (e7 : h'.jobs = h.jobs)
    (cab : ∀ (k : Nat) (c c' : Cabin), h.cabins[k]? = some c → h'.cabins[k]? = some c' → LP c.seats → heldW k p ≤ c.seats.held →
      c'.row = (if q.state = 1 ∧ q.cabin = k then qIns (if p.state = 1 ∧ p.cabin = k then queueCut c.row p.id else c.row) (entryOf h.rules q h.now) else (if p.state = 1 ∧ p.cabin = k then queueCut c.row p.id else c.row)) ∧
      c'.wheel = (if q.state = 2 ∧ q.cabin = k then wheelPut (if p.state = 2 ∧ p.cabin = k then wheelCut c.wheel ⟨p.until', p.id⟩ else c.wheel) ⟨q.until', q.id⟩ else (if p.state = 2 ∧ p.cabin = k then wheelCut c.wheel ⟨p.until', p.id⟩ else c.wheel)) ∧
      LP c'.seats ∧ c'.seats.total = c.seats.total ∧ c'.seats.held = c.seats.held - heldW k p + heldW k q ∧ c'.seats.tied = c.seats.tied) : HRep h' := by
  have g := hp.good
  have hqok : partyOk h.rules q h.now = true := partyOk_iff.2 ⟨hp.rules, hp.now, hq⟩
  have hpp : PPs h' := hp.pps.put hm hqok k1 k2 k3 e1 e2 (by omega) e4
  have hl := partyCut_perm g.ids hm
  have hl' := partyPut_perm g.ids hm k1
  have gp := g.perm hl
  have hlen : h'.parties.length ≤ 40 := by
    rw [e4, hl'.length_eq, List.length_cons]
    have h1 := hl.length_eq; have h2 := hp.len
    rw [List.length_cons] at h1; omega
  have gq : Good h.rules h.now (q :: partyCut h.parties p.id) := by
    have := hpp.good (by rw [e1]; exact hp.rules) (by rw [e2]; exact hp.now) hlen
    rw [e1, e2, e4] at this
    exact this.perm hl'
  have hcnt : ∀ k : Int, cnt h'.parties k = cnt h.parties k := by
    intro k
    rw [e4, cnt_perm hl', cnt_perm hl, cnt_cons, cnt_cons, k4]
  refine hp.step e1 e2 (by rw [e3]; exact hp.turn) hlen e5 hpp (jobsP_of_eq hp.jobs e1 e5 e6 e7) fun k c c' hc hc' => ?_
  have hr := (hp.cab k c hc).2.1
  have hge := held_ge (k := k) g hl
  rw [← hr.held, ← hr.tied] at hge
  obtain ⟨c1, c2, c3, c4, c5, c6⟩ := cab k c c' hc hc' (ledgerOk_iff.1 hr.led) hge.1
  have hroom := hp.room hc
  refine ⟨c4, rep_of (ledgerOk_iff.2 c3) ?_ ?_ ?_ ?_, by rw [hcnt]; exact (hp.cab k c hc).2.2⟩
  · rw [c1, e4]
    exact (((hr.rowR.perm hl).del' gp).add' gq).perm hl'.symm
  · rw [c2, e4]
    refine (((hr.whR.perm hl).del' gp).add' gq ?_).perm hl'.symm
    rw [← cnt_perm hl', ← e4, hcnt]; exact hroom
  · rw [c5, e4, sum_cons hl', hr.held, sum_cons hl]; omega
  · have ht : tiedW k q = tiedW k p := by unfold tiedW; rw [k5, k6]
    rw [c6, e4, sum_cons hl', hr.tied, sum_cons hl, ht]
/-- a party goes -/
theorem HRep.gone {h h' : House} {p : Party} (hp : HRep h) (hm : p ∈ h.parties)
    (e1 : h'.rules = h.rules) (e2 : h'.now = h.now) (e3 : h'.turn = h.turn) (e4 : h'.parties = partyCut h.parties p.id) (e5 : h'.cabins.length = h.cabins.length) (e6 : h'.todo = h.todo) (e7 : h'.jobs = h.jobs)
    (cab : ∀ (k : Nat) (c c' : Cabin), h.cabins[k]? = some c → h'.cabins[k]? = some c' → LP c.seats → heldW k p ≤ c.seats.held → tiedW k p ≤ c.seats.tied →
      c'.row = (if p.state = 1 ∧ p.cabin = k then queueCut c.row p.id else c.row) ∧
      c'.wheel = (if p.state = 2 ∧ p.cabin = k then wheelCut c.wheel ⟨p.until', p.id⟩ else c.wheel) ∧
      LP c'.seats ∧ c'.seats.total = c.seats.total ∧ c'.seats.held = c.seats.held - heldW k p ∧ c'.seats.tied = c.seats.tied - tiedW k p) : HRep h' := by
  have g := hp.good
  have hpp : PPs h' := hp.pps.cut e1 e2 (by omega) e4
  have hl := partyCut_perm g.ids hm
  have gp := g.perm hl
  have hlen : h'.parties.length ≤ 40 := by
    have h1 := hl.length_eq; have h2 := hp.len
    rw [List.length_cons] at h1; rw [e4]; omega
  have hcnt : ∀ k : Int, cnt h'.parties k ≤ cnt h.parties k := by
    intro k
    rw [e4, cnt_perm hl, cnt_cons]; omega
  refine hp.step e1 e2 (by rw [e3]; exact hp.turn) hlen e5 hpp (jobsP_of_eq hp.jobs e1 e5 e6 e7) fun k c c' hc hc' => ?_
  have hr := (hp.cab k c hc).2.1
  have hge := held_ge (k := k) g hl
  rw [← hr.held, ← hr.tied] at hge
  obtain ⟨c1, c2, c3, c4, c5, c6⟩ := cab k c c' hc hc' (ledgerOk_iff.1 hr.led) hge.1 hge.2
  refine ⟨c4, rep_of (ledgerOk_iff.2 c3) ?_ ?_ ?_ ?_, by have := hcnt k; have := (hp.cab k c hc).2.2; omega⟩
  · rw [c1, e4]; exact (hr.rowR.perm hl).del' gp
  · rw [c2, e4]; exact (hr.whR.perm hl).del' gp
  · rw [c5, e4, hr.held, sum_cons hl]; omega
  · rw [c6, e4, hr.tied, sum_cons hl]; omega
/-- a party comes -/
theorem HRep.join {h h' : House} {q : Party} (hp : HRep h) (hq : PR h.rules h.now q) (hno : atId h.parties q.id < 0) (k2 : q.turn = h.turn) (k3 : q.since = h.now) (hst : q.state = 1) (hfull : (cnt h.parties q.cabin : Int) < h.rules.room)
    (e1 : h'.rules = h.rules) (e2 : h'.now = h.now) (e3 : h'.turn = h.turn + 1) (e4 : h'.parties = partyPut h.parties q) (e5 : h'.cabins.length = h.cabins.length) (e6 : h'.todo = h.todo) (e7 : h'.jobs = h.jobs) (hlen : h'.parties.length ≤ 40)
    (cab : ∀ (k : Nat) (c c' : Cabin), h.cabins[k]? = some c → h'.cabins[k]? = some c' → LP c.seats →
      c'.row = (if q.cabin = k then qIns c.row (entryOf h.rules q h.now) else c.row) ∧ c'.wheel = c.wheel ∧
      LP c'.seats ∧ c'.seats.total = c.seats.total ∧ c'.seats.held = c.seats.held ∧ c'.seats.tied = c.seats.tied + tiedW k q) : HRep h' := by
  have g := hp.good
  have hqok : partyOk h.rules q h.now = true := partyOk_iff.2 ⟨hp.rules, hp.now, hq⟩
  have hpp : PPs h' := hp.pps.join hqok hno k2 k3 e1 e2 e3 e4
  have hl' : h'.parties.Perm (q :: h.parties) := by rw [e4, partyPut_new hno]; exact insL_perm _ _
  have hturn := hq.turn
  have hturn2 := hp.turn
  have gq : Good h.rules h.now (q :: h.parties) := by
    have := hpp.good (by rw [e1]; exact hp.rules) (by rw [e2]; exact hp.now) hlen
    rw [e1, e2] at this
    exact this.perm hl'
  refine hp.step e1 e2 (by omega) hlen e5 hpp (jobsP_of_eq hp.jobs e1 e5 e6 e7) fun k c c' hc hc' => ?_
  have hr := (hp.cab k c hc).2.1
  obtain ⟨c1, c2, c3, c4, c5, c6⟩ := cab k c c' hc hc' (ledgerOk_iff.1 hr.led)
  have hcnt : (cnt h'.parties k : Int) ≤ h.rules.room := by
    rw [cnt_perm hl', cnt_cons]
    have h9 := (hp.cab k c hc).2.2
    split
    · rename_i he; rw [he] at hfull; omega
    · omega
  refine ⟨c4, rep_of (ledgerOk_iff.2 c3) ?_ ?_ ?_ ?_, hcnt⟩
  · have := (hr.rowR.add' gq).perm hl'.symm
    rw [c1]
    simpa only [hst, true_and] using this
  · rw [c2]
    exact ((WhR.skip (p := q) (by rw [hst]; omega)).2 hr.whR).perm hl'.symm
  · have : heldW k q = 0 := by unfold heldW; rw [if_neg (by rw [hst]; omega)]
    rw [c5, sum_cons hl', hr.held, this]; omega
  · rw [c6, sum_cons hl', hr.tied]; omega
/-- the work list -/
theorem JobsP.iff {h : House} : JobsP h ↔ (∀ x ∈ h.todo, inB x 0 (wr (h.cabins.length - 1)) = true) ∧ h.todo.Nodup ∧ (∀ x ∈ h.jobs, inB x (-1) (wr (h.cabins.length - 1)) = true) ∧ (h.jobs.length : Int) = h.rules.crew := by
  unfold JobsP
  constructor
  · rintro ⟨h1, h2, h3⟩
    refine ⟨fun x hx => ?_, ?_, h2, h3⟩
    · obtain ⟨i, hi⟩ := List.mem_iff_getElem?.1 hx
      exact (h1 i x hi).1
    · rw [List.Nodup, List.pairwise_iff_getElem]
      intro i j hi hj hij
      exact (h1 j _ (List.getElem?_eq_getElem hj)).2 i _ hij (List.getElem?_eq_getElem hi)
  · rintro ⟨h1, h2, h3, h4⟩
    refine ⟨fun i x hi => ⟨h1 x (List.mem_of_getElem? hi), fun j y hj hy => ?_⟩, h3, h4⟩
    obtain ⟨g1, e1⟩ := List.getElem?_eq_some_iff.1 hy
    obtain ⟨g2, e2⟩ := List.getElem?_eq_some_iff.1 hi
    have := (List.pairwise_iff_getElem.1 h2) j i g1 g2 hj
    rw [e1, e2] at this; exact this
theorem HRep.jobs' {h h' : House} (hp : HRep h) (e1 : h'.rules = h.rules) (e2 : h'.now = h.now) (e3 : h'.turn = h.turn) (e4 : h'.parties = h.parties) (e5 : h'.cabins = h.cabins) (hj : JobsP h') : HRep h' := by
  refine hp.step e1 e2 (by rw [e3]; exact hp.turn) (by rw [e4]; exact hp.len) (by rw [e5]) ⟨by rw [e1, e2, e3, e4]; exact hp.pps.ok, by rw [e4]; exact hp.pps.ids, by rw [e4]; exact hp.pps.kk⟩ hj fun k c c' hc hc' => ?_
  rw [e5, hc] at hc'
  injection hc' with hc'; subst hc'
  rw [e4]
  exact ⟨rfl, (hp.cab k c hc).2⟩
theorem HRep.eq {h : House} (hp : HRep h) : houseOk h = true := houseOk_t (houseP_iff.2 hp)
end SX
end Go.Proofs.YthnbaikmbgaddaaGreat
