/- Texts of this claim, put together by program. -/
import Derived.Test.YtejojcoaohlfbaaGreatMdlz
import Derived.Test.YtejojcoaohlfbaaGreatSx9
import Derived.Test.YtejojcoaohlfbaaGreatMdb5
import Derived.Test.YtejojcoaohlfbaaGreatHE
namespace Go.Proofs.YtejojcoaohlfbaaGreat
namespace SX
set_option linter.unusedVariables false
set_option linter.unusedSimpArgs false
open Go Go.RowKit
theorem allSeats_mem : ∀ {l : List Int}, allSeats l = true → ∀ x ∈ l, 1 ≤ x ∧ x ≤ 60
  | [], _, x, hx => absurd hx List.not_mem_nil
  | z :: zs, h, x, hx => by
    simp only [allSeats, Bool.and_eq_true, inB, decide_eq_true_eq] at h
    rcases List.mem_cons.1 hx with rfl | hx
    · exact h.1
    · exact allSeats_mem h.2 x hx
end SX
end Go.Proofs.YtejojcoaohlfbaaGreat
namespace Go.Proofs.YtejojcoaohlfbaaGreat
namespace SX
set_option linter.unusedVariables false
set_option linter.unusedSimpArgs false
open Go Go.RowKit
section rules
variable {X : List Nat} {P : Program} {N : Nat} {W : World} {S0 : List Nat} {Q : Exit → Go.Act → World → Prop} {T T1 : Tm} {L L1 : Bx} {C C1 : List Ass}
end rules
end SX
end Go.Proofs.YtejojcoaohlfbaaGreat
namespace Go.Proofs.YtejojcoaohlfbaaGreat
namespace SX
set_option linter.unusedVariables false
set_option linter.unusedSimpArgs false
open Go Go.RowKit
section rules
variable {X : List Nat} {P : Program} {N : Nat} {W : World} {S0 : List Nat} {Q : Exit → Go.Act → World → Prop} {T : Tm} {L : Bx} {C : List Ass} {ops : Array Oper} {Kn : List (Nat × Nat)} {i : Nat}
theorem oBU0 {K : Go.Act → World → Prop} {t : TypeId} {d : Nat} {ty : TypeId} {e : Nat} {α : Type} (La : Lay α)
    (k : ∀ a9 : Option Addr, G N W S0 K ((d, .v (.slice a9 0 0)) :: T) L (C ++ [slA e La (.slice a9 0 0) []]))
    (ho : opAt ops T i = some (.buildSlice t 0 #[], some d, ty) := by kernel_rfl) (hd : d < N := by exact NL rfl) (hb : (partsOf T []).bind (bsOf P t 0) = some (e, []) := by kernel_rfl) : OP P N W S0 ops Q i K T L C :=
  BUILDS t 0 #[] d ty ho hd e [] hb La [] rfl (Nat.zero_le _) [] [] C rfl (fun w fps h => by
    match fps, h with
    | [], _ => exact ⟨rfl, rfl⟩) (fun a9 _ => k a9)
theorem aBU0 {t : TypeId} {d : Nat} {ty : TypeId} {e : Nat} {α : Type} (La : Lay α)
    (k : ∀ a9 : Option Addr, OPL X P N W S0 ops Q Kn (i + 1) ((d, .v (.slice a9 0 0)) :: T) L (C ++ [slA e La (.slice a9 0 0) []])) (hi : Nat.blt i ops.size = true := by rfl)
    (ho : opAt ops T i = some (.buildSlice t 0 #[], some d, ty) := by kernel_rfl) (hd : d < N := by exact NL rfl) (hb : (partsOf T []).bind (bsOf P t 0) = some (e, []) := by kernel_rfl) : AT (.op (.buildSlice t 0 #[]) (some d) ty) X P N W S0 ops Q Kn i T L C := opsOne (lt_of_blt hi) (oBU0 La k ho hd hb)
end rules
end SX
end Go.Proofs.YtejojcoaohlfbaaGreat
namespace Go.Proofs.YtejojcoaohlfbaaGreat
namespace SX
set_option linter.unusedVariables false
set_option linter.unusedSimpArgs false
open Go Go.RowKit
section rules
variable {X : List Nat} {P : Program} {N : Nat} {W : World} {S0 : List Nat} {Q : Exit → Go.Act → World → Prop} {T T1 : Tm} {L L1 : Bx} {C C1 : List Ass}
/-- the same, where what the ways move about hangs on the way -/
def JS9 (N : Nat) (W : World) (S0 : List Nat) {α : Type} (Tf : α → Tm) (Lf : α → Bx) (Cf : α → List Ass) (Inv : α → Prop) : Go.Act → World → Prop := fun a w => ∃ x, Inv x ∧ Sat N W S0 (Tf x) (Lf x) (Cf x) a w
def JC9 {α : Type} (C0 : List Ass) (O : α → List Ass) (x : α) : List Ass := C0 ++ O x
theorem gJS {ops : Array Oper} {q : Bool} {x : Operand} {a b y : Code} {α : Type} (r : Nat) (U : α → Tm) (bs : List (Nat × (α → List Value))) (O : α → List Ass) (Inv : α → Prop) (x0 : α) {Lf : α → Bx} {js : List Nat} {C0 : List Ass} (hp : pulls js C = some (O x0, C0))
    (k1 : CD X P N W S0 ((Code.region r ops q).seq (.cond x a b)) (Exit.then (JS9 N W S0 (JT9 U T) Lf (JC9 C0 O) Inv) Q) T L C) (k2 : ∀ z, Inv z → CD X P N W S0 y Q (U z ++ T) (Lf z) (C0 ++ O z)) (hLf : ∀ x, setBs x bs L some = some (Lf x) := by intro x; conv => lhs; whnf) : CD X P N W S0 (.seq (.seq (.region r ops q) (.cond x a b)) y) Q T L C := by
  unfold CD at *
  exact SEQJ (JT9 U T) Lf (JC9 C0 O) Inv k1 k2
theorem gJZ {α : Type} {U : α → Tm} {Lf : α → Bx} {Inv : α → Prop} {O : α → List Ass} {C0 R R2 : List Ass} {js : List Nat} (ks : List Nat) (x' : α) (hU : keep T1 ks = some (U x') := by conv => lhs; whnf) (hp : pulls js C1 = some (O x', R)) (h : Inv x') (hR : R = C0 ++ R2 := by rfl)
    (hT : keep T1 ((JT9 U T x').map (·.1)) = keep (JT9 U T x') ((JT9 U T x').map (·.1)) := by kernel_rfl) (hn : boundedB (Lf x').length (JT9 U T x') = true := by kernel_rfl) (hL : L1.take (Lf x').length = Lf x' := by kernel_rfl) : DN X N W S0 (Exit.then (JS9 N W S0 (JT9 U T) Lf (JC9 C0 O) Inv) Q) .normal T1 L1 C1 := by
  subst hR
  unfold DN
  intro aa w hs
  have hperm : C1.Perm ((C0 ++ O x') ++ R2) := by
    refine (pulls_perm hp).trans ?_
    rw [← List.append_assoc]
    exact List.perm_append_comm.append_right R2
  have h1 := hs.turn (T1 := T1) (fun _ => rfl) id rfl hperm
  exact ⟨x', h, h1.into (js := zeros (C0 ++ O x')) (R := R2) hT hn hL (pulls_zeros _ _)⟩
theorem gJZ2 {α : Type} {U : α → Tm} {Lf : α → Bx} {Inv : α → Prop} {O : α → List Ass} {C0 R R2 : List Ass} {js js2 : List Nat} (ks : List Nat) (x' : α) (hU : keep T1 ks = some (U x') := by conv => lhs; whnf) (hp : pulls js C1 = some (O x', R)) (hp2 : pulls js2 R = some (C0, R2)) (h : Inv x')
    (hT : keep T1 ((JT9 U T x').map (·.1)) = keep (JT9 U T x') ((JT9 U T x').map (·.1)) := by kernel_rfl) (hn : boundedB (Lf x').length (JT9 U T x') = true := by kernel_rfl) (hL : L1.take (Lf x').length = Lf x' := by kernel_rfl) : DN X N W S0 (Exit.then (JS9 N W S0 (JT9 U T) Lf (JC9 C0 O) Inv) Q) .normal T1 L1 C1 := by
  unfold DN
  intro aa w hs
  have hperm : C1.Perm ((C0 ++ O x') ++ R2) := by
    refine (pulls_perm hp).trans ?_
    refine ((pulls_perm hp2).append_left _).trans ?_
    rw [← List.append_assoc]
    exact List.perm_append_comm.append_right R2
  have h1 := hs.turn (T1 := T1) (fun _ => rfl) id rfl hperm
  exact ⟨x', h, h1.into (js := zeros (C0 ++ O x')) (R := R2) hT hn hL (pulls_zeros _ _)⟩
theorem idJS {α : Type} {Tf : α → Tm} {Lf : α → Bx} {Cf : α → List Ass} {Inv : α → Prop} (k : DN X N W S0 (Exit.then (JS9 N W S0 Tf Lf Cf Inv) Q) .normal T L C) : DN X N W S0 (Exit.then (JS9 N W S0 Tf Lf Cf Inv) Q) .normal T L C := k
variable {ops : Array Oper} {Kn : List (Nat × Nat)} {i : Nat} {bs : List Nat} {L0 : Bx} {Ks : Keys} {T0 : Tm} {f : Nat} {Ls : List Nat} {la : Array Bool}
end rules
end SX
end Go.Proofs.YtejojcoaohlfbaaGreat
namespace Go.Proofs.YtejojcoaohlfbaaGreat
namespace SX
set_option linter.unusedVariables false
set_option linter.unusedSimpArgs false
open Go Go.RowKit
theorem acceptM_parties (h : House) (p : Party) : (acceptM h p).parties = partyCut h.parties p.id := by unfold acceptM; split <;> rfl
end SX
end Go.Proofs.YtejojcoaohlfbaaGreat
namespace Go.Proofs.YtejojcoaohlfbaaGreat
namespace SX
set_option linter.unusedVariables false
set_option linter.unusedSimpArgs false
open Go Go.RowKit
theorem fails_kin {h : House} {p : Party} (hp : HRep h) (hm : p ∈ h.parties) : KinL h.parties (failsM h p).parties := by
  rw [fails_parties]
  split
  · exact KinL.put hp.ids hm ⟨rfl, rfl, rfl, rfl, rfl, rfl, rfl⟩
  · exact KinL.cut _ _
theorem expireGo_kin : ∀ {ids : List Int} {h : House}, HRep h → DueP h.parties ids → KinL h.parties (expireGo ids h).parties
  | [], h, hp, _ => KinL.refl _
  | id :: ids, h, hp, hd => by
    obtain ⟨h1, _, _, h4, h5⟩ := due_step hp hd
    show KinL h.parties (expireGo ids (failsM h (partyOf h.parties id))).parties
    exact (fails_kin hp h1).trans (expireGo_kin h4 h5)
theorem expireM_kin {h : House} {k : Int} (hb : hasCab h k = true) : KinL h.parties (expireM h k).parties := by
  obtain ⟨hp, h0, h1⟩ := hasCab_rep hb
  exact expireGo_kin hp (due_start hp h0)
theorem offered_parties {h : House} {k : Int} : (offeredM h k).parties = partyPut h.parties (offeredP h.rules (partyOf h.parties (nextOffer h k)) h.now) := rfl
theorem offered_kin {h : House} {k : Int} (h0 : nextOffer h k ≠ 0) : KinL h.parties (offeredM h k).parties := by
  obtain ⟨h1, h2, _, _, h5⟩ := next_party h0
  rw [offered_parties]
  exact KinL.put (hasCab_rep h5).1.ids h1 ⟨rfl, rfl, rfl, rfl, rfl, rfl, rfl⟩
theorem scanGo_kin : ∀ (n : Nat) (h : House) (k : Int), KinL h.parties (scanGo n h k).1.parties
  | 0, h, k => KinL.refl _
  | n + 1, h, k => by
    unfold scanGo
    split
    · exact KinL.refl _
    · rename_i h0
      exact (offered_kin h0).trans (scanGo_kin n _ k)
theorem scan_kin (h : House) (k : Int) : KinL h.parties (scan h k).1.parties := by
  unfold scan
  split
  · rename_i hb
    exact (expireM_kin hb).trans (scanGo_kin _ _ k)
  · exact KinL.refl _
theorem pickM_parties (h : House) (w : Int) : (pickM h w).1.parties = if jobAt h w < 0 then h.parties else (scan h (jobAt h w)).1.parties := by
  unfold pickM; split <;> rfl
theorem cancelM_parties (h : House) (p : Party) : (cancelM h p).parties = partyCut h.parties p.id := by unfold cancelM; split <;> rfl
/-- the party of a number that a verdict allows -/
theorem ans_in {h : House} {q : Req} (hv : verdict h q = 0) (hk : q.kind = 2 ∨ q.kind = 4 ∨ q.kind = 5) : ¬ atId h.parties q.id < 0 := by
  have v := (verdict_ok hv).v
  unfold vKind at v
  rcases hk with hk | hk | hk
  · simp only [hk] at v
    intro h1
    simp [h1] at v
  · simp only [hk] at v
    intro h1
    simp [vAns, h1] at v
  · simp only [hk] at v
    intro h1
    simp [vAns, h1] at v
theorem do_kin {h : House} {q : Req} (hp : HRep h) (hk : q.kind ≠ 1 ∨ verdict h q ≠ 0) : KinL h.parties (doM h q).parties := by
  unfold doM
  split
  · rename_i hv
    have hk1 : q.kind ≠ 1 := hk.resolve_right fun h => h hv
    unfold doneM
    rw [if_neg hk1]
    split
    · rw [cancelM_parties]; exact KinL.cut _ _
    · split
      · exact KinL.refl _
      · split
        · rw [acceptM_parties]; exact KinL.cut _ _
        · split
          · rename_i h5
            exact fails_kin hp (partyOf_in (ans_in hv (.inr (.inr h5)))).1
          · split
            · exact KinL.refl _
            · rw [pickM_parties]
              split
              · exact KinL.refl _
              · exact scan_kin h _
  · exact KinL.refl _
theorem do_join {h : House} {q : Req} (hv : verdict h q = 0) (hk : q.kind = 1) : atId h.parties q.id < 0 ∧ doM h q = joinM h q ∧ (doM h q).parties = insL idLess h.parties (joinP h q) := by
  have v := joinV (verdict_ok hv) hk
  have h1 : doM h q = joinM h q := by unfold doM; rw [if_pos hv]; unfold doneM; rw [if_pos hk]
  refine ⟨v.no, h1, ?_⟩
  rw [h1]
  exact partyPut_new (q := joinP h q) v.no
end SX
end Go.Proofs.YtejojcoaohlfbaaGreat
namespace Go.Proofs.YtejojcoaohlfbaaGreat
namespace SX
set_option linter.unusedVariables false
set_option linter.unusedSimpArgs false
open Go Go.RowKit
theorem repl_at (l : List Req) : ∀ (h : House) (k : Nat) (hk : k < l.length), (replGo h l)[k]? = some (verdict (doAllM h (l.take k)) l[k], idsM (doAllM h (l.take k)) l[k]) := by
  induction l with
  | nil => intro h k hk; simp at hk
  | cons q qs ih =>
    intro h k hk
    cases k with
    | zero => simp [replGo, doAllM]
    | succ k =>
      have := ih (doM h q) k (by simpa using hk)
      simpa [replGo, doAllM] using this
/-- a request of a kind that was done -/
def doneAt (l : List Req) (rs : List (Int × List Int)) (i : Nat) (kind : Int) : Bool := match l[i]?, rs[i]? with
  | some q, some r => q.kind == kind && r.1 == 0
  | _, _ => false
def joinOf (l : List Req) (rs : List (Int × List Int)) (id : Int) : Nat → Option Req
  | 0 => none
  | n + 1 => match l[n]? with
    | some q => if q.id == id && doneAt l rs n 1 then some q else joinOf l rs id n
    | none => joinOf l rs id n
def freedN (l : List Req) (rs : List (Int × List Int)) (cab : Int) : Nat → Int
  | 0 => 0
  | n + 1 => match l[n]? with
    | some q => if doneAt l rs n 3 && (q.cabin == cab && inB q.size 1 60) then freedN l rs cab n + q.size else freedN l rs cab n
    | none => freedN l rs cab n
def accN (l : List Req) (rs : List (Int × List Int)) (t : Req → Bool) : Nat → Int
  | 0 => 0
  | n + 1 => match l[n]? with
    | some q => if doneAt l rs n 4 then (match joinOf l rs q.id n with
      | some j => if inB j.size 1 6 && t j then accN l rs t n + j.size else accN l rs t n
      | none => accN l rs t n) else accN l rs t n
    | none => accN l rs t n
theorem freed_rng (l : List Req) (rs : List (Int × List Int)) (cab : Int) : ∀ n : Nat, 0 ≤ freedN l rs cab n ∧ freedN l rs cab n ≤ 60 * (n : Int)
  | 0 => by simp [freedN]
  | n + 1 => by
    have ih := freed_rng l rs cab n
    unfold freedN
    split
    · split
      · rename_i h
        simp only [Bool.and_eq_true, inB, decide_eq_true_eq] at h
        omega
      · omega
    · omega
theorem acc_rng (l : List Req) (rs : List (Int × List Int)) (t : Req → Bool) : ∀ n : Nat, 0 ≤ accN l rs t n ∧ accN l rs t n ≤ 6 * (n : Int)
  | 0 => by simp [accN]
  | n + 1 => by
    have ih := acc_rng l rs t n
    unfold accN
    split
    · split
      · split
        · split
          · rename_i h
            simp only [Bool.and_eq_true, inB, decide_eq_true_eq] at h
            omega
          · omega
        · omega
      · omega
    · omega
theorem freed_on {l : List Req} {rs : List (Int × List Int)} {cab : Int} {n : Nat} (hn : n < l.length) : freedN l rs cab (n + 1) = if doneAt l rs n 3 && (l[n].cabin == cab && inB l[n].size 1 60) then freedN l rs cab n + l[n].size else freedN l rs cab n := by
  rw [freedN, List.getElem?_eq_getElem hn]
theorem acc_on {l : List Req} {rs : List (Int × List Int)} {t : Req → Bool} {n : Nat} (hn : n < l.length) : accN l rs t (n + 1) = if doneAt l rs n 4 then (match joinOf l rs l[n].id n with
      | some j => if inB j.size 1 6 && t j then accN l rs t n + j.size else accN l rs t n
      | none => accN l rs t n) else accN l rs t n := by
  rw [accN, List.getElem?_eq_getElem hn]
theorem join_on {l : List Req} {rs : List (Int × List Int)} {id : Int} {n : Nat} (hn : n < l.length) : joinOf l rs id (n + 1) = if l[n].id == id && doneAt l rs n 1 then some l[n] else joinOf l rs id n := by
  rw [joinOf, List.getElem?_eq_getElem hn]
theorem done_on {l : List Req} {h : House} {n : Nat} (hn : n < l.length) (kind : Int) : doneAt l (replGo h l) n kind = (l[n].kind == kind && verdict (doAllM h (l.take n)) l[n] == 0) := by
  unfold doneAt
  rw [List.getElem?_eq_getElem hn, repl_at l h n hn]
theorem lp_of {h : House} {k : Nat} {c : Cabin} (hp : HRep h) (hc : h.cabins[k]? = some c) : LP c.seats := ledgerOk_iff.1 (hp.cab k c hc).2.1.led
theorem SoldSame.mod {a : List Cabin} {k : Int} {f : Cabin → Cabin} (h0 : 0 ≤ k) (hf : ∀ c, a[k.toNat]? = some c → (f c).seats.sold = c.seats.sold) : SoldSame a (modC a k f) := fun i c hc => by
  refine ⟨_, modC_at h0 hc, ?_⟩
  split
  · rename_i he
    exact hf c (by rw [he]; simpa using hc)
  · rfl
theorem hold_of {h : House} {p : Party} {c : Cabin} (hp : HRep h) (hm : p ∈ h.parties) (hs : p.state = 2) (hc : h.cabins[p.cabin.toNat]? = some c) : p.size ≤ c.seats.held := by
  have g := hp.pr hm
  have gc := g.cab
  have hge := held_ge (k := ((p.cabin.toNat : Nat) : Int)) hp.good (partyCut_perm hp.good.ids hm)
  rw [← (hp.cab _ c hc).2.1.held] at hge
  have e : ((p.cabin.toNat : Nat) : Int) = p.cabin := by omega
  rw [e, heldW_yes ⟨hs, rfl⟩] at hge
  exact hge.1
theorem tied_of {h : House} {p : Party} {c : Cabin} (hp : HRep h) (hm : p ∈ h.parties) (hf : 0 ≤ p.from') (hc : h.cabins[p.from'.toNat]? = some c) : p.size ≤ c.seats.tied := by
  have hge := held_ge (k := ((p.from'.toNat : Nat) : Int)) hp.good (partyCut_perm hp.good.ids hm)
  rw [← (hp.cab _ c hc).2.1.tied, tiedW_yes (by omega)] at hge
  exact hge.2
theorem drop_sold {h : House} {p : Party} {c : Cabin} (hp : HRep h) (hm : p ∈ h.parties) (hs : p.state = 2) (hc : h.cabins[p.cabin.toNat]? = some c) : (dropC p c).seats.sold = c.seats.sold := by
  have g := (hp.pr hm).size
  have := ((lp_of hp hc).drop (n := p.size) (by omega) (hold_of hp hm hs hc)).1
  unfold dropC
  dsimp only
  rw [this]
/-- a party that goes unties seats alone -/
theorem gone_sold {a : List Cabin} {h1 : House} {p : Party} (hc : SoldSame a h1.cabins) (hl : ∀ c, 0 ≤ p.from' → h1.cabins[p.from'.toNat]? = some c → (lUntie c.seats p.size).sold = c.seats.sold) : SoldSame a (goneM h1 p).cabins := by
  unfold goneM
  dsimp only
  split
  · exact hc
  · exact hc.trans (SoldSame.mod (by omega) fun c h9 => hl c (by omega) h9)
theorem untie_sold {l : Ledger} {n : Int} (h : LP l) (hn : 0 ≤ n ∧ n ≤ 60) (ht : n ≤ l.tied) : (lUntie l n).sold = l.sold := by rw [(h.untie hn ht).1]
theorem dropGone_sold {h : House} {p : Party} (hp : HRep h) (hm : p ∈ h.parties) (hs : p.state = 2) : SoldSame h.cabins (goneM (dropM h p) p).cabins := by
  have g := hp.pr hm
  have g1 := g.cab; have g2 := g.frm; have g3 := g.ne; have g4 := g.size
  refine gone_sold (SoldSame.mod g1.1 fun c hc => drop_sold hp hm hs hc) fun c h0 hc => ?_
  have hcb := hp.cabs
  obtain ⟨c0, hc0⟩ : ∃ c, h.cabins[p.from'.toNat]? = some c := ⟨_, List.getElem?_eq_getElem (by omega)⟩
  have h1 : (dropM h p).cabins[p.from'.toNat]? = some c0 := by
    show (modC h.cabins p.cabin (dropC p))[p.from'.toNat]? = _
    rw [modC_at g1.1 hc0, if_neg (by omega)]
  rw [h1] at hc; injection hc with hc; subst hc
  exact untie_sold (lp_of hp hc0) (by omega) (tied_of hp hm h0 hc0)
theorem cutGone_sold {h : House} {p : Party} (hp : HRep h) (hm : p ∈ h.parties) : SoldSame h.cabins (goneM ⟨h.rules, h.now, h.turn, h.parties, modC h.cabins p.cabin (rowCut p.id), h.todo, h.jobs⟩ p).cabins := by
  have g := hp.pr hm
  have g1 := g.cab; have g2 := g.frm; have g3 := g.ne; have g4 := g.size
  refine gone_sold (h1 := ⟨h.rules, h.now, h.turn, h.parties, modC h.cabins p.cabin (rowCut p.id), h.todo, h.jobs⟩) (SoldSame.mod g1.1 fun c hc => rfl) fun c h0 hc => ?_
  have hcb := hp.cabs
  obtain ⟨c0, hc0⟩ : ∃ c, h.cabins[p.from'.toNat]? = some c := ⟨_, List.getElem?_eq_getElem (by omega)⟩
  have h1 : (modC h.cabins p.cabin (rowCut p.id))[p.from'.toNat]? = some c0 := by rw [modC_at g1.1 hc0, if_neg (by omega)]
  dsimp only at hc
  rw [h1] at hc; injection hc with hc; subst hc
  exact untie_sold (lp_of hp hc0) (by omega) (tied_of hp hm h0 hc0)
theorem fails_sold {h : House} {p : Party} (hp : HRep h) (hm : p ∈ h.parties) (hs : p.state = 2) : SoldSame h.cabins (failsM h p).cabins := by
  unfold failsM
  split
  · exact SoldSame.mod (hp.pr hm).cab.1 fun c hc => drop_sold hp hm hs hc
  · exact dropGone_sold hp hm hs
theorem expireGo_sold : ∀ {ids : List Int} {h : House}, HRep h → DueP h.parties ids → SoldSame h.cabins (expireGo ids h).cabins
  | [], h, hp, _ => SoldSame.refl _
  | id :: ids, h, hp, hd => by
    obtain ⟨h1, _, h3, h4, h5⟩ := due_step hp hd
    show SoldSame h.cabins (expireGo ids (failsM h (partyOf h.parties id))).cabins
    exact (fails_sold hp h1 h3).trans (expireGo_sold h4 h5)
theorem offered_sold {h : House} {k : Int} (h0 : nextOffer h k ≠ 0) : SoldSame h.cabins (offeredM h k).cabins := by
  obtain ⟨p, c, hm, hid, hst, hcab, hc, hfit, hb⟩ := nextOffer_party h0
  have hp := (hasCab_rep hb).1
  have he : partyOf h.parties (nextOffer h k) = p := by rw [← hid]; exact partyOf_mem hp.ids hm
  have g := hp.pr hm
  have g1 := g.size
  unfold offeredM
  rw [he]
  refine SoldSame.mod g.cab.1 fun c' hc' => ?_
  rw [hcab, hc] at hc'; injection hc' with hc'; subst hc'
  unfold holdC
  dsimp only
  rw [((lp_of hp hc).hold (n := p.size) (by omega) hfit).1]
theorem scanGo_sold : ∀ (n : Nat) (h : House) (k : Int), SoldSame h.cabins (scanGo n h k).1.cabins
  | 0, h, k => SoldSame.refl _
  | n + 1, h, k => by
    unfold scanGo
    split
    · exact SoldSame.refl _
    · rename_i h0
      exact (offered_sold h0).trans (scanGo_sold n _ k)
theorem scan_sold (h : House) (k : Int) : SoldSame h.cabins (scan h k).1.cabins := by
  unfold scan
  split
  · rename_i hb
    obtain ⟨hp, h0, h1⟩ := hasCab_rep hb
    exact (expireGo_sold hp (due_start hp h0)).trans (scanGo_sold _ _ k)
  · exact SoldSame.refl _
theorem join_sold {h : House} {q : Req} (hp : HRep h) (v : JoinV h q) : SoldSame h.cabins (joinM h q).cabins := by
  have v1 := v.cab; have v2 := v.frm; have v4 := v.size; have v3 := v.ne
  have hr := (rr_of hp.rules).size
  have hcb := hp.cabs
  unfold joinM
  dsimp only
  split
  · exact SoldSame.mod v1.1 fun c hc => rfl
  · refine (SoldSame.mod (f := rowPut (entryOf h.rules (joinP h q) h.now)) v1.1 fun c hc => rfl).trans (SoldSame.mod (by omega) fun c hc => ?_)
    obtain ⟨c0, hc0⟩ : ∃ c, h.cabins[q.from'.toNat]? = some c := ⟨_, List.getElem?_eq_getElem (by omega)⟩
    rw [modC_at v1.1 hc0, if_neg (by omega)] at hc
    injection hc with hc; subst hc
    have := ((lp_of hp hc0).tie (n := q.size) (by omega) (v.tied c0 (by omega) hc0)).1
    show (lTie c0.seats q.size).sold = _
    rw [this]
/-- requests that sell and free nothing -/
theorem do_sold {h : House} {q : Req} (hp : HRep h) (hk : verdict h q ≠ 0 ∨ q.kind ≠ 3 ∧ q.kind ≠ 4) : SoldSame h.cabins (doM h q).cabins := by
  by_cases hv : verdict h q = 0
  · have hk1 := hk.resolve_left fun w => w hv
    unfold doM
    rw [if_pos hv]
    unfold doneM
    split
    · rename_i h1
      exact join_sold hp (joinV (verdict_ok hv) h1)
    · split
      · rename_i h2
        have hm := (partyOf_in (ans_in hv (.inl h2))).1
        have hst := (hp.pr hm).st
        unfold cancelM
        split
        · rename_i hs
          exact dropGone_sold hp hm hs
        · exact cutGone_sold hp hm
      · rw [if_neg hk1.1, if_neg hk1.2]
        split
        · rename_i h5
          have v := (verdict_ok hv).v
          simp only [vKind, h5] at v
          have hs : (partyOf h.parties q.id).state = 2 := by
            simp only [vAns] at v
            by_cases hs : (partyOf h.parties q.id).state = 2
            · exact hs
            · simp [hs] at v
              split at v <;> omega
          exact fails_sold hp (partyOf_in (ans_in hv (.inr (.inr h5)))).1 hs
        · split
          · intro i c hc
            have h9 := tickC_at h h.cabins.length h.cabins 0 i c hc
            rw [Nat.zero_add, if_pos (List.getElem?_eq_some_iff.1 hc).1] at h9
            exact ⟨_, h9, rfl⟩
          · unfold pickM
            split
            · exact SoldSame.refl _
            · exact scan_sold h _
  · unfold doM
    rw [if_neg hv]
    exact SoldSame.refl _
end SX
end Go.Proofs.YtejojcoaohlfbaaGreat
namespace Go.Proofs.YtejojcoaohlfbaaGreat
namespace SX
open Go Go.RowKit
set_option linter.unusedVariables false
set_option linter.unusedSimpArgs false
set_option maxRecDepth 10000
set_option maxHeartbeats 1000000
attribute [local irreducible] CD DN OPL AT QL QT CND RETG BKP HL HT HO slA slHo slP ptC pull pulls
set_option maxHeartbeats 4000000
instance sDoAll_c : HC 42 (∀ (W : World) (cs : List Value) (h : House) (l : List Req) (v : Value), HsR W cs h → HouseSz h → Rs reqL W v l → l.length ≤ 1048576 →Sp W [] 42 #[.agg cs.toArray, v] (RT2 (RHs (doAllM h l)) (RO 80 (replyL 3) (replGo h l)))) := by
 refine ⟨fun W cs h l v hh hsz hv0 hln => ?_⟩
 obtain ⟨a9, c9, rfl, hc9, hr9⟩ := hv0
 have hh1 := hh; obtain ⟨a1, c1, a2, c2, a3, c3, a4, c4, a5, c5, rfl, h1, h2, h3, h4, h5, h6, h7, h8, h9, h10⟩ := hh
 refine gENT (vs := [_, _]) Tryz.func42 ?_
 repeat' first | (refine idAT ?_; refine aBU0 (e := 80) (replyL 3) (k := fun _ => ?_)) | refine ST ?_ | refine ST2 ?_ | intro _ | apply And.intro
 rename_i q1 e0
 refine gFORG 8 l.length (fun q : House × H5 × HH × List (Int × List Int) => [(7, .v (.slice q.2.2.1.1 q.2.2.2.length q.2.2.1.2))]) [(2, fun q => hCl q.1 q.2.1)] (fun q => hOs q.1 q.2.1 ++ [slA 80 (replyL 3) (.slice q.2.2.1.1 q.2.2.2.length q.2.2.1.2) q.2.2.2]) (fun k q => HouseSz q.1 ∧ q.1 = doAllM h (l.take k) ∧ q.2.2.2 = replGo h (l.take k)) (h, q1, (e0, 0), []) (hp := (by first | exact plS PU (plS PU (pl0)) | exact plS PU (plS PU (plS PU (pl0))) | exact plS PU (plS PU (plS PU (plS PU (pl0)))) | exact plS PU (pl0) | exact plS PU (plS PU (plS PU (plS PU (plS PU (plS PU (pl0)))))) | exact plS PU (plS PU (plS PU (plS PU (plS PU (plS PU (plS PU (pl0))))))) | exact plS PU (plS PU (plS PU (plS PU (plS PU (plS PU (plS PU (plS PU (pl0)))))))) | exact plS PU (plS PU (plS PU (plS PU (plS PU (plS PU (plS PU (plS PU (plS PU (pl0))))))))) | exact plS PU (plS PU (plS PU (plS PU (plS PU (plS PU (plS PU (plS PU (plS PU (plS PU (plS PU (plS PU (pl0)))))))))))) | exact plS PU (plS PU (plS PU (plS PU (plS PU (plS PU (plS PU (plS PU (plS PU (plS PU (plS PU (pl0))))))))))) | exact plS PU (plS PU (plS PU (plS PU (plS PU (plS PU (plS PU (plS PU (plS PU (plS PU (pl0)))))))))))) (h0 := ⟨hsz, rfl, rfl⟩) (body := fun k q hk hi => ?_)
 obtain ⟨x, ⟨⟨b1, d1⟩, ⟨b2, d2⟩, ⟨b3, d3⟩, ⟨b4, d4⟩, b5, d5⟩, ⟨e, f⟩, ys⟩ := q
 obtain ⟨hsx, i2, i3⟩ : HouseSz x ∧ x = doAllM h (l.take k) ∧ ys = replGo h (l.take k) := hi
 clear hh1 h1 h2 h3 h4 h5 h6 h7 h8 h9 h10 hsz
 have hyl := all_len i3
 by_cases hkl : k < l.length
 · have hs2 : HouseSz (doM x l[k]) := do_sz9 hsx
   have hst := all_step hkl i2 i3
   repeat' first | exact absurd hkl ‹¬ k < l.length› | (refine idAT ?_; refine aBUR (k := ?_)) | refine ST ?_ | refine ST2 ?_ | intro _ | apply And.intro
   all_goals first
    | (rename_i x9 _ _ e9 c9 _
       refine gGBACK (doM x l[k], x9.1, (e9, c9), ys ++ [(verdict x l[k], idsM x l[k])]) hkl (hLx := by rfl) (hp := (by first | exact plS PU (plS PU (pl0)) | exact plS PU (plS PU (plS PU (pl0))) | exact plS PU (plS PU (plS PU (plS PU (pl0)))) | exact plS PU (pl0) | exact plS PU (plS PU (plS PU (plS PU (plS PU (plS PU (pl0)))))) | exact plS PU (plS PU (plS PU (plS PU (plS PU (plS PU (plS PU (pl0))))))) | exact plS PU (plS PU (plS PU (plS PU (plS PU (plS PU (plS PU (plS PU (pl0)))))))) | exact plS PU (plS PU (plS PU (plS PU (plS PU (plS PU (plS PU (plS PU (plS PU (pl0))))))))) | exact plS PU (plS PU (plS PU (plS PU (plS PU (plS PU (plS PU (plS PU (plS PU (plS PU (plS PU (plS PU (pl0)))))))))))) | exact plS PU (plS PU (plS PU (plS PU (plS PU (plS PU (plS PU (plS PU (plS PU (plS PU (plS PU (pl0))))))))))) | exact plS PU (plS PU (plS PU (plS PU (plS PU (plS PU (plS PU (plS PU (plS PU (plS PU (pl0)))))))))))) (h := ?_)
       exact ⟨hs2, hst.1, hst.2⟩)
    | trace_state
 · obtain ⟨j1, j2⟩ := all_end hkl i2 i3
   repeat' first | exact absurd ‹k < l.length› hkl | refine ST ?_ | refine ST2 ?_ | intro _ | apply And.intro
   all_goals first | exact j1 | exact j2 | trace_state
end SX
end Go.Proofs.YtejojcoaohlfbaaGreat
