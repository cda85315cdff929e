/- Texts of this claim, put together by program. -/
import Derived.Test.YtejojcoaohlfbaaGreatSu6
import Derived.Test.YtejojcoaohlfbaaGreatSu5
import Derived.Test.YtejojcoaohlfbaaGreatSxd
namespace Go.Proofs.YtejojcoaohlfbaaGreat
namespace SX
set_option linter.unusedVariables false
set_option linter.unusedSimpArgs false
open Go Go.RowKit
section rules
variable {X : List Nat} {P : Program} {N : Nat} {W : World} {S0 : List Nat} {Q : Exit → Go.Act → World → Prop} {T : Tm} {L : Bx} {C : List Ass} {ops : Array Oper} {Kn : List (Nat × Nat)} {i : Nat} {bs : List Nat} {L0 : Bx} {Ks : Keys} {T0 : Tm} {f : Nat} {Ls : List Nat} {la : Array Bool} {R : List Ass}
variable {t : TypeId} {x lo : Operand} {d : Nat} {ty : TypeId} {a : Option Addr} {n cap : Nat} {kl : IntKind} {z e sz : Nat} {α : Type} {La : Lay α} {xs : List α}
theorem aCH [TB P] (hl : evv T lo = some (.int kl (z : Int)) := by conv => lhs; whnf) (hx : evv T x = some (.slice a n cap) := by conv => lhs; whnf) (he : lkn (TB.D P).row t = some (e, sz) := by conv => lhs; whnf) (hr : Rd La W a xs) (hn : n = xs.length := by rfl) (hc : n ≤ cap) (hz : z ≤ n)
 (k : ∀ a' : Option Addr, Rd La W a' (xs.take z) → (xs.take z).length ≤ cap → OPL X P N W S0 ops Q Kn (i + 1) ((d, .v (.slice a' (xs.take z).length cap)) :: T) L C) (hi : Nat.blt i ops.size = true := by rfl)
 (ho : opAt ops T i = some (.slice t x none (some lo) none, some d, ty) := by kernel_rfl) (hd : d < N := by exact NL rfl) (hu : P.underlying t = some (.slice e) := by kernel_rfl) (hs : (P.info? e).map (·.size) = some La.sz := by kernel_rfl) :
 AT (.op (.slice t x none (some lo) none) (some d) ty) X P N W S0 ops Q Kn i T L C := by
 subst hn
 refine opsOne (lt_of_blt hi) (CUTH t x lo d ty ho hd a _ cap kl z hx hl e La xs hu hs (by omega) (by omega) rfl hc fun a' h => ?_)
 have e1 : (xs.take z).length = z := by rw [List.length_take]; omega
 have := k a' (h W hr) (by omega)
 rw [e1] at this
 exact this
theorem aCL [TB P] (hl : evv T lo = some (.int kl (z : Int)) := by conv => lhs; whnf) (hx : evv T x = some (.slice a n cap) := by conv => lhs; whnf) (he : lkn (TB.D P).row t = some (e, sz) := by conv => lhs; whnf) (hr : Rd La W a xs) (hn : n = xs.length := by rfl) (hc : n ≤ cap) (hz : z ≤ n)
 (k : ∀ a' : Option Addr, Rd La W a' (xs.drop z) → (xs.drop z).length ≤ cap - z → OPL X P N W S0 ops Q Kn (i + 1) ((d, .v (.slice a' (xs.drop z).length (cap - z))) :: T) L C) (hi : Nat.blt i ops.size = true := by rfl)
 (ho : opAt ops T i = some (.slice t x (some lo) none none, some d, ty) := by kernel_rfl) (hd : d < N := by exact NL rfl) (hu : P.underlying t = some (.slice e) := by kernel_rfl) (hs : (P.info? e).map (·.size) = some La.sz := by kernel_rfl) :
 AT (.op (.slice t x (some lo) none none) (some d) ty) X P N W S0 ops Q Kn i T L C := by
 subst hn
 refine opsOne (lt_of_blt hi) (CUTL t x lo d ty ho hd a _ cap kl z hx hl e La xs hu hs (by omega) (by omega) rfl hc fun a' h => ?_)
 have e1 : (xs.drop z).length = xs.length - z := by rw [List.length_drop]
 have := k a' (h W hr) (by omega)
 rw [e1] at this
 exact this
theorem hCH [TB P] (hl : evv T lo = some (.int kl (z : Int)) := by conv => lhs; whnf) (hx : evv T x = some (.slice a n cap) := by conv => lhs; whnf) (he : lkn (TB.D P).row t = some (e, sz) := by conv => lhs; whnf) (hr : Rd La W a xs) (hn : n = xs.length := by rfl) (hc : n ≤ cap) (hz : z ≤ n)
 (k : ∀ a' : Option Addr, Rd La W a' (xs.take z) → (xs.take z).length ≤ cap → HL X P N W S0 ops Q bs L0 Ks T0 f (i :: Ls) (la.setIfInBounds i true) Kn ((d, .v (.slice a' (xs.take z).length cap)) :: T) L C) (hC : KP (frz bs L0) Ks Ls la C := by exact KP.mk)
 (hk : takeB ops la Ks i = true := by kernel_rfl)
 (ho : opAt ops T i = some (.slice t x none (some lo) none, some d, ty) := by kernel_rfl) (hd : d < N := by exact NL rfl) (hu : P.underlying t = some (.slice e) := by kernel_rfl) (hs : (P.info? e).map (·.size) = some La.sz := by kernel_rfl) :
 HT (.op i (.slice t x none (some lo) none) (some d) ty) X P N W S0 ops Q bs L0 Ks T0 (f + 1) Ls la Kn T L C := by
 subst hn
 obtain ⟨js9, h9⟩ := hC.pulls
 refine HDCUTH t x lo d ty ho hd a _ cap kl z hx hl e La xs hu hs (by omega) (by omega) rfl hc hk h9 fun a' h => ?_
 have e1 : (xs.take z).length = z := by rw [List.length_take]; omega
 have := k a' (h W hr) (by omega)
 rw [e1] at this
 exact this
theorem hCL [TB P] (hl : evv T lo = some (.int kl (z : Int)) := by conv => lhs; whnf) (hx : evv T x = some (.slice a n cap) := by conv => lhs; whnf) (he : lkn (TB.D P).row t = some (e, sz) := by conv => lhs; whnf) (hr : Rd La W a xs) (hn : n = xs.length := by rfl) (hc : n ≤ cap) (hz : z ≤ n)
 (k : ∀ a' : Option Addr, Rd La W a' (xs.drop z) → (xs.drop z).length ≤ cap - z → HL X P N W S0 ops Q bs L0 Ks T0 f (i :: Ls) (la.setIfInBounds i true) Kn ((d, .v (.slice a' (xs.drop z).length (cap - z))) :: T) L C) (hC : KP (frz bs L0) Ks Ls la C := by exact KP.mk)
 (hk : takeB ops la Ks i = true := by kernel_rfl)
 (ho : opAt ops T i = some (.slice t x (some lo) none none, some d, ty) := by kernel_rfl) (hd : d < N := by exact NL rfl) (hu : P.underlying t = some (.slice e) := by kernel_rfl) (hs : (P.info? e).map (·.size) = some La.sz := by kernel_rfl) :
 HT (.op i (.slice t x (some lo) none none) (some d) ty) X P N W S0 ops Q bs L0 Ks T0 (f + 1) Ls la Kn T L C := by
 subst hn
 obtain ⟨js9, h9⟩ := hC.pulls
 refine HDCUTL t x lo d ty ho hd a _ cap kl z hx hl e La xs hu hs (by omega) (by omega) rfl hc hk h9 fun a' h => ?_
 have e1 : (xs.drop z).length = xs.length - z := by rw [List.length_drop]
 have := k a' (h W hr) (by omega)
 rw [e1] at this
 exact this
end rules
def partyOk (r : Rules) (p : Party) (now : Int) : Bool :=
 rulesOk r && inB now 0 1000000 && inB p.id 1 999 && inB p.cabin 0 (wr (r.seats.length - 1)) && inB p.from' (-1) (wr (r.seats.length - 1)) && !(p.from' == p.cabin) &&
 inB p.size 1 r.size && inB p.tier 0 (wr (r.tiers - 1)) && inB p.since 0 now && inB p.turn 1 1000000 && inB p.asked 0 (wr (r.tries - 1)) &&
 ((p.state == 1 && inB p.until' 0 (wr (now + r.rest))) || (p.state == 2 && inB p.until' 1 (wr (now + r.window))))
def levelAt (r : Rules) (tier waited : Int) : Int := if 0 > wr (tier - wr (Int.tdiv waited r.period)) then 0 else wr (tier - wr (Int.tdiv waited r.period))
def levelOf (r : Rules) (p : Party) (now : Int) : Int := if partyOk r p now then levelAt r p.tier (wr (now - p.since)) else -1
def entryOk (r : Rules) (p : Party) (now : Int) : Bool := !(decide (levelOf r p now < 0)) && p.state == 1
def entryOf (r : Rules) (p : Party) (now : Int) : Entry := if entryOk r p now then ⟨levelOf r p now, p.turn, p.id, p.size⟩ else ⟨0, 0, 0, 0⟩
def ledgerOk (l : Ledger) : Bool := inB l.total 1 60 && inB l.free 0 l.total && inB l.held 0 l.total && inB l.sold 0 l.total && wr (wr (l.free + l.held) + l.sold) == l.total && inB l.tied 0 l.sold
theorem per_pos {r : Rules} {p : Party} {now : Int} (h : partyOk r p now = true) : 1 ≤ r.period := by
 have h9 : rulesOk r = true := by
  simp only [partyOk, Bool.and_eq_true] at h
  exact h.1.1.1.1.1.1.1.1.1.1.1
 simp [rulesOk, inB] at h9; omega
def qIns : List Entry → Entry → List Entry
 | [], e => [e]
 | y :: ys, e => if entryLess y e then y :: qIns ys e else e :: y :: ys
def pIns : List Pin → Pin → List Pin
 | [], e => [e]
 | y :: ys, e => if pinLess y e then y :: pIns ys e else e :: y :: ys
theorem qIns_len : ∀ (l : List Entry) (e : Entry), (qIns l e).length = l.length + 1
 | [], e => rfl
 | y :: ys, e => by unfold qIns; split <;> simp [qIns_len ys e]
theorem pIns_len : ∀ (l : List Pin) (e : Pin), (pIns l e).length = l.length + 1
 | [], e => rfl
 | y :: ys, e => by unfold pIns; split <;> simp [pIns_len ys e]
def queueOf (r : Rules) : List Party → Int → Int → List Entry
 | [], _, _ => []
 | p :: ps, cabin, now => if entryOk r p now && p.cabin == cabin then qIns (queueOf r ps cabin now) (entryOf r p now) else queueOf r ps cabin now
def pinsGo : List Party → Int → List Pin → List Pin
 | [], _, out => out
 | p :: ps, cabin, out => pinsGo ps cabin (if p.state == 2 && p.cabin == cabin then pIns out ⟨p.until', p.id⟩ else out)
def heldGo : List Party → Int → Int → Int
 | [], _, n => n
 | p :: ps, cabin, n => heldGo ps cabin (if p.state == 2 && p.cabin == cabin && inB p.size 1 6 then wr (n + p.size) else n)
def tiedGo : List Party → Int → Int → Int
 | [], _, n => n
 | p :: ps, cabin, n => tiedGo ps cabin (if p.from' == cabin && inB p.size 1 6 then wr (n + p.size) else n)
def countGo : List Party → Int → Int → Int
 | [], _, n => n
 | p :: ps, cabin, n => countGo ps cabin (if p.cabin == cabin then wr (n + 1) else n)
def PinR (p : Pin) : Prop := inB p.at' 1 1000008 = true ∧ inB p.id 1 999 = true
def SpokeP (i : Nat) (l : List Pin) : Prop := ∀ (m : Nat) (x : Pin), l[m]? = some x → Int.tmod x.at' 9 = (i : Int) ∧ (0 < m → ∀ y, l[m - 1]? = some y → pinLess y x = true)
def WheelP (wh : Wheel) : Prop :=
 wh.spoke.length = 9 ∧ wh.spoke.flatten.length ≤ 10 ∧ (∀ p ∈ wh.spoke.flatten, PinR p) ∧ (wh.spoke.flatten.map (·.id)).Nodup ∧ ∀ (i : Nat) (l : List Pin), wh.spoke[i]? = some l → SpokeP i l
open Classical in
noncomputable def wheelOk (wh : Wheel) : Bool := decide (WheelP wh)
theorem wheelOk_t {wh : Wheel} (h : WheelP wh) : wheelOk wh = true := by simp [wheelOk, h]
theorem wheelOk_f {wh : Wheel} (h : ¬ WheelP wh) : wheelOk wh = false := by simp [wheelOk, h]
theorem wheelP_of {wh : Wheel} (h : wheelOk wh = true) : WheelP wh := by simpa [wheelOk] using h
theorem ids_no {l : List Pin} {i j : Nat} {x y : Pin} (hij : i < j) (hx : l[i]? = some x) (hy : l[j]? = some y) (he : x.id = y.id) : ¬ (l.map (·.id)).Nodup := by
 intro h
 rw [List.Nodup, List.pairwise_iff_getElem] at h
 obtain ⟨h1, rfl⟩ := List.getElem?_eq_some_iff.1 hx
 obtain ⟨h2, rfl⟩ := List.getElem?_eq_some_iff.1 hy
 have := h i j (by simpa using h1) (by simpa using h2) hij
 simp only [List.getElem_map] at this
 exact this he
def EntryR (e : Entry) : Prop := inB e.level 0 4 = true ∧ inB e.turn 1 1000000 = true ∧ inB e.id 1 999 = true ∧ inB e.size 1 6 = true
def QueueP (l : List Entry) : Prop :=
 l.length ≤ 10 ∧ ∀ (i : Nat) (e : Entry), l[i]? = some e → EntryR e ∧ (0 < i → ∀ y, l[i - 1]? = some y → entryLess y e = true) ∧ ∀ (j : Nat) (y : Entry), j < i → l[j]? = some y → y.id ≠ e.id
open Classical in
noncomputable def queueOk (l : List Entry) : Bool := decide (QueueP l)
theorem queueOk_t {l : List Entry} (h : QueueP l) : queueOk l = true := by simp [queueOk, h]
theorem queueP_of {l : List Entry} (h : queueOk l = true) : QueueP l := by simpa [queueOk] using h
def queueAt : List Entry → Int → Nat → Int
 | [], _, _ => -1
 | e :: es, id, k => if e.id == id then (k : Int) else queueAt es id (k + 1)
theorem queueAt_spec : ∀ (l : List Entry) (id : Int) (k : Nat), (queueAt l id k = -1 ∧ ∀ e ∈ l, e.id ≠ id) ∨ (∃ (i : Nat) (e : Entry), l[i]? = some e ∧ e.id = id ∧ queueAt l id k = ((k + i : Nat) : Int) ∧ ∀ (j : Nat) (y : Entry), j < i → l[j]? = some y → y.id ≠ id)
 | [], id, k => .inl ⟨rfl, fun e h => absurd h (List.not_mem_nil)⟩
 | e :: es, id, k => by
   unfold queueAt
   by_cases he : e.id = id
   · rw [if_pos (by simpa using he)]
     exact .inr ⟨0, e, rfl, he, rfl, fun j y h => absurd h (Nat.not_lt_zero _)⟩
   · rw [if_neg (by simpa using he)]
     rcases queueAt_spec es id (k + 1) with ⟨h1, h2⟩ | ⟨i, y, h1, h2, h3, h4⟩
     · refine .inl ⟨h1, fun z hz => ?_⟩
       rcases List.mem_cons.1 hz with rfl | hz
       · exact he
       · exact h2 z hz
     · refine .inr ⟨i + 1, y, by simpa using h1, h2, by rw [h3]; congr 1; omega, fun j z hj hz => ?_⟩
       cases j with
       | zero => simp at hz; subst hz; exact he
       | succ j => exact h4 j z (by omega) (by simpa using hz)
def pinsSort (l : List Pin) : List Pin := l.foldl pIns []
noncomputable def pinsOf (wh : Wheel) : List Pin := if wheelOk wh = true then pinsSort wh.spoke.flatten else []
noncomputable def cabinOk (c : Cabin) : Bool := ledgerOk c.seats && queueOk c.row && wheelOk c.wheel
def sameRow : List Entry → List Entry → Bool
 | [], [] => true
 | a :: as, b :: bs => a.level == b.level && (a.turn == b.turn && (a.id == b.id && (a.size == b.size && true))) && sameRow as bs
 | _, _ => false
def samePins : List Pin → List Pin → Bool
 | [], [] => true
 | a :: as, b :: bs => a.at' == b.at' && (a.id == b.id && true) && samePins as bs
 | _, _ => false
theorem sameRow_iff : ∀ (a b : List Entry), sameRow a b = true ↔ a = b
 | [], [] => by simp [sameRow]
 | [], _ :: _ => by simp [sameRow]
 | _ :: _, [] => by simp [sameRow]
 | ⟨l1, t1, i1, s1⟩ :: as, ⟨l2, t2, i2, s2⟩ :: bs => by
   simp only [sameRow, Bool.and_eq_true, beq_iff_eq, Bool.and_true, sameRow_iff as bs, List.cons.injEq, Entry.mk.injEq]
theorem samePins_iff : ∀ (a b : List Pin), samePins a b = true ↔ a = b
 | [], [] => by simp [samePins]
 | [], _ :: _ => by simp [samePins]
 | _ :: _, [] => by simp [samePins]
 | ⟨a1, i1⟩ :: as, ⟨a2, i2⟩ :: bs => by
   simp only [samePins, Bool.and_eq_true, beq_iff_eq, Bool.and_true, samePins_iff as bs, List.cons.injEq, Pin.mk.injEq]
noncomputable def agrees (r : Rules) (c : Cabin) (list : List Party) (cabin now : Int) : Bool :=
 cabinOk c && sameRow c.row (queueOf r list cabin now) && samePins (pinsOf c.wheel) (pinsGo list cabin []) && c.seats.held == heldGo list cabin 0 && c.seats.tied == tiedGo list cabin 0
def PartiesP (h : House) : Prop :=
 ∀ (i : Nat) (p : Party), h.parties[i]? = some p → partyOk h.rules p h.now = true ∧ p.turn < h.turn ∧ (0 < i → ∀ q, h.parties[i - 1]? = some q → q.id < p.id) ∧
   ∀ (j : Nat) (q : Party), j < i → h.parties[j]? = some q → q.turn ≠ p.turn ∧ ¬ (q.turn < p.turn ∧ p.since < q.since) ∧ ¬ (p.turn < q.turn ∧ q.since < p.since)
def JobsP (h : House) : Prop :=
 (∀ (i : Nat) (x : Int), h.todo[i]? = some x → inB x 0 (wr (h.cabins.length - 1)) = true ∧ ∀ (j : Nat) (y : Int), j < i → h.todo[j]? = some y → y ≠ x) ∧
 (∀ x ∈ h.jobs, inB x (-1) (wr (h.cabins.length - 1)) = true) ∧ (h.jobs.length : Int) = h.rules.crew
def HouseP (h : House) : Prop :=
 rulesOk h.rules = true ∧ inB h.now 0 1000000 = true ∧ inB h.turn 1 1000001 = true ∧ h.parties.length ≤ 40 ∧ h.cabins.length = h.rules.seats.length ∧ PartiesP h ∧ JobsP h ∧
 ∀ (k : Nat) (c : Cabin), h.cabins[k]? = some c → h.rules.seats[k]? = some c.seats.total ∧ agrees h.rules c h.parties k h.now = true ∧ countGo h.parties k 0 ≤ h.rules.room
open Classical in
noncomputable def houseOk (h : House) : Bool := decide (HouseP h)
theorem houseOk_t {h : House} (hp : HouseP h) : houseOk h = true := by simp [houseOk, hp]
theorem houseP_of {h : House} (hp : houseOk h = true) : HouseP h := by simpa [houseOk] using hp
section
variable {α : Type} (lt : α → α → Bool)
def insL : List α → α → List α
 | [], e => [e]
 | y :: ys, e => if lt y e then y :: insL ys e else e :: y :: ys
def insR : List α → α → List α
 | [], e => [e]
 | y :: ys, e => if lt e y then e :: y :: ys else y :: insR ys e
def sink : Nat → List α → List α
 | 0, xs => xs
 | j + 1, xs => match xs[j + 1]?, xs[j]? with
   | some y, some x => if lt y x then sink j ((xs.set (j + 1) x).set j y) else xs
   | _, _ => xs
def sortGo : Nat → Nat → List α → List α
 | 0, _, xs => xs
 | m + 1, i, xs => sortGo m (i + 1) (sink lt i xs)
structure Ord : Prop where
 as : ∀ a b, lt a b = true → lt b a = false
 nt : ∀ a b c, lt a c = true → lt a b = true ∨ lt b c = true
variable {lt}
theorem Ord.tr (h : Ord lt) {a b c : α} (h1 : lt a b = true) (h2 : lt b c = true) : lt a c = true := by
 rcases h.nt a c b h1 with h3 | h3
 · exact h3
 · rw [h.as b c h2] at h3; cases h3
theorem Ord.nn (h : Ord lt) {a b c : α} (h1 : lt a b = false) (h2 : lt b c = false) : lt a c = false := by
 cases h3 : lt a c with
 | false => rfl
 | true => rcases h.nt a b c h3 with h4 | h4 <;> simp_all
theorem ins_comm (h : Ord lt) (e z : α) : ∀ l, insL lt (insR lt l z) e = insR lt (insL lt l e) z
 | [] => by
   simp only [insR, insL]
 | y :: ys => by
   simp only [insR, insL]
   cases h1 : lt z y <;> cases h2 : lt y e <;> simp only [insR, insL, h1, h2, if_true, Bool.false_eq_true, if_false]
   · rw [h.nn h1 h2]
     simp
   · rw [ins_comm h e z ys]
   · rw [h.tr h1 h2]; simp
theorem foldr_snoc (h : Ord lt) (z : α) : ∀ l : List α, (l ++ [z]).foldr (fun e l => insL lt l e) [] = insR lt (l.foldr (fun e l => insL lt l e) []) z
 | [] => rfl
 | e :: l => by
   simp only [List.cons_append, List.foldr_cons]
   rw [foldr_snoc h z l, ins_comm h]
theorem foldl_insR (h : Ord lt) (l : List α) : ∀ m : List α, m.foldl (insR lt) (l.foldr (fun e l => insL lt l e) []) = (l ++ m).foldr (fun e l => insL lt l e) []
 | [] => by simp
 | z :: m => by
   rw [List.foldl_cons, ← foldr_snoc h z l, foldl_insR h (l ++ [z]) m]
   simp
theorem insR_len : ∀ (l : List α) (e : α), (insR lt l e).length = l.length + 1
 | [], e => rfl
 | y :: ys, e => by unfold insR; split <;> simp [insR_len ys e]
theorem insL_len : ∀ (l : List α) (e : α), (insL lt l e).length = l.length + 1
 | [], e => rfl
 | y :: ys, e => by unfold insL; split <;> simp [insL_len ys e]
theorem insR_mem : ∀ {l : List α} {e x : α}, x ∈ insR lt l e → x = e ∨ x ∈ l
 | [], e, x, h => by simp [insR] at h; exact .inl h
 | y :: ys, e, x, h => by
   unfold insR at h
   split at h
   · simpa using h
   · rcases List.mem_cons.1 h with rfl | h
     · simp
     · rcases insR_mem h with rfl | h
       · simp
       · simp [h]
abbrev Srt (lt : α → α → Bool) (l : List α) : Prop := l.Pairwise fun a b => lt b a = false
theorem Srt.ins (h : Ord lt) : ∀ {l : List α} {e : α}, Srt lt l → Srt lt (insR lt l e)
 | [], e, _ => by simp [insR, Srt]
 | y :: ys, e, hs => by
   have hs := List.pairwise_cons.1 hs
   unfold insR
   cases h1 : lt e y with
   | true =>
     simp only [if_true]
     refine List.pairwise_cons.2 ⟨fun b hb => ?_, List.pairwise_cons.2 hs⟩
     rcases List.mem_cons.1 hb with rfl | hb
     · exact h.as _ _ h1
     · cases h2 : lt b e with
       | false => rfl
       | true => have h3 := h.tr h2 h1; rw [hs.1 b hb] at h3; cases h3
   | false =>
     simp only [Bool.false_eq_true, if_false]
     refine List.pairwise_cons.2 ⟨fun b hb => ?_, Srt.ins h hs.2⟩
     rcases insR_mem hb with rfl | hb
     · exact h1
     · exact hs.1 b hb
theorem insR_snoc {x y : α} (h : lt y x = true) : ∀ A : List α, insR lt (A ++ [x]) y = insR lt A y ++ [x]
 | [] => by simp [insR, h]
 | a :: A => by
   simp only [List.cons_append, insR]
   split
   · rfl
   · rw [insR_snoc h A]; rfl
theorem insR_all {y : α} : ∀ {A : List α}, (∀ a ∈ A, lt y a = false) → insR lt A y = A ++ [y]
 | [], _ => rfl
 | a :: A, h => by
   unfold insR
   rw [h a (by simp)]
   simp [insR_all (A := A) fun b hb => h b (by simp [hb])]
theorem get_mid {A : List α} {y : α} {B : List α} : (A ++ y :: B)[A.length]? = some y := by simp
theorem sink_spec (h : Ord lt) (y : α) : ∀ (n : Nat) (A B : List α), A.length = n → Srt lt A → sink lt n (A ++ y :: B) = insR lt A y ++ B
 | 0, A, B, hn, hs => by
   have : A = [] := List.eq_nil_of_length_eq_zero hn
   subst this; rfl
 | n + 1, A, B, hn, hs => by
   obtain ⟨A', x, rfl⟩ : ∃ A' x, A = A' ++ [x] := by
    refine ⟨A.dropLast, A.getLast (by intro hh; simp [hh] at hn), ?_⟩
    exact (List.dropLast_concat_getLast (by intro hh; simp [hh] at hn)).symm
   have hn' : A'.length = n := by simpa using hn
   have e1 : ((A' ++ [x]) ++ y :: B)[n + 1]? = some y := by
    have := get_mid (A := A' ++ [x]) (y := y) (B := B)
    rw [List.length_append, hn'] at this
    exact this
   have e2 : ((A' ++ [x]) ++ y :: B)[n]? = some x := by
    rw [List.append_assoc, List.getElem?_append_right (by omega), hn', Nat.sub_self]; rfl
   have hs' := List.pairwise_append.1 hs
   unfold sink
   rw [e1, e2]
   dsimp only
   cases h1 : lt y x with
   | true =>
     simp only [if_true]
     have e3 : (((A' ++ [x]) ++ y :: B).set (n + 1) x).set n y = A' ++ y :: (x :: B) := by
      subst hn'
      rw [List.append_assoc, List.set_append_right _ _ (by omega), show A'.length + 1 - A'.length = 1 by omega]
      rw [List.set_append_right _ _ (by omega), Nat.sub_self]
      rfl
     rw [e3, sink_spec h y n A' (x :: B) hn' hs'.1, insR_snoc h1]
     simp
   | false =>
     simp only [Bool.false_eq_true, if_false]
     rw [insR_all]
     · rw [List.append_assoc (A' ++ [x]) [y] B]; rfl
     · intro a ha
       rcases List.mem_append.1 ha with ha | ha
       · exact h.nn h1 (hs'.2.2 a ha x (by simp))
       · simp at ha; subst ha; exact h1
theorem sortGo_spec (h : Ord lt) : ∀ (B S : List α), Srt lt S → sortGo lt B.length S.length (S ++ B) = B.foldl (insR lt) S
 | [], S, _ => by simp [sortGo]
 | y :: B, S, hs => by
   simp only [List.length_cons, sortGo, List.foldl_cons]
   rw [sink_spec h y S.length S B rfl hs]
   have h2 := sortGo_spec h B (insR lt S y) (hs.ins h)
   rw [insR_len] at h2
   exact h2
theorem sortGo_eq (h : Ord lt) (l : List α) : sortGo lt (l.length - 1) 1 l = l.foldr (fun e l => insL lt l e) [] := by
 cases l with
 | nil => rfl
 | cons x l =>
   have h1 := sortGo_spec h l [x] (by simp [Srt])
   have h2 := foldl_insR h [x] l
   simp only [List.length_cons, Nat.add_sub_cancel]
   exact h1.trans h2
theorem sink_len : ∀ (n : Nat) (xs : List α), (sink lt n xs).length = xs.length
 | 0, xs => rfl
 | n + 1, xs => by
   unfold sink
   split
   · split
     · rw [sink_len n]; simp
     · rfl
   · rfl
theorem sortGo_len : ∀ (m i : Nat) (xs : List α), (sortGo lt m i xs).length = xs.length
 | 0, _, xs => rfl
 | m + 1, i, xs => by unfold sortGo; rw [sortGo_len m, sink_len]
theorem sink_step {xs : List α} {j : Nat} {x y : α} (h1 : xs[j]? = some y) (h2 : xs[j - 1]? = some x) (hj : 0 < j) (h : lt y x = true) : sink lt j xs = sink lt (j - 1) ((xs.set j x).set (j - 1) y) := by
 obtain ⟨n, rfl⟩ : ∃ n, j = n + 1 := ⟨j - 1, by omega⟩
 rw [Nat.add_sub_cancel] at h2 ⊢
 conv => lhs; unfold sink
 rw [h1, h2]
 simp [h]
theorem sink_stop {xs : List α} {j : Nat} {x y : α} (h1 : xs[j]? = some y) (h2 : xs[j - 1]? = some x) (hj : 0 < j) (h : lt y x = false) : sink lt j xs = xs := by
 obtain ⟨n, rfl⟩ : ∃ n, j = n + 1 := ⟨j - 1, by omega⟩
 rw [Nat.add_sub_cancel] at h2
 unfold sink
 rw [h1, h2]
 simp [h]
theorem sortGo_step {xs : List α} {n i : Nat} (h : i < n) : sortGo lt (n - i) i xs = sortGo lt (n - (i + 1)) (i + 1) (sink lt i xs) := by
 rw [show n - i = (n - (i + 1)) + 1 by omega]
 rfl
theorem sortGo_stop {xs : List α} {n i : Nat} (h : ¬ i < n) : sortGo lt (n - i) i xs = xs := by
 rw [show n - i = 0 by omega]
 rfl
theorem insL_comm (h : Ord lt) (ht : ∀ a b, lt a b = false → lt b a = false → a = b) (a b : α) : ∀ l, insL lt (insL lt l a) b = insL lt (insL lt l b) a
 | [] => by
   simp only [insL]
   cases h1 : lt a b <;> cases h2 : lt b a <;> simp
   · rw [ht a b h1 h2]; simp
   · have := h.as a b h1; simp_all
 | y :: ys => by
   simp only [insL]
   cases h1 : lt y a <;> cases h2 : lt y b <;> simp only [insL, if_true, Bool.false_eq_true, if_false, h1, h2]
   · cases h3 : lt a b <;> cases h4 : lt b a <;> simp
     · rw [ht a b h3 h4]; simp
     · have := h.as a b h3; simp_all
   · have h3 : lt b a = false := by
      cases h4 : lt b a with
      | false => rfl
      | true => have := h.tr h2 h4; simp_all
     have h4 : lt a b = true := by
      rcases h.nt y a b h2 with h5 | h5
      · simp_all
      · exact h5
     simp [h3, h4, h2]
   · have h3 : lt a b = false := by
      cases h4 : lt a b with
      | false => rfl
      | true => have := h.tr h1 h4; simp_all
     have h4 : lt b a = true := by
      rcases h.nt y b a h1 with h5 | h5
      · simp_all
      · exact h5
     simp [h3, h4, h1]
   · rw [insL_comm h ht a b ys]
theorem foldl_insL (h : Ord lt) (ht : ∀ a b, lt a b = false → lt b a = false → a = b) : ∀ (l s : List α), l.foldl (insL lt) s = l.foldr (fun e l => insL lt l e) s
 | [], s => rfl
 | x :: l, s => by
   rw [List.foldl_cons, foldl_insL h ht l]
   have key : ∀ l : List α, l.foldr (fun e l => insL lt l e) (insL lt s x) = insL lt (l.foldr (fun e l => insL lt l e) s) x := by
    intro l
    induction l with
    | nil => rfl
    | cons y l ih => simp only [List.foldr_cons]; rw [ih, insL_comm h ht]
   rw [key]
   rfl
end
def cmpI (x y : Int) : Int := if x < y then -1 else if x > y then 1 else 0
def cmpEntry (a b : Entry) : Int := if cmpI a.level b.level ≠ 0 then cmpI a.level b.level else cmpI a.turn b.turn
def cmpPin (a b : Pin) : Int := if cmpI a.at' b.at' ≠ 0 then cmpI a.at' b.at' else cmpI a.id b.id
theorem cmpEntry_lt (a b : Entry) : decide (cmpEntry a b < 0) = entryLess a b := by
 rw [Bool.eq_iff_iff]
 simp only [cmpEntry, cmpI, entryLess, decide_eq_true_eq, Bool.or_eq_true, Bool.and_eq_true, beq_iff_eq]
 split <;> (repeat' split) <;> simp_all <;> omega
theorem cmpPin_lt (a b : Pin) : decide (cmpPin a b < 0) = pinLess a b := by
 rw [Bool.eq_iff_iff]
 simp only [cmpPin, cmpI, pinLess, decide_eq_true_eq, Bool.or_eq_true, Bool.and_eq_true, beq_iff_eq]
 split <;> (repeat' split) <;> simp_all <;> omega
theorem cmpPin_gt (a b : Pin) : decide (cmpPin a b > 0) = pinLess b a := by
 rw [Bool.eq_iff_iff]
 simp only [cmpPin, cmpI, pinLess, decide_eq_true_eq, Bool.or_eq_true, Bool.and_eq_true, beq_iff_eq]
 split <;> (repeat' split) <;> simp_all <;> omega
theorem entryOrd : Ord entryLess := ⟨fun a b h => by
 simp only [entryLess, Bool.or_eq_true, Bool.and_eq_true, decide_eq_true_eq, beq_iff_eq, Bool.or_eq_false_iff, Bool.and_eq_false_iff, decide_eq_false_iff_not, beq_eq_false_iff_ne] at h ⊢; omega, fun a b c h => by
 simp only [entryLess, Bool.or_eq_true, Bool.and_eq_true, decide_eq_true_eq, beq_iff_eq] at h ⊢; omega⟩
theorem pinOrd : Ord pinLess := ⟨fun a b h => by
 simp only [pinLess, Bool.or_eq_true, Bool.and_eq_true, decide_eq_true_eq, beq_iff_eq, Bool.or_eq_false_iff, Bool.and_eq_false_iff, decide_eq_false_iff_not, beq_eq_false_iff_ne] at h ⊢; omega, fun a b c h => by
 simp only [pinLess, Bool.or_eq_true, Bool.and_eq_true, decide_eq_true_eq, beq_iff_eq] at h ⊢; omega⟩
theorem pinTot (a b : Pin) (h1 : pinLess a b = false) (h2 : pinLess b a = false) : a = b := by
 obtain ⟨a1, a2⟩ := a
 obtain ⟨b1, b2⟩ := b
 simp only [pinLess, Bool.or_eq_false_iff, Bool.and_eq_false_iff, decide_eq_false_iff_not, beq_eq_false_iff_ne] at h1 h2
 simp only [Pin.mk.injEq]
 omega
theorem qIns_eq : ∀ (l : List Entry) (e : Entry), qIns l e = insL entryLess l e
 | [], e => rfl
 | y :: ys, e => by simp only [qIns, insL, qIns_eq ys e]
theorem pIns_eq : ∀ (l : List Pin) (e : Pin), pIns l e = insL pinLess l e
 | [], e => rfl
 | y :: ys, e => by simp only [pIns, insL, pIns_eq ys e]
theorem pIns_eq' : pIns = insL pinLess := funext fun l => funext fun e => pIns_eq l e
def queueRaw (r : Rules) : List Party → Int → Int → List Entry
 | [], _, _ => []
 | p :: ps, cabin, now => if entryOk r p now && p.cabin == cabin then entryOf r p now :: queueRaw r ps cabin now else queueRaw r ps cabin now
theorem queueOf_raw (r : Rules) (cabin now : Int) : ∀ list : List Party, queueOf r list cabin now = (queueRaw r list cabin now).foldr (fun e l => insL entryLess l e) []
 | [] => rfl
 | p :: ps => by
   unfold queueOf queueRaw
   split
   · rw [List.foldr_cons, qIns_eq, queueOf_raw r cabin now ps]
   · exact queueOf_raw r cabin now ps
theorem queue_sorted (r : Rules) (list : List Party) (cabin now : Int) : sortGo entryLess ((queueRaw r list cabin now).length - 1) 1 (queueRaw r list cabin now) = queueOf r list cabin now := by
 rw [sortGo_eq entryOrd, queueOf_raw]
def pinsRaw : List Party → Int → List Pin
 | [], _ => []
 | p :: ps, cabin => if p.state == 2 && p.cabin == cabin then ⟨p.until', p.id⟩ :: pinsRaw ps cabin else pinsRaw ps cabin
theorem pinsGo_raw (cabin : Int) : ∀ (list : List Party) (out : List Pin), pinsGo list cabin out = (pinsRaw list cabin).foldl (insL pinLess) out
 | [], out => rfl
 | p :: ps, out => by
   unfold pinsGo pinsRaw
   rw [pinsGo_raw cabin ps]
   split
   · rw [List.foldl_cons, pIns_eq]
   · rfl
theorem pins_sorted (list : List Party) (cabin : Int) : sortGo pinLess ((pinsRaw list cabin).length - 1) 1 (pinsRaw list cabin) = pinsGo list cabin [] := by
 rw [sortGo_eq pinOrd, pinsGo_raw, foldl_insL pinOrd pinTot]
theorem pinsSort_sorted (l : List Pin) : sortGo pinLess (l.length - 1) 1 l = pinsSort l := by
 rw [sortGo_eq pinOrd, pinsSort, pIns_eq', foldl_insL pinOrd pinTot]
theorem queueRaw_len (r : Rules) (cabin now : Int) : ∀ (list : List Party) (n : Int), 0 ≤ n → n + list.length ≤ 9223372036854775807 → n + (queueRaw r list cabin now).length ≤ countGo list cabin n
 | [], n, _, _ => by simp [queueRaw, countGo]
 | p :: ps, n, h, hl => by
   unfold countGo queueRaw
   simp only [List.length_cons] at hl
   by_cases hc : p.cabin = cabin
   · rw [show (if (p.cabin == cabin) = true then wr (n + 1) else n) = n + 1 by rw [if_pos (by simpa using hc), wr_of (by omega) (by omega)]]
     have := queueRaw_len r cabin now ps (n + 1) (by omega) (by omega)
     split
     · simp only [List.length_cons]; omega
     · omega
   · rw [show (if (p.cabin == cabin) = true then wr (n + 1) else n) = n from if_neg (by simpa using hc), if_neg (by simp [hc])]
     exact queueRaw_len r cabin now ps n h (by omega)
theorem pinsRaw_len (cabin : Int) : ∀ (list : List Party) (n : Int), 0 ≤ n → n + list.length ≤ 9223372036854775807 → n + (pinsRaw list cabin).length ≤ countGo list cabin n
 | [], n, _, _ => by simp [pinsRaw, countGo]
 | p :: ps, n, h, hl => by
   unfold countGo pinsRaw
   simp only [List.length_cons] at hl
   by_cases hc : p.cabin = cabin
   · rw [show (if (p.cabin == cabin) = true then wr (n + 1) else n) = n + 1 by rw [if_pos (by simpa using hc), wr_of (by omega) (by omega)]]
     have := pinsRaw_len cabin ps (n + 1) (by omega) (by omega)
     split
     · simp only [List.length_cons]; omega
     · omega
   · rw [show (if (p.cabin == cabin) = true then wr (n + 1) else n) = n from if_neg (by simpa using hc), if_neg (by simp [hc])]
     exact pinsRaw_len cabin ps n h (by omega)
def idxF {α : Type} (q : α → Bool) : List α → Nat → Int
 | [], _ => -1
 | e :: es, k => if q e then (k : Int) else idxF q es (k + 1)
theorem idxF_none {α : Type} {q : α → Bool} : ∀ (l : List α) (k : Nat), (idxF q l k = -1 ↔ ∀ e ∈ l, q e = false) ∧ (idxF q l k = -1 ∨ 0 ≤ idxF q l k)
 | [], k => ⟨⟨fun _ e h => absurd h List.not_mem_nil, fun _ => rfl⟩, .inl rfl⟩
 | e :: es, k => by
   unfold idxF
   obtain ⟨h1, h2⟩ := idxF_none (q := q) es (k + 1)
   cases hq : q e with
   | true => simp only [if_true]; exact ⟨⟨fun h => by omega, fun h => by have := h e (by simp); simp_all⟩, .inr (by omega)⟩
   | false =>
     simp only [Bool.false_eq_true, if_false]
     refine ⟨h1.trans ⟨fun h x hx => ?_, fun h x hx => h x (by simp [hx])⟩, h2⟩
     rcases List.mem_cons.1 hx with rfl | hx
     · exact hq
     · exact h x hx
theorem idxF_lt {α : Type} {q : α → Bool} : ∀ (l : List α) (k : Nat), idxF q l k < (k : Int) + l.length ∨ idxF q l k = -1
 | [], k => .inr rfl
 | e :: es, k => by
   unfold idxF
   have h := idxF_lt (q := q) es (k + 1)
   simp only [List.length_cons]
   split <;> omega
theorem idxF_any {α : Type} (q : α → Bool) (l : List α) : decide (idxF q l 0 ≥ 0) = l.any q := by
 obtain ⟨h1, h2⟩ := idxF_none (q := q) l 0
 rw [Bool.eq_iff_iff]
 simp only [decide_eq_true_eq, List.any_eq_true]
 constructor
 · intro h
   rcases Classical.em (∃ x, x ∈ l ∧ q x = true) with h3 | h3
   · exact h3
   · have := h1.2 fun e he => by
      cases hq : q e with
      | false => rfl
      | true => exact absurd ⟨e, he, hq⟩ h3
     omega
 · rintro ⟨x, hx, hq⟩
   rcases h2 with h2 | h2
   · have := h1.1 h2 x hx; simp_all
   · exact h2
theorem queueAt_idx (id : Int) : ∀ (l : List Entry) (k : Nat), queueAt l id k = idxF (fun e => e.id == id) l k
 | [], k => rfl
 | e :: es, k => by simp only [queueAt, idxF, queueAt_idx id es (k + 1)]
def levelI (r : Rules) (tier waited : Int) : Int := if rulesOk r && inB tier 0 (wr (r.tiers - 1)) && !decide (waited < 0) then levelAt r tier waited else -1
theorem levelAt_nn (r : Rules) (tier waited : Int) : 0 ≤ levelAt r tier waited := by unfold levelAt; split <;> omega
theorem levelAt_max {r : Rules} {tier waited : Int} : (if wr (tier - wr (Int.tdiv waited r.period)) > 0 then wr (tier - wr (Int.tdiv waited r.period)) else 0) = levelAt r tier waited := by
 unfold levelAt; split <;> split <;> omega
theorem levelI_of {r : Rules} {p : Party} {now : Int} (h : partyOk r p now = true) : levelI r p.tier (wr (now - p.since)) = levelAt r p.tier (wr (now - p.since)) := by
 have h9 := h
 simp only [partyOk, Bool.and_eq_true] at h9
 obtain ⟨⟨⟨⟨⟨⟨⟨⟨⟨⟨⟨h1, h2⟩, _⟩, _⟩, _⟩, _⟩, _⟩, h3⟩, h4⟩, _⟩, _⟩, _⟩ := h9
 have h5 : ¬ wr (now - p.since) < 0 := by
  simp only [inB, Bool.and_eq_true, decide_eq_true_eq] at h2 h4
  rw [wr_of (by omega) (by omega)]; omega
 rw [levelI, if_pos]
 simp [h1, h3, h5]
set_option maxRecDepth 10000 in
def len8tab : List UInt8 := [0, 1, 2, 2, 3, 3, 3, 3, 4, 4, 4, 4, 4, 4, 4, 4, 5, 5, 5, 5, 5, 5, 5, 5, 5, 5, 5, 5, 5, 5, 5, 5, 6, 6, 6, 6, 6, 6, 6, 6, 6, 6, 6, 6, 6, 6, 6, 6, 6, 6, 6, 6, 6, 6, 6, 6, 6, 6, 6, 6, 6, 6, 6, 6, 7, 7, 7, 7, 7, 7, 7, 7, 7, 7, 7, 7, 7, 7, 7, 7, 7, 7, 7, 7, 7, 7, 7, 7, 7, 7, 7, 7, 7, 7, 7, 7, 7, 7, 7, 7, 7, 7, 7, 7, 7, 7, 7, 7, 7, 7, 7, 7, 7, 7, 7, 7, 7, 7, 7, 7, 7, 7, 7, 7, 7, 7, 7, 7, 8, 8, 8, 8, 8, 8, 8, 8, 8, 8, 8, 8, 8, 8, 8, 8, 8, 8, 8, 8, 8, 8, 8, 8, 8, 8, 8, 8, 8, 8, 8, 8, 8, 8, 8, 8, 8, 8, 8, 8, 8, 8, 8, 8, 8, 8, 8, 8, 8, 8, 8, 8, 8, 8, 8, 8, 8, 8, 8, 8, 8, 8, 8, 8, 8, 8, 8, 8, 8, 8, 8, 8, 8, 8, 8, 8, 8, 8, 8, 8, 8, 8, 8, 8, 8, 8, 8, 8, 8, 8, 8, 8, 8, 8, 8, 8, 8, 8, 8, 8, 8, 8, 8, 8, 8, 8, 8, 8, 8, 8, 8, 8, 8, 8, 8, 8, 8, 8, 8, 8, 8, 8, 8, 8, 8, 8, 8, 8]
theorem len8_len : len8tab.length = 256 := by decide +kernel
theorem sameRow_ne {a b : List Entry} (h : a.length ≠ b.length) : sameRow a b = false := by
 cases hs : sameRow a b with
 | false => rfl
 | true => rw [(sameRow_iff a b).1 hs] at h; exact absurd rfl h
theorem samePins_ne {a b : List Pin} (h : a.length ≠ b.length) : samePins a b = false := by
 cases hs : samePins a b with
 | false => rfl
 | true => rw [(samePins_iff a b).1 hs] at h; exact absurd rfl h
theorem take_get {α : Type} {l : List α} {k j : Nat} {x : α} (h : (l.take k)[j]? = some x) : j < k ∧ l[j]? = some x := by
 rw [List.getElem?_take] at h
 split at h
 · exact ⟨by assumption, h⟩
 · cases h
theorem get_take {α : Type} {l : List α} {k j : Nat} {x : α} (hj : j < k) (h : l[j]? = some x) : x ∈ l.take k := by
 refine List.mem_of_getElem? (i := j) ?_
 rw [List.getElem?_take, if_pos hj]; exact h
theorem queueAt_t {l : List Entry} {k : Nat} {id : Int} (h : queueAt (l.take k) id 0 ≥ 0) : ∃ j e, j < k ∧ l[j]? = some e ∧ e.id = id := by
 rcases queueAt_spec (l.take k) id 0 with ⟨h1, _⟩ | ⟨i, e, h1, h2, h3, h4⟩
 · omega
 · obtain ⟨h5, h6⟩ := take_get h1
   exact ⟨i, e, h5, h6, h2⟩
theorem queueAt_n {l : List Entry} {k : Nat} {id : Int} (h : ¬ queueAt (l.take k) id 0 ≥ 0) : ∀ (j : Nat) (e : Entry), j < k → l[j]? = some e → e.id ≠ id := by
 intro j e hj he
 rcases queueAt_spec (l.take k) id 0 with ⟨_, h2⟩ | ⟨i, e', h1, h2, h3, h4⟩
 · exact h2 e (get_take hj he)
 · omega
theorem queueAt_at {l : List Entry} {k : Nat} {e : Entry} (hk : l[k]? = some e) : queueAt l e.id 0 = k ↔ ∀ (j : Nat) (y : Entry), j < k → l[j]? = some y → y.id ≠ e.id := by
 rcases queueAt_spec l e.id 0 with ⟨_, h2⟩ | ⟨i, e', h1, h2, h3, h4⟩
 · exact absurd rfl (h2 e (List.mem_of_getElem? hk))
 · rw [h3]
   constructor
   · intro h
     have : i = k := by omega
     subst this; exact h4
   · intro h
     have h5 : ¬ i < k := fun hlt => h i e' hlt h1 h2
     have h6 : ¬ k < i := fun hlt => h4 k e hlt hk rfl
     omega
def keysOf (l : List Pin) (ks : List Int) : List Int := l.foldl (fun ks p => insK ks p.id) ks
theorem keysOf_snoc (l : List Pin) (p : Pin) (ks : List Int) : keysOf (l ++ [p]) ks = insK (keysOf l ks) p.id := by simp [keysOf]
theorem keysOf_len : ∀ (l : List Pin) (ks : List Int), (keysOf l ks).length ≤ ks.length + l.length
 | [], ks => by simp [keysOf]
 | p :: l, ks => by
   have := keysOf_len l (insK ks p.id)
   have h2 : (insK ks p.id).length ≤ ks.length + 1 := by unfold insK; split <;> simp
   simp only [keysOf, List.foldl_cons, List.length_cons] at *
   omega
theorem keysOf_iff : ∀ (l : List Pin) (ks : List Int), (keysOf l ks).length = ks.length + l.length ↔ (l.map (·.id)).Nodup ∧ ∀ p ∈ l, p.id ∉ ks
 | [], ks => by simp [keysOf]
 | p :: l, ks => by
   have ih := keysOf_iff l (insK ks p.id)
   have hle := keysOf_len l (insK ks p.id)
   have hun : keysOf (p :: l) ks = keysOf l (insK ks p.id) := rfl
   rw [hun]
   by_cases hp : p.id ∈ ks
   · have h2 : (insK ks p.id).length = ks.length := by rw [insK, if_pos hp]
     simp only [List.length_cons]
     constructor
     · intro h; omega
     · rintro ⟨_, h⟩; exact absurd hp (h p (by simp))
   · have h2 : (insK ks p.id).length = ks.length + 1 := by rw [insK, if_neg hp]; simp
     rw [h2] at ih hle
     simp only [List.length_cons, List.map_cons, List.nodup_cons]
     rw [show ks.length + (l.length + 1) = ks.length + 1 + l.length by omega, ih]
     have hm : ∀ x, x ∈ insK ks p.id ↔ x ∈ ks ∨ x = p.id := by intro x; rw [insK, if_neg hp]; simp
     constructor
     · rintro ⟨h3, h4⟩
       refine ⟨⟨fun hin => ?_, h3⟩, fun q hq => ?_⟩
       · obtain ⟨q, hq, hqe⟩ := List.mem_map.1 hin
         exact h4 q hq ((hm _).2 (.inr hqe))
       · rcases List.mem_cons.1 hq with rfl | hq
         · exact hp
         · exact fun hk => h4 q hq ((hm _).2 (.inl hk))
     · rintro ⟨⟨h3, h4⟩, h5⟩
       refine ⟨h4, fun q hq hk => ?_⟩
       rcases (hm _).1 hk with hk | hk
       · exact h5 q (by simp [hq]) hk
       · exact h3 (List.mem_map.2 ⟨q, hq, hk⟩)
theorem keysOf_nodup (l : List Pin) : (keysOf l []).length = l.length ↔ (l.map (·.id)).Nodup := by
 have := keysOf_iff l []
 simpa using this
def SpokeW (i : Nat) (l : List Pin) (n : Nat) : Prop := ∀ (m : Nat) (x : Pin), m < n → l[m]? = some x → PinR x ∧ Int.tmod x.at' 9 = (i : Int) ∧ (0 < m → ∀ y, l[m - 1]? = some y → pinLess x y = false)
theorem spokeP_of {i : Nat} {l : List Pin} (hw : SpokeW i l l.length) (hn : (l.map (·.id)).Nodup) : SpokeP i l := by
 intro m x hx
 have hm : m < l.length := (List.getElem?_eq_some_iff.1 hx).1
 obtain ⟨_, h1, h2⟩ := hw m x hm hx
 refine ⟨h1, fun h0 y hy => ?_⟩
 have h3 := h2 h0 y hy
 cases h4 : pinLess y x with
 | true => rfl
 | false =>
   have h5 := pinTot x y h3 h4
   exact absurd hn (ids_no (i := m - 1) (j := m) (by omega) hy hx (by rw [h5]))
theorem spokeW_of {i : Nat} {l : List Pin} (hp : SpokeP i l) (hr : ∀ p ∈ l, PinR p) (n : Nat) : SpokeW i l n := fun m x _ hx =>
 ⟨hr x (List.mem_of_getElem? hx), (hp m x hx).1, fun h0 y hy => pinOrd.as _ _ ((hp m x hx).2 h0 y hy)⟩
theorem nodup_spoke {wh : Wheel} (hn : (wh.spoke.flatten.map (·.id)).Nodup) {i : Nat} {l : List Pin} (hl : wh.spoke[i]? = some l) : (l.map (·.id)).Nodup := by
 refine hn.sublist (List.Sublist.map _ ?_)
 exact List.sublist_flatten_of_mem (List.mem_of_getElem? hl)
theorem wheelP_weak {wh : Wheel} : WheelP wh ↔ wh.spoke.length = 9 ∧ (∀ (i : Nat) (l : List Pin), i < wh.spoke.length → wh.spoke[i]? = some l → SpokeW i l l.length) ∧ wh.spoke.flatten.length ≤ 10 ∧ (keysOf wh.spoke.flatten []).length = wh.spoke.flatten.length := by
 rw [keysOf_nodup]
 constructor
 · rintro ⟨h1, h2, h3, h4, h5⟩
   exact ⟨h1, fun i l _ hl => spokeW_of (h5 i l hl) (fun p hp => h3 p (List.mem_flatten.2 ⟨l, List.mem_of_getElem? hl, hp⟩)) _, h2, h4⟩
 · rintro ⟨h1, h2, h3, h4⟩
   refine ⟨h1, h3, fun p hp => ?_, h4, fun i l hl => spokeP_of (h2 i l (List.getElem?_eq_some_iff.1 hl).1 hl) (nodup_spoke h4 hl)⟩
   obtain ⟨l, hl, hpl⟩ := List.mem_flatten.1 hp
   obtain ⟨i, hi⟩ := List.mem_iff_getElem?.1 hl
   obtain ⟨m, hm⟩ := List.mem_iff_getElem?.1 hpl
   exact (h2 i l (List.getElem?_eq_some_iff.1 hi).1 hi m p (List.getElem?_eq_some_iff.1 hm).1 hm).1
theorem flat_take {α : Type} {xss : List (List α)} {k : Nat} {x : List α} (h : xss[k]? = some x) : (xss.take (k + 1)).flatten = (xss.take k).flatten ++ x := by
 rw [List.take_add_one, h]; simp
theorem flat_take_le {α : Type} (xss : List (List α)) (k : Nat) : (xss.take k).flatten.length ≤ xss.flatten.length := by
 have : xss.flatten = (xss.take k).flatten ++ (xss.drop k).flatten := by rw [← List.flatten_append, List.take_append_drop]
 rw [this, List.length_append]; omega
theorem flat_take_le2 {α : Type} {xss : List (List α)} {k : Nat} {x : List α} (h : xss[k]? = some x) : (xss.take k).flatten.length + x.length ≤ xss.flatten.length := by
 have := flat_take_le xss (k + 1)
 rw [flat_take h, List.length_append] at this; exact this
theorem wheelOk_eq {wh : Wheel} {b : Bool} (h : b = true ↔ WheelP wh) : b = wheelOk wh := by
 cases b with
 | true => exact (wheelOk_t (h.1 rfl)).symm
 | false => exact (wheelOk_f fun hw => by cases h.2 hw).symm
open Classical in
noncomputable def partiesOk (h : House) : Bool := decide (PartiesP h)
open Classical in
noncomputable def jobsOk (h : House) : Bool := decide (JobsP h)
noncomputable def hasCab (h : House) (cabin : Int) : Bool := houseOk h && inB cabin 0 (wr (h.cabins.length - 1))
theorem nestRepN {α : Type} {e e' : TypeId} {L : Lay α} {a : Option Addr} {n c : Nat} {x : List α} : ∀ w fps, holds w [slA e L (.slice a n c) x] fps → (sl e L).rep true w [.slice a n c] x fps.flatten := by
 intro w fps h
 match fps, h with
 | [f], ⟨h1, _⟩ =>
   have hn := (SlO.lenE ⟨f, h1⟩).1
   subst hn
   exact ⟨a, c, rfl, by simp only [if_true, List.flatten_cons, List.flatten_nil, List.append_nil]; exact h1⟩
theorem cabinRepN {e1 e2 e3 : TypeId} {c : Cabin} {a1 a2 : Option Addr} {n1 n2 c1 c2 : Nat} : ∀ w fps, holds w [slA e1 entryL (.slice a1 n1 c1) c.row, slA e2 (sl e3 pinL) (.slice a2 n2 c2) c.wheel.spoke] fps →
 (cabinLx e1 e2 e3).rep true w [vi c.seats.total, vi c.seats.free, vi c.seats.held, vi c.seats.sold, vi c.seats.tied, .slice a1 n1 c1, .slice a2 n2 c2] c fps.flatten := by
 intro w fps h
 match fps, h with
 | [f1, f2], ⟨h1, h2, _⟩ =>
   have hn1 := (SlO.lenE ⟨f1, h1⟩).1
   have hn2 := (SlO.lenE ⟨f2, h2⟩).1
   subst hn1; subst hn2
   exact cabinRep w [f1, f2] ⟨h1, h2, trivial⟩
theorem cabinHun {e1 e2 e3 : TypeId} {x : Cabin} : ∀ w cs f, (cabinLx e1 e2 e3).rep true w cs x f → ∃ (i : HH × HH) (fps : List (List Nat)), cs = [vi x.seats.total, vi x.seats.free, vi x.seats.held, vi x.seats.sold, vi x.seats.tied, .slice i.1.1 x.row.length i.1.2, .slice i.2.1 x.wheel.spoke.length i.2.2] ∧
 holds w [slA e1 entryL (.slice i.1.1 x.row.length i.1.2) x.row, slA e2 (sl e3 pinL) (.slice i.2.1 x.wheel.spoke.length i.2.2) x.wheel.spoke] fps ∧ fps.flatten = f := by
 rintro w cs f ⟨d1, d2, f1, f2, rfl, rfl, ⟨rfl, rfl⟩, d3, d4, f3, f4, rfl, rfl, ⟨a1, c1, rfl, h1⟩, ⟨a2, c2, rfl, h2⟩⟩
 simp only [if_true] at h1 h2
 exact ⟨((a1, c1), (a2, c2)), [f3, f4], rfl, ⟨h1, h2, trivial⟩, by simp⟩
theorem cabinZ {e1 e2 e3 : TypeId} (w : World) : (cabinLx e1 e2 e3).rep true w [vi 0, vi 0, vi 0, vi 0, vi 0, .slice none 0 0, .slice none 0 0] ⟨⟨0, 0, 0, 0, 0⟩, [], ⟨[]⟩⟩ [] :=
 ⟨[vi 0, vi 0, vi 0, vi 0, vi 0], [.slice none 0 0, .slice none 0 0], [], [], rfl, rfl, ⟨rfl, rfl⟩, [.slice none 0 0], [.slice none 0 0], [], [], rfl, rfl, slZ e1 entryL w, slZ e2 (sl e3 pinL) w⟩
theorem cabinRepF {e1 e2 e3 : TypeId} {w : World} {c : Cabin} {a1 a2 : Option Addr} {c1 c2 : Nat} {f1 f2 : List Nat} (h1 : SlR entryL w a1 c.row f1) (h2 : SlR (sl e3 pinL) w a2 c.wheel.spoke f2) (p1 : c.row.length ≤ c1) (p2 : c.wheel.spoke.length ≤ c2) :
 (cabinLx e1 e2 e3).rep false w [vi c.seats.total, vi c.seats.free, vi c.seats.held, vi c.seats.sold, vi c.seats.tied, .slice a1 c.row.length c1, .slice a2 c.wheel.spoke.length c2] c (f1 ++ f2) :=
 ⟨[vi c.seats.total, vi c.seats.free, vi c.seats.held, vi c.seats.sold, vi c.seats.tied], [.slice a1 c.row.length c1, .slice a2 c.wheel.spoke.length c2], [], f1 ++ f2, rfl, by simp, ⟨rfl, rfl⟩, [.slice a1 c.row.length c1], [.slice a2 c.wheel.spoke.length c2], f1, f2, rfl, rfl, ⟨a1, c1, rfl, by simp only [Bool.false_eq_true, if_false]; exact ⟨p1, h1⟩⟩, ⟨a2, c2, rfl, by simp only [Bool.false_eq_true, if_false]; exact ⟨p2, h2⟩⟩⟩
theorem set_mid {α : Type} {done : List α} {x y : α} {ys : List α} {k : Nat} (h : done.length = k) : (done ++ x :: ys).set k y = (done ++ [y]) ++ ys := by
 subst h
 rw [List.set_append_right _ _ (Nat.le_refl _), Nat.sub_self]
 simp
def markL {α : Type} (m : α → Int → α × Int) : List α → Int → List α × Int
 | [], k => ([], k)
 | x :: xs, k => ((m x k).1 :: (markL m xs (m x k).2).1, (markL m xs (m x k).2).2)
theorem markL_len {α : Type} (m : α → Int → α × Int) : ∀ (xs : List α) (k : Int), (markL m xs k).1.length = xs.length
 | [], k => rfl
 | x :: xs, k => by simp [markL, markL_len m xs]
def sumL {α : Type} (c : α → Nat) : List α → Nat
 | [] => 0
 | x :: xs => c x + sumL c xs
theorem sumL_le {α : Type} (c : α → Nat) (b : Nat) : ∀ (xs : List α), (∀ x ∈ xs, c x ≤ b) → sumL c xs ≤ b * xs.length
 | [], _ => by simp [sumL]
 | x :: xs, h => by
   have h1 := h x (by simp)
   have h2 := sumL_le c b xs fun y hy => h y (by simp [hy])
   simp only [sumL, List.length_cons, Nat.mul_add, Nat.mul_one]
   omega
theorem sumL_const {α : Type} (b : Nat) : ∀ (xs : List α), sumL (fun _ => b) xs = b * xs.length
 | [] => by simp [sumL]
 | x :: xs => by simp only [sumL, sumL_const b xs, List.length_cons, Nat.mul_add]; omega
theorem markL_end {α : Type} {m : α → Int → α × Int} {c : α → Nat} (hm : ∀ (x : α) (k : Int), 0 ≤ k → k + c x ≤ 4611686018427387904 → (m x k).2 = k + c x) : ∀ (xs : List α) (k : Int), 0 ≤ k → k + sumL c xs ≤ 4611686018427387904 → (markL m xs k).2 = k + sumL c xs
 | [], k, _, _ => by simp [markL, sumL]
 | x :: xs, k, h0, hl => by
   simp only [sumL] at hl ⊢
   simp only [markL]
   have h1 := hm x k h0 (by omega)
   rw [h1, markL_end hm xs (k + c x) (by omega) (by omega)]
   omega
abbrev nx (k : Int) : Int := wr (k + 1)
theorem nx_of {k : Int} (h0 : 0 ≤ k) (h1 : k + 1 ≤ 4611686018427387904) : nx k = k + 1 := wr_of (by omega) (by omega)
def markI (_ : Int) (k : Int) : Int × Int := (k, nx k)
def markEntry (_ : Entry) (k : Int) : Entry × Int := (⟨k, nx k, nx (nx k), nx (nx (nx k))⟩, nx (nx (nx (nx k))))
def markPin (_ : Pin) (k : Int) : Pin × Int := (⟨k, nx k⟩, nx (nx k))
def markParty (_ : Party) (k : Int) : Party × Int :=
 (⟨k, nx k, nx (nx k), nx (nx (nx k)), nx (nx (nx (nx k))), nx (nx (nx (nx (nx k)))), nx (nx (nx (nx (nx (nx k))))), nx (nx (nx (nx (nx (nx (nx k)))))), nx (nx (nx (nx (nx (nx (nx (nx k))))))), nx (nx (nx (nx (nx (nx (nx (nx (nx k))))))))⟩, nx (nx (nx (nx (nx (nx (nx (nx (nx (nx k))))))))))
def markCabin (c : Cabin) (k : Int) : Cabin × Int :=
 let k5 := nx (nx (nx (nx (nx k))))
 let r := markL markEntry c.row k5
 let s := markL (markL markPin) c.wheel.spoke r.2
 (⟨⟨k, nx k, nx (nx k), nx (nx (nx k)), nx (nx (nx (nx k)))⟩, r.1, ⟨s.1⟩⟩, s.2)
def markHouse (h : House) (k : Int) : House × Int :=
 let r := markL markI h.rules.seats k
 let p := markL markParty h.parties r.2
 let c := markL markCabin h.cabins p.2
 let t := markL markI h.todo c.2
 let j := markL markI h.jobs t.2
 ({ h with rules := { h.rules with seats := r.1 }, parties := p.1, cabins := c.1, todo := t.1, jobs := j.1 }, j.2)
theorem markI_end (x k : Int) (h0 : 0 ≤ k) (h1 : k + (1 : Nat) ≤ 4611686018427387904) : (markI x k).2 = k + (1 : Nat) := by simp only [markI]; rw [nx_of h0 (by omega)]; rfl
theorem markPin_end (x : Pin) (k : Int) (h0 : 0 ≤ k) (h1 : k + (2 : Nat) ≤ 4611686018427387904) : (markPin x k).2 = k + (2 : Nat) := by
 simp only [markPin]
 have e0 : nx k = k + 1 := by rw [nx_of (by omega) (by omega)]
 have e1 : nx (k + 1) = k + 2 := by rw [nx_of (by omega) (by omega)]; omega
 rw [e0, e1]; omega
theorem markEntry_end (x : Entry) (k : Int) (h0 : 0 ≤ k) (h1 : k + (4 : Nat) ≤ 4611686018427387904) : (markEntry x k).2 = k + (4 : Nat) := by
 simp only [markEntry]
 have e0 : nx k = k + 1 := by rw [nx_of (by omega) (by omega)]
 have e1 : nx (k + 1) = k + 2 := by rw [nx_of (by omega) (by omega)]; omega
 have e2 : nx (k + 2) = k + 3 := by rw [nx_of (by omega) (by omega)]; omega
 have e3 : nx (k + 3) = k + 4 := by rw [nx_of (by omega) (by omega)]; omega
 rw [e0, e1, e2, e3]; omega
theorem markParty_end (x : Party) (k : Int) (h0 : 0 ≤ k) (h1 : k + (10 : Nat) ≤ 4611686018427387904) : (markParty x k).2 = k + (10 : Nat) := by
 simp only [markParty]
 have e0 : nx k = k + 1 := by rw [nx_of (by omega) (by omega)]
 have e1 : nx (k + 1) = k + 2 := by rw [nx_of (by omega) (by omega)]; omega
 have e2 : nx (k + 2) = k + 3 := by rw [nx_of (by omega) (by omega)]; omega
 have e3 : nx (k + 3) = k + 4 := by rw [nx_of (by omega) (by omega)]; omega
 have e4 : nx (k + 4) = k + 5 := by rw [nx_of (by omega) (by omega)]; omega
 have e5 : nx (k + 5) = k + 6 := by rw [nx_of (by omega) (by omega)]; omega
 have e6 : nx (k + 6) = k + 7 := by rw [nx_of (by omega) (by omega)]; omega
 have e7 : nx (k + 7) = k + 8 := by rw [nx_of (by omega) (by omega)]; omega
 have e8 : nx (k + 8) = k + 9 := by rw [nx_of (by omega) (by omega)]; omega
 have e9 : nx (k + 9) = k + 10 := by rw [nx_of (by omega) (by omega)]; omega
 rw [e0, e1, e2, e3, e4, e5, e6, e7, e8, e9]; omega
def cabinCnt (c : Cabin) : Nat := 5 + (sumL (fun _ => 4) c.row + sumL (fun l => sumL (fun _ => 2) l) c.wheel.spoke)
theorem markCabin_end (c : Cabin) (k : Int) (h0 : 0 ≤ k) (h1 : k + (cabinCnt c : Nat) ≤ 4611686018427387904) : (markCabin c k).2 = k + (cabinCnt c : Nat) := by
 simp only [cabinCnt] at h1 ⊢
 have e5 : nx (nx (nx (nx (nx k)))) = k + 5 := by
  have e0 : nx k = k + 1 := by rw [nx_of (by omega) (by omega)]
  have e1 : nx (k + 1) = k + 2 := by rw [nx_of (by omega) (by omega)]; omega
  have e2 : nx (k + 2) = k + 3 := by rw [nx_of (by omega) (by omega)]; omega
  have e3 : nx (k + 3) = k + 4 := by rw [nx_of (by omega) (by omega)]; omega
  have e4 : nx (k + 4) = k + 5 := by rw [nx_of (by omega) (by omega)]; omega
  rw [e0, e1, e2, e3, e4]
 simp only [markCabin, e5]
 rw [markL_end (c := fun l => sumL (fun _ => 2) l) (fun l k h0 h1 => markL_end markPin_end l k h0 h1), markL_end markEntry_end _ _ (by omega) (by omega)]
 · omega
 · rw [markL_end markEntry_end _ _ (by omega) (by omega)]; omega
 · rw [markL_end markEntry_end _ _ (by omega) (by omega)]; omega
def CabinSz (c : Cabin) : Prop := c.row.length ≤ 1048576 ∧ c.wheel.spoke.length ≤ 1048576 ∧ c.wheel.spoke.flatten.length ≤ 1048576
def HouseSz (h : House) : Prop := h.rules.seats.length ≤ 1048576 ∧ h.parties.length ≤ 1048576 ∧ h.cabins.length ≤ 1048576 ∧ h.todo.length ≤ 1048576 ∧ h.jobs.length ≤ 1048576 ∧ ∀ c ∈ h.cabins, CabinSz c
theorem spoke_cnt : ∀ (xss : List (List Pin)), sumL (fun l => sumL (fun _ => 2) l) xss = 2 * xss.flatten.length
 | [] => rfl
 | x :: xs => by
   have h1 := spoke_cnt xs
   have h2 := sumL_const 2 x
   simp only [sumL, h1, h2, List.flatten_cons, List.length_append]; omega
theorem cabinCnt_le {c : Cabin} (h : CabinSz c) : cabinCnt c ≤ 6291461 := by
 obtain ⟨h1, h2, h3⟩ := h
 have h4 := spoke_cnt c.wheel.spoke
 have h5 := sumL_const 4 c.row
 simp only [cabinCnt, h4, h5]; omega
def eqL {α : Type} (f : α → α → Bool) : List α → List α → Bool
 | [], [] => true
 | a :: as, b :: bs => f a b && eqL f as bs
 | _, _ => false
theorem eqL_refl {α : Type} {f : α → α → Bool} (h : ∀ a, f a a = true) : ∀ l, eqL f l l = true
 | [] => rfl
 | a :: as => by simp [eqL, h a, eqL_refl h as]
theorem eqL_ne {α : Type} {f : α → α → Bool} : ∀ {a b : List α}, a.length ≠ b.length → eqL f a b = false
 | [], [], h => absurd rfl h
 | [], _ :: _, _ => rfl
 | _ :: _, [], _ => rfl
 | x :: a, y :: b, h => by
   simp only [eqL, eqL_ne (f := f) (a := a) (b := b) (by simpa using h), Bool.and_false]
def eqParty (a b : Party) : Bool := a.id == b.id && a.cabin == b.cabin && a.from' == b.from' && a.size == b.size && a.tier == b.tier && a.since == b.since && a.turn == b.turn && a.state == b.state && a.until' == b.until' && a.asked == b.asked
def eqEntry (a b : Entry) : Bool := a.level == b.level && a.turn == b.turn && a.id == b.id && a.size == b.size
def eqPin (a b : Pin) : Bool := a.at' == b.at' && a.id == b.id
def eqLedger (a b : Ledger) : Bool := a.total == b.total && a.free == b.free && a.held == b.held && a.sold == b.sold && a.tied == b.tied
def eqCabin (a b : Cabin) : Bool := eqLedger a.seats b.seats && eqL eqEntry a.row b.row && eqL (eqL eqPin) a.wheel.spoke b.wheel.spoke
def eqHouse (a b : House) : Bool := eqRules a.rules b.rules && a.now == b.now && a.turn == b.turn && eqL eqParty a.parties b.parties && eqL eqCabin a.cabins b.cabins && eqInts a.todo b.todo && eqInts a.jobs b.jobs
theorem eqParty_refl (a : Party) : eqParty a a = true := by simp [eqParty]
theorem eqEntry_refl (a : Entry) : eqEntry a a = true := by simp [eqEntry]
theorem eqPin_refl (a : Pin) : eqPin a a = true := by simp [eqPin]
theorem eqCabin_refl (a : Cabin) : eqCabin a a = true := by simp [eqCabin, eqLedger, eqL_refl eqEntry_refl, eqL_refl (eqL_refl eqPin_refl)]
theorem eqHouse_refl (a : House) : eqHouse a a = true := by simp [eqHouse, eqRules_refl, eqInts_refl, eqL_refl eqParty_refl, eqL_refl eqCabin_refl]
theorem markI_nn {l : List Int} (h : l.length ≤ 1048576) : 0 ≤ (markL markI l 1).2 := by
 rw [markL_end markI_end l 1 (by omega) (by rw [sumL_const]; omega)]; omega
end SX
end Go.Proofs.YtejojcoaohlfbaaGreat
