/- A round in which a party has a chance: it gets an offer, or somebody ahead of it uses up a try; in plain Lean. It imports no program. -/
import Derived.Test.YtejojcoaohlfbaaGreatSxd
import Derived.Test.YtejojcoaohlfbaaGreatMdlm
import Derived.Test.YtejojcoaohlfbaaGreatMdly
import Derived.Test.YtejojcoaohlfbaaGreatMdlg
import Derived.Test.YtejojcoaohlfbaaGreatSx9
import Derived.Test.YtejojcoaohlfbaaGreatMdb3
namespace Go.Proofs.YtejojcoaohlfbaaGreat
namespace SX
set_option linter.unusedVariables false
set_option linter.unusedSimpArgs false
open Go Go.RowKit
section
variable {α : Type} {L : Lay α} {W w : World} {S0 : List Nat} {C : List Ass} {p : Value} {a : Option Addr} {xs : List α}
end
section rules
variable {P : Program} {N : Nat} {W : World} {S0 : List Nat} {Q : Exit → Go.Act → World → Prop} {T : Tm} {L : Bx} {C : List Ass} {ops : Array Oper} {K : Go.Act → World → Prop}
end rules
theorem zcd (a : Int) : 0 ≤ wr (((BitVec.ofInt 64 a &&& BitVec.ofInt 64 255).toNat : Nat) : Int) ∧ wr (((BitVec.ofInt 64 a &&& BitVec.ofInt 64 255).toNat : Nat) : Int) < 256 := by
 have h : (BitVec.ofInt 64 a &&& BitVec.ofInt 64 255).toNat ≤ 255 := by
  rw [BitVec.toNat_and]
  exact Nat.le_trans Nat.and_le_right (by decide)
 rw [wr_of (by omega) (by omega)]
 omega
section rules
variable {N : Nat} {W : World} {S0 : List Nat} {T : Tm} {L : Bx} {C : List Ass} {K : Go.Act → World → Prop}
end rules
section join
variable {P : Program} {N : Nat} {W : World} {S0 : List Nat} {Q : Exit → Go.Act → World → Prop} {T : Tm} {L : Bx} {C : List Ass}
theorem zdU {x y : Code} {ι : Type} (Tf : ι → Tm) (Lf : ι → Bx) (Cf : ι → List Ass) (Inv : ι → Prop)
 (k1 : CODE P N W S0 x (Exit.then (fun a w => ∃ j, Inv j ∧ Sat N W S0 (Tf j) (Lf j) (Cf j) a w) Q) T L C) (k2 : ∀ j, Inv j → CODE P N W S0 y Q (Tf j) (Lf j) (Cf j)) : CODE P N W S0 (.seq x y) Q T L C := by
 intro a w h
 refine wp_seq (wp_mono (k1 a w h) ?_)
 intro e a' w' hq
 cases e with
 | normal => obtain ⟨j, h1, h2⟩ := hq; exact k2 j h1 a' w' h2
 | _ => exact hq
end join
section
variable {α : Type} (lt : α → α → Bool)
variable {lt}
end
theorem zbv (r : Rules) (p : Party) (now : Int) : decide (levelOf r p now < 0) = !partyOk r p now := by
 unfold levelOf
 have := levelAt_nn r p.tier (wr (now - p.since))
 cases h : partyOk r p now with
 | true => simp only [if_true, Bool.not_true, decide_eq_false_iff_not]; omega
 | false => simp
theorem zbu (r : Rules) (p : Party) (now : Int) : entryOk r p now = (partyOk r p now && p.state == 1) := by simp [entryOk, zbv]
def zL (h : House) (cabin f : Int) : Bool := h.parties.any fun p => p.cabin == cabin && p.from' == f
def zn (h : House) (cabin : Int) : Nat → List Int
 | 0 => []
 | n + 1 => if zL h cabin n then zn h cabin n ++ [(n : Int)] else zn h cabin n
theorem zC (h : House) (cabin : Int) : ∀ n, (zn h cabin n).length ≤ n
 | 0 => by simp [zn]
 | n + 1 => by
   have := zC h cabin n
   unfold zn
   split
   · simp only [List.length_append, List.length_cons, List.length_nil]; omega
   · omega
def zf (h : House) (cabin : Int) : List Int := zn h cabin h.cabins.length
noncomputable def zr (h : House) (cabin : Int) : List Int := if hasCab h cabin then zf h cabin else []
theorem za2 {h : House} {cabin : Int} {c : Cabin} (hc : h.cabins[cabin.toNat]? = some c) : freeAt h cabin = c.seats.free := by simp [freeAt, hc]
theorem zb1 {h : House} {cabin id : Int} (hb : hasCab h cabin = false) : passed h cabin id = [] := by simp [passed, hb]
theorem zbG {h : House} {cabin id : Int} (hb : atId h.parties id < 0) : passed h cabin id = [] := by simp [passed, hb]
theorem zbW {h : House} {cabin id : Int} {q : Party} (hq : h.parties[(atId h.parties id).toNat]? = some q) (hc : q.cabin ≠ cabin) : passed h cabin id = [] := by simp [passed, hq, hc]
theorem zai {h : House} {cabin id : Int} {q : Party} (hb : hasCab h cabin = true) (hn : ¬ atId h.parties id < 0) (hq : h.parties[(atId h.parties id).toNat]? = some q) (hc : q.cabin = cabin) : passed h cabin id = passGo h cabin q h.parties := by
 simp [passed, hb, hn, hq, hc]
theorem zba (w : Wheel) (p : Pin) : (wheelPut w p).spoke.length = w.spoke.length ∧ (wheelPut w p).spoke.flatten.length ≤ w.spoke.flatten.length + 1 := by
 unfold wheelPut
 split
 · exact wheelIns_len w p
 · omega
theorem zq (s : List (List Pin)) (p : Pin) : (wheelPut ⟨s⟩ p).spoke.length = s.length ∧ (wheelPut ⟨s⟩ p).spoke.flatten.length ≤ s.flatten.length + 1 := zba ⟨s⟩ p
theorem zap (r : Rules) (cabin now : Int) : ∀ l : List Party, (queueOf r l cabin now).length ≤ l.length
 | [] => by simp [queueOf]
 | p :: ps => by
   have := zap r cabin now ps
   unfold queueOf
   split
   · rw [qIns_len]; simp only [List.length_cons]; omega
   · simp only [List.length_cons]; omega
theorem zaP (cabin : Int) : ∀ (l : List Party) (out : List Pin), (pinsGo l cabin out).length ≤ out.length + l.length
 | [], out => by simp [pinsGo]
 | p :: ps, out => by
   unfold pinsGo
   have := zaP cabin ps (if p.state == 2 && p.cabin == cabin then pIns out ⟨p.until', p.id⟩ else out)
   split at this
   · rename_i h; rw [if_pos h]; rw [pIns_len] at this; simp only [List.length_cons]; omega
   · rename_i h; rw [if_neg h]; simp only [List.length_cons]; omega
theorem zbt (cabin : Int) (l : List Party) : (pinsGo l cabin []).length ≤ l.length := by
 have := zaP cabin l []; simpa using this
theorem zbK {l : List Entry} (hq : QueueP l) : ∀ (d i : Nat) (x y : Entry), l[i]? = some x → l[i + d + 1]? = some y → entryLess x y = true
 | 0, i, x, y, hx, hy => (hq.2 (i + 0 + 1) y hy).2.1 (by omega) x (by simpa using hx)
 | d + 1, i, x, y, hx, hy => by
   have hl : i + d + 1 < l.length := by have := (List.getElem?_eq_some_iff.1 hy).1; omega
   have hz : l[i + d + 1]? = some l[i + d + 1] := List.getElem?_eq_getElem hl
   exact entryOrd.tr (zbK hq d i x _ hx hz) ((hq.2 (i + (d + 1) + 1) y hy).2.1 (by omega) _ (by rw [show i + (d + 1) + 1 - 1 = i + d + 1 by omega]; exact hz))
theorem za6 {h : House} (hp : PartiesP h) {x y : Party} (hx : x ∈ h.parties) (hy : y ∈ h.parties) (he : x.id = y.id) : x = y := by
 obtain ⟨i, hi⟩ := List.mem_iff_getElem?.1 hx
 obtain ⟨j, hj⟩ := List.mem_iff_getElem?.1 hy
 rcases Nat.lt_trichotomy i j with h1 | h1 | h1
 · have := ids_lt hp (j - i - 1) i x y hi (by rw [show i + (j - i - 1) + 1 = j by omega]; exact hj)
   omega
 · subst h1; rw [hi] at hj; injection hj
 · have := ids_lt hp (i - j - 1) j y x hj (by rw [show j + (i - j - 1) + 1 = i by omega]; exact hi)
   omega
theorem zM {now x : Int} : ∀ {l : List Party}, x ∈ skipGo now l → ∃ p ∈ l, restingB p now = true ∧ p.id = x
 | [], h => by simp [skipGo] at h
 | p :: ps, h => by
   unfold skipGo at h
   split at h
   · rcases List.mem_cons.1 h with rfl | h
     · exact ⟨p, by simp, by assumption, rfl⟩
     · obtain ⟨q, hq, h2⟩ := zM h; exact ⟨q, by simp [hq], h2⟩
   · obtain ⟨q, hq, h2⟩ := zM h; exact ⟨q, by simp [hq], h2⟩
theorem zbI (r : Rules) (p : Party) (now : Int) : beforeB r p p now = false := by
 simp [beforeB]
theorem zW {h : House} {cabin x : Int} {q : Party} : ∀ {l : List Party}, x ∈ passGo h cabin q l → ∃ p ∈ l, p.id = x ∧ fitsB h cabin p = true ∧ beforeB h.rules p q h.now = true
 | [], hx => by simp [passGo] at hx
 | p :: ps, hx => by
   unfold passGo at hx
   split at hx
   · rename_i hc
     simp only [Bool.and_eq_true] at hc
     rcases List.mem_cons.1 hx with rfl | hx
     · exact ⟨p, by simp, rfl, hc⟩
     · obtain ⟨z, hz, h2⟩ := zW hx; exact ⟨z, by simp [hz], h2⟩
   · obtain ⟨z, hz, h2⟩ := zW hx; exact ⟨z, by simp [hz], h2⟩
theorem zag (h : House) (cabin : Int) (q : Party) : ∀ l : List Party, passGo h cabin q l = (l.filter fun p => fitsB h cabin p && beforeB h.rules p q h.now).map (·.id)
 | [] => rfl
 | p :: ps => by
   unfold passGo
   rw [List.filter_cons, zag h cabin q ps]
   split <;> simp
theorem zaT {h : House} {cabin id x : Int} (hx : x ∈ passed h cabin id) : ∃ q, hasCab h cabin = true ∧ q ∈ h.parties ∧ q.id = id ∧ q.cabin = cabin ∧ passed h cabin id = passGo h cabin q h.parties := by
 cases hb : hasCab h cabin with
 | false => rw [zb1 hb] at hx; exact absurd hx List.not_mem_nil
 | true =>
   by_cases hn : atId h.parties id < 0
   · rw [zbG hn] at hx; exact absurd hx List.not_mem_nil
   · obtain ⟨q, hq, hi⟩ := atId_at hn
     by_cases hc : q.cabin = cabin
     · exact ⟨q, rfl, List.mem_of_getElem? hq, hi, hc, zai hb hn hq hc⟩
     · rw [zbW hq hc] at hx; exact absurd hx List.not_mem_nil
theorem zah {h : House} {cabin : Int} (h0 : nextOffer h cabin ≠ 0) : passed h cabin (nextOffer h cabin) = [] := by
 rcases List.eq_nil_or_concat (passed h cabin (nextOffer h cabin)) with h1 | ⟨l, x, h1⟩
 · exact h1
 · exfalso
   have hx : x ∈ passed h cabin (nextOffer h cabin) := by rw [h1]; simp
   obtain ⟨p, hb, hp, hi, hc, he⟩ := zaT hx
   have hh := hasCab_P hb
   have hps := hh.2.2.2.2.2.1
   rw [he] at hx
   obtain ⟨q, hq, _, hf, hbf⟩ := zW hx
   have hcb := hasCab_in hb
   obtain ⟨c, hc1⟩ : ∃ c, h.cabins[cabin.toNat]? = some c := ⟨_, List.getElem?_eq_getElem (by omega)⟩
   have hcn : ((cabin.toNat : Nat) : Int) = cabin := by omega
   obtain ⟨hqp, hrow⟩ := agrees_row hh hc1
   rw [hcn] at hrow
   by_cases hk : firstFit c.row c.seats.free (skipGo h.now h.parties) < 0
   · exact h0 (nextOffer_neg hb hc1 hk)
   · obtain ⟨k, e, hk1, hk2, hk3, hk4⟩ := idxF_at c.row 0 (by unfold firstFit at hk; exact Int.not_lt.1 hk)
     have hk5 : firstFit c.row c.seats.free (skipGo h.now h.parties) = (k : Int) := by unfold firstFit; rw [hk1]; simp
     have hid : nextOffer h cabin = e.id := nextOffer_at hb hc1 hk (by rw [hk5]; simpa using hk2)
     obtain ⟨p2, hp2, ho2, hc2, he2⟩ := queueOf_out (hrow ▸ List.mem_of_getElem? hk2 : e ∈ queueOf h.rules h.parties cabin h.now)
     have hpe : e.id = p2.id := by rw [he2]; simp [entryOf, ho2]
     have hpp : p2 = p := za6 hps hp2 hp (by omega)
     subst hpp
     simp only [fitsB, Bool.and_eq_true, beq_iff_eq, Bool.not_eq_true', decide_eq_true_eq] at hf
     obtain ⟨⟨⟨f1, f2⟩, f3⟩, f4⟩ := hf
     obtain ⟨qi, hqi⟩ := List.mem_iff_getElem?.1 hq
     have hqok := (hps qi q hqi).1
     have hqe : entryOk h.rules q h.now = true := by rw [zbu, hqok, f2]; rfl
     have hm := queueOf_in (cabin := cabin) hq hqe f1
     rw [← hrow] at hm
     obtain ⟨j, hj⟩ := List.mem_iff_getElem?.1 hm
     have hfr := za2 hc1
     have hqfit : fitE c.seats.free (skipGo h.now h.parties) (entryOf h.rules q h.now) = true := by
      unfold fitE
      have e1 : (entryOf h.rules q h.now).size = q.size := by simp [entryOf, hqe]
      have e2 : (entryOf h.rules q h.now).id = q.id := by simp [entryOf, hqe]
      rw [e1, e2, ← hfr]
      simp only [f4, decide_true, Bool.true_and, Bool.not_eq_true']
      rw [List.any_eq_false]
      intro y hy hyq
      obtain ⟨z, hz, hz1, hz2⟩ := zM hy
      have := za6 hps hz hq (by simp at hyq; omega)
      subst this
      rw [hz1] at f3; cases f3
     rcases Nat.lt_trichotomy j k with h2 | h2 | h2
     · have := hk4 j _ h2 hj
       rw [hqfit] at this; cases this
     · subst h2
       rw [hj] at hk2
       injection hk2 with hk2
       have hqp : q = p2 := za6 hps hq hp (by rw [← hpe, ← hk2]; simp [entryOf, hqe])
       subst hqp
       rw [zbI] at hbf; cases hbf
     · have hl := zbK hqp (j - k - 1) k _ _ hk2 (by rw [show k + (j - k - 1) + 1 = j by omega]; exact hj)
       rw [he2] at hl
       simp only [entryLess, entryOf, ho2, hqe, if_true, beforeB, Bool.and_eq_true, Bool.or_eq_true, decide_eq_true_eq, beq_iff_eq] at hl hbf
       omega
theorem zw : ∀ (n : Nat) (l : List Int), Few n l → l.length ≤ n
 | 0, l, ⟨_, h⟩ => by
   cases l with
   | nil => simp
   | cons x l => have := h x (by simp); omega
 | n + 1, l, ⟨h1, h2⟩ => by
   have hf : Few n (l.filter fun x => x != (n : Int)) := ⟨h1.filter _, fun x hx => by
    have := List.mem_filter.1 hx
    have h3 := h2 x this.1
    have h4 : x ≠ (n : Int) := by simpa using this.2
    omega⟩
   have ih := zw n _ hf
   have hsp : l.length ≤ (l.filter fun x => x != (n : Int)).length + 1 := by
    clear ih hf h2
    induction l with
    | nil => simp
    | cons x l ih =>
      have h5 := List.nodup_cons.1 h1
      by_cases hx : x = (n : Int)
      · have hall : (l.filter fun x => x != (n : Int)) = l := List.filter_eq_self.2 fun y hy => by
         have : y ≠ (n : Int) := fun h => h5.1 (by rw [hx, ← h]; exact hy)
         simpa using this
        simp only [List.filter_cons, hx, bne_self_eq_false, Bool.false_eq_true, if_false, hall, List.length_cons]
        omega
      · have hb : (x != (n : Int)) = true := by simpa using hx
        simp only [List.filter_cons, hb, if_true, List.length_cons]
        have := ih h5.2
        omega
   omega
theorem zE (h : House) (cabin : Int) : ∀ (n : Nat) (x : Int), x ∈ zn h cabin n → 0 ≤ x ∧ x < (n : Int)
 | 0, x, hx => by simp [zn] at hx
 | n + 1, x, hx => by
   unfold zn at hx
   split at hx
   · rcases List.mem_append.1 hx with hx | hx
     · have := zE h cabin n x hx; omega
     · simp at hx; subst hx; omega
   · have := zE h cabin n x hx; omega
def zi (h : House) : Nat → Nat → List Int → List Int
 | 0, _, met => met
 | m + 1, i, met => match met[i]? with
   | some c => zi h m (i + 1) ((zf h c).foldl todoPut met)
   | none => met
theorem zab {h : House} {n i : Nat} {met : List Int} {c : Int} (hi : i < n) (hc : met[i]? = some c) : zi h (n - i) i met = zi h (n - (i + 1)) (i + 1) ((zf h c).foldl todoPut met) := by
 rw [show n - i = (n - (i + 1)) + 1 by omega]
 simp only [zi, hc]
theorem zan {h : House} {n i : Nat} {met : List Int} (hi : met.length ≤ i) : zi h (n - i) i met = met := by
 cases hm : n - i with
 | zero => rfl
 | succ m => simp only [zi, List.getElem?_eq_none hi]
def zk (met : List Int) : Nat → List Int
 | 0 => []
 | n + 1 => if met.any (fun e => e == (n : Int)) then zk met n ++ [(n : Int)] else zk met n
theorem zaR (met : List Int) : ∀ n, (zk met n).length ≤ n
 | 0 => by simp [zk]
 | n + 1 => by
   have := zaR met n
   unfold zk
   split
   · simp only [List.length_append, List.length_cons, List.length_nil]; omega
   · omega
noncomputable def ze (h : House) (cabin : Int) : List Int := if hasCab h cabin then zk (zi h h.cabins.length 0 [cabin]) h.cabins.length else []
theorem z8 {h : House} {cabin : Int} (hb : hasCab h cabin = true) : h.cabins.length ≤ 4 := by
 simp only [hasCab, Bool.and_eq_true] at hb
 obtain ⟨h1, _, _, _, h5, _⟩ := houseP_of hb.1
 simp [rulesOk, inB] at h1
 omega
theorem zaU {h : House} {cabin x : Int} (hb : hasCab h cabin = true) (hx : 0 ≤ x ∧ x < (h.cabins.length : Int)) : zr h x = zf h x := by
 have h4 := z8 hb
 have : hasCab h x = true := by
  simp only [hasCab, Bool.and_eq_true] at hb ⊢
  refine ⟨hb.1, ?_⟩
  simp only [inB, Bool.and_eq_true, decide_eq_true_eq]
  rw [wr_of (by omega) (by omega)]
  omega
 rw [zr, if_pos this]
theorem zbE {h : House} {cabin c x : Int} (hb : hasCab h cabin = true) (hx : x ∈ zr h c) : 0 ≤ x ∧ x < (h.cabins.length : Int) := by
 unfold zr at hx
 split at hx
 · exact zE h c _ x hx
 · cases hx
def ltI (a b : Int) : Bool := decide (a < b)
theorem zc1 : Ord ltI := ⟨fun a b h => by simp only [ltI, decide_eq_true_eq, decide_eq_false_iff_not] at h ⊢; omega, fun a b c h => by simp only [ltI, decide_eq_true_eq] at h ⊢; omega⟩
abbrev Inc (l : List Int) : Prop := l.Pairwise fun a b => a < b
theorem zci : ∀ {a b : List Int}, Inc a → Inc b → (∀ x, x ∈ a ↔ x ∈ b) → a = b
 | [], [], _, _, _ => rfl
 | [], y :: b, _, _, h => by have := (h y).2 (by simp); cases this
 | x :: a, [], _, _, h => by have := (h x).1 (by simp); cases this
 | x :: a, y :: b, ha, hb, h => by
   have ha := List.pairwise_cons.1 ha
   have hb := List.pairwise_cons.1 hb
   have hxy : x = y := by
    rcases List.mem_cons.1 ((h x).1 (by simp)) with e | hx
    · exact e
    · rcases List.mem_cons.1 ((h y).2 (by simp)) with e | hy
      · exact e.symm
      · have := hb.1 x hx; have := ha.1 y hy; omega
   subst hxy
   rw [zci ha.2 hb.2 fun z => ⟨fun hz => ?_, fun hz => ?_⟩]
   · rcases List.mem_cons.1 ((h z).1 (by simp [hz])) with e | hz'
     · subst e; have := ha.1 z hz; omega
     · exact hz'
   · rcases List.mem_cons.1 ((h z).2 (by simp [hz])) with e | hz'
     · subst e; have := hb.1 z hz; omega
     · exact hz'
theorem zbp {l : List Int} {e x : Int} : x ∈ insL ltI l e ↔ x = e ∨ x ∈ l := by
 induction l with
 | nil => simp [insL]
 | cons y l ih =>
   unfold insL
   split
   · simp only [List.mem_cons, ih]
     constructor
     · rintro (h | h | h) <;> simp [h]
     · rintro (h | h | h) <;> simp [h]
   · simp only [List.mem_cons]
theorem zca {l : List Int} {e : Int} (h : Inc l) (he : e ∉ l) : Inc (insL ltI l e) := by
 induction l with
 | nil => simp [insL, Inc]
 | cons y l ih =>
   have h1 := List.pairwise_cons.1 h
   have hne : e ≠ y := fun hh => he (by simp [hh])
   unfold insL
   split
   · rename_i hlt
     simp only [ltI, decide_eq_true_eq] at hlt
     refine List.pairwise_cons.2 ⟨fun b hb => ?_, ih h1.2 fun hm => he (by simp [hm])⟩
     rcases zbp.1 hb with rfl | hb
     · exact hlt
     · exact h1.1 b hb
   · rename_i hlt
     simp only [ltI, decide_eq_true_eq] at hlt
     refine List.pairwise_cons.2 ⟨fun b hb => ?_, h⟩
     rcases List.mem_cons.1 hb with rfl | hb
     · omega
     · have := h1.1 b hb; omega
theorem zY : ∀ (l : List Int) (x : Int), x ∈ l.foldr (fun e l => insL ltI l e) [] ↔ x ∈ l
 | [], x => by simp
 | y :: l, x => by rw [List.foldr_cons, zbp, zY l x, List.mem_cons]
theorem zaM : ∀ {l : List Int}, l.Nodup → Inc (l.foldr (fun e l => insL ltI l e) [])
 | [], _ => by simp [Inc]
 | y :: l, h => by
   have h1 := List.nodup_cons.1 h
   rw [List.foldr_cons]
   exact zca (zaM h1.2) fun hm => h1.1 ((zY l y).1 hm)
theorem zX (met : List Int) : ∀ (n : Nat) (x : Int), x ∈ zk met n ↔ x ∈ met ∧ 0 ≤ x ∧ x < (n : Int)
 | 0, x => by simp only [zk, List.not_mem_nil, false_iff]; rintro ⟨_, h1, h2⟩; omega
 | n + 1, x => by
   unfold zk
   have ih := zX met n x
   by_cases hn : met.any (fun e => e == (n : Int)) = true
   · have hm : (n : Int) ∈ met := by
      obtain ⟨y, hy, he⟩ := List.any_eq_true.1 hn
      have : y = (n : Int) := by simpa using he
      rw [← this]; exact hy
     simp only [hn, if_true, List.mem_append, ih, List.mem_singleton]
     constructor
     · rintro (⟨h1, h2, h3⟩ | rfl)
       · exact ⟨h1, h2, by omega⟩
       · exact ⟨hm, by omega, by omega⟩
     · rintro ⟨h1, h2, h3⟩
       by_cases hx : x = (n : Int)
       · exact .inr hx
       · exact .inl ⟨h1, h2, by omega⟩
   · simp only [hn, Bool.false_eq_true, if_false, ih]
     constructor
     · rintro ⟨h1, h2, h3⟩; exact ⟨h1, h2, by omega⟩
     · rintro ⟨h1, h2, h3⟩
       refine ⟨h1, h2, ?_⟩
       have : x ≠ (n : Int) := fun hx => hn (List.any_eq_true.2 ⟨x, h1, by simp [hx]⟩)
       omega
theorem zV (met : List Int) : ∀ n : Nat, Inc (zk met n)
 | 0 => by simp [zk, Inc]
 | n + 1 => by
   unfold zk
   split
   · refine List.pairwise_append.2 ⟨zV met n, by simp, fun a ha b hb => ?_⟩
     simp at hb; subst hb
     exact ((zX met n a).1 ha).2.2
   · exact zV met n
theorem zbo {n : Nat} {met : List Int} (h : Few n met) : sortGo ltI (met.length - 1) 1 met = zk met n := by
 rw [sortGo_eq zc1]
 refine zci (zaM h.1) (zV met n) fun x => ?_
 rw [zY, zX]
 exact ⟨fun hx => ⟨hx, h.2 x hx⟩, fun hx => hx.1⟩
theorem zbb (l : List Party) (id : Int) : (partyCut l id).length ≤ l.length := (partyCut_sub l id).length_le
theorem cellsRep.takeF {α : Type} {L : Lay α} {m : Bool} {w : World} : ∀ {xs : List α} {cells f} (k : Nat), cellsRep L m w cells xs f → ∃ f1 f2, f = f1 ++ f2 ∧ cellsRep L m w (cells.take (k * L.sz)) (xs.take k) f1
 | [], cells, f, k, h => by simp [cellsRep] at h; exact ⟨[], f, rfl, by simp [h.1, cellsRep]⟩
 | x :: xs, cells, f, 0, h => ⟨[], f, rfl, by simp [cellsRep]⟩
 | x :: xs, cells, f, k + 1, ⟨cs, rest, f1, f2, h1, h2, h3, h4⟩ => by
   subst h1; subst h2
   obtain ⟨g1, g2, e, h5⟩ := h4.takeF k
   refine ⟨f1 ++ g1, g2, by rw [e, List.append_assoc], cs, rest.take (k * L.sz), f1, g1, ?_, rfl, h3, h5⟩
   have hl := L.len h3
   rw [List.take_append, hl, List.take_of_length_le (by rw [hl, Nat.add_mul]; omega)]
   congr 2
   rw [Nat.add_mul]; omega
section
variable {P : Program} {N : Nat} {W : World} {S0 : List Nat} {ops : Array Oper} {Q : Exit → Go.Act → World → Prop} {T : Tm} {L : Bx} {C : List Ass} {α : Type}
theorem zc3 {K : Go.Act → World → Prop} {e : TypeId} {La : Lay α} {a : Option Addr} {n c : Nat} {xs : List α} (k j : Nat) (R : List Ass) (hp : pulls [j] C = some ([slA e La (.slice a n c) xs], R)) (hk : k ≤ xs.length) (kk : G N W S0 K T L (R ++ [slA e La (.slice a k c) (xs.take k)])) : G N W S0 K T L C := by
 rintro ac w ⟨bs, fps, ht, hb, hm⟩
 obtain ⟨xps, hx, hnx, hex⟩ := hm.exch hp
 match xps, hx with
 | [fp], ⟨⟨cells, g, h1, h2, h3, h4⟩, _⟩ =>
   obtain ⟨f1, f2, rfl, h5⟩ := h3.takeF k
   have hl : (xs.take k).length = k := by rw [List.length_take]; omega
   have ho : ownsR w e La.sz (.slice a k c) (xs.take k).length (cells.take (k * La.sz)) := by
    rw [hl]
    rcases h1.2 with ⟨hv, h0⟩ | ⟨b, ob, cap, cur, fz, hv, hg, hfz, hnc, hcm, hcs, htake⟩
    · simp only [Value.slice.injEq] at hv
      obtain ⟨rfl, rfl, rfl⟩ := hv
      have hk0 : k = 0 := by omega
      subst hk0
      simpa using ownsR_nil w e La.sz
    · simp only [Value.slice.injEq] at hv
      obtain ⟨rfl, rfl, rfl⟩ := hv
      refine ⟨?_, .inr ⟨b, ob, c, cur, fz, rfl, hg, hfz, by omega, hcm, hcs, ?_⟩⟩
      · rw [List.length_take, h1.1]
        have := Nat.mul_le_mul_right La.sz hk
        omega
      · rw [← htake, List.take_take]
        congr 1
        have := Nat.mul_le_mul_right La.sz hk
        omega
   have hob : (Value.slice a k c).ownBlock = (Value.slice a n c).ownBlock := by cases a <;> rfl
   obtain ⟨fps', hmem⟩ := hex w [slA e La (.slice a k c) (xs.take k)] [(Value.slice a n c).ownBlock.toList ++ f1] ⟨⟨_, f1, ho, by rw [hob], h5, by rw [hl]; omega⟩, trivial⟩
    (by
      simp only [List.flatten_cons, List.flatten_nil, List.append_nil]
      have h9 : ((Value.slice a n c).ownBlock.toList ++ (f1 ++ f2)).Nodup := by rw [← h2]; simpa using hnx
      rw [← List.append_assoc] at h9
      exact (List.nodup_append.1 h9).1)
    (fun b hb _ => by
      simp only [List.flatten_cons, List.flatten_nil, List.append_nil] at hb ⊢
      rw [h2]
      rcases List.mem_append.1 hb with h | h
      · exact List.mem_append.2 (.inl h)
      · exact List.mem_append.2 (.inr (List.mem_append.2 (.inl h)))) (Fr.refl _ _)
   exact kk ac w ⟨bs, fps', ht, hb, hmem⟩
theorem zdE {i : Nat} {K : Go.Act → World → Prop} (t : TypeId) (x hi : Operand) (d : Nat) (ty : TypeId) (ho : opAt ops T i = some (.slice t x none (some hi) none, some d, ty)) (hd : d < N) (a : Option Addr) (n cap : Nat) (kl : IntKind) (l : Int)
 (hx : evv T x = some (.slice a n cap)) (hl : evv T hi = some (.int kl l)) (e : TypeId) (La : Lay α) (xs : List α) (hu : P.underlying t = some (.slice e)) (hs : (P.info? e).map (·.size) = some La.sz) (h0 : 0 ≤ l) (h1 : l ≤ n) (hn : n = xs.length) (hcap : n ≤ cap)
 (j : Nat) (R : List Ass) (hp : pulls [j] C = some ([slA e La (.slice a n cap) xs], R))
 (k : G N W S0 K ((d, .v (.slice a l.toNat cap)) :: T) L (R ++ [slA e La (.slice a l.toNat cap) (xs.take l.toNat)])) : OP P N W S0 ops Q i K T L C := by
 have hz : a.map (·.add (0 * La.sz)) = a := by
  cases a with
  | none => rfl
  | some ad => simp only [Option.map_some, Nat.zero_mul]; congr 1
 refine STEP _ _ _ ho (by rintro _ ⟨⟩; exact hd) (.v (.slice a l.toNat cap)) (by intro j off he; cases he) ?_ (zc3 l.toNat j R hp (by omega) k)
 intro ac o bs w hev hop _ _
 obtain ⟨inf, hi, hsz⟩ := Option.map_eq_some_iff.1 hs
 have hel : P.elem t = e := by unfold Program.elem; rw [hu]
 have hu' : P.underlying t = some (.slice (P.elem t)) := by rw [hel]; exact hu
 have e1 : ac.eval x = .slice a n cap := hev x _ (evo_of_evv hx)
 have e2 := hev _ _ (evo_of_evv hl)
 simp only [den] at e2
 simp only [execOp, hop, e1, e2, Option.map_some, Option.map_none, Sem.run_bind, run_sliceAt_slice w t _ _ _ _ hu', run_slice_h w t a n cap hu' kl l h0 (by omega), hel, run_sizeOf hi, Result.andThen_ok, Sem.run_pure, hsz, sliced, hz, ite_self, Nat.sub_zero, den]
end
section rules
variable {X : List Nat} {P : Program} {N : Nat} {W : World} {S0 : List Nat} {Q : Exit → Go.Act → World → Prop} {T : Tm} {L : Bx} {C : List Ass} {ops : Array Oper} {Kn : List (Nat × Nat)} {i : Nat}
variable {bs : List Nat} {L0 : Bx} {Ks : Keys} {T0 : Tm} {f : Nat} {Ls : List Nat} {la : Array Bool}
theorem cOP {c : Code} (k : ∀ bs : List Nat, bs.length = L.length → CD X P N W S0 c Q (expT bs T) [] (expC bs L ++ C)) : CD X P N W S0 c Q T L C := EXPORT (K := c.wp P Q) k
end rules
theorem zcM {p : Value} {d : Kd} : IsCur p d := trivial
def zaH (v : Value) (d : Kd) : Prop := d.v = v
def W2 {α β ι : Type} (valA : α → ι → Value) (valB : β → Value) : α × β → ι → Value := fun z q => .tuple #[valA z.1 q, valB z.2]
def W2o {α β ι : Type} (own : α → ι → List Ass) : α × β → ι → List Ass := fun z q => own z.1 q
abbrev RW2 {α β ι : Type} (P : α × β → Prop) (valA : α → ι → Value) (own : α → ι → List Ass) (valB : β → Value) (O : List Ass) : Res := RWk P (W2 valA valB) (W2o own) O
section rules
variable {X : List Nat} {P : Program} {N : Nat} {W : World} {S0 : List Nat} {Q : Exit → Go.Act → World → Prop} {T : Tm} {L : Bx} {C : List Ass} {ops : Array Oper} {Kn : List (Nat × Nat)} {i : Nat} {bs : List Nat} {L0 : Bx} {Ks : Keys} {T0 : Tm} {f : Nat} {Ls : List Nat} {la : Array Bool}
theorem gOC {K : Go.Act → World → Prop} {d : Kd} {t : TypeId} {p : Value} {j : Nat} {R : List Ass} (hp : pull j C = some (curO d t p, R))
 (k : ∀ b i h, p = .pointer (some ⟨b, 0, none⟩) → 0 ≤ i → G N W S0 K T L (R ++ [ptC b t [d.v, vi i, vi h], keepA d])) : G N W S0 K T L C := by
 rintro a w ⟨bs, fps, ht, hb, hm⟩
 obtain ⟨xps, hx, hnx, hex⟩ := hm.exch (js := [j]) (pre := [curO d t p]) (R := R) (by simp [pulls, hp])
 match xps, hx with
 | [fp], ⟨⟨b, i, h, h1, h2, h3, h4, h5⟩, _⟩ =>
   subst h3
   obtain ⟨fps', hmem⟩ := hex w [ptC b t [d.v, vi i, vi h], keepA d] [[b], d.f] ⟨⟨rfl, h4⟩, ⟨rfl, h5⟩, trivial⟩ (by simpa using hnx) (fun x hx _ => by simpa using hx) (Fr.refl _ _)
   exact k b i h h1 h2 a w ⟨bs, fps', ht, hb, hmem⟩
theorem gCC {K : Go.Act → World → Prop} {d : Kd} {t : TypeId} {b : Nat} {i h : Int} {j1 j2 : Nat} {R1 R : List Ass} (hp1 : pull j1 C = some (ptC b t [d.v, vi i, vi h], R1)) (hp2 : pull j2 R1 = some (keepA d, R)) (hi : 0 ≤ i)
 (k : G N W S0 K T L (R ++ [curO d t (.pointer (some ⟨b, 0, none⟩))])) : G N W S0 K T L C := by
 rintro a w ⟨bs, fps, ht, hb, hm⟩
 obtain ⟨xps, hx, hnx, hex⟩ := hm.exch (js := [j1, j2]) (pre := [ptC b t [d.v, vi i, vi h], keepA d]) (R := R) (by simp [pulls, hp1, hp2])
 match xps, hx with
 | [fp, gp], ⟨⟨h1, h2⟩, ⟨h3, h4⟩, _⟩ =>
   subst h1 h3
   obtain ⟨fps', hmem⟩ := hex w [curO d t (.pointer (some ⟨b, 0, none⟩))] [b :: d.f] ⟨⟨b, i, h, rfl, hi, rfl, h2, h4⟩, trivial⟩ (by simpa using hnx) (fun x hx _ => by simpa using hx) (Fr.refl _ _)
   exact k a w ⟨bs, fps', ht, hb, hmem⟩
theorem gCK {K : Go.Act → World → Prop} {d : Kd} {t : TypeId} {p : Value} {j : Nat} {R : List Ass} (hp : pull j C = some (curO d t p, R)) (k : G N W S0 K T L (R ++ [keepA d])) : G N W S0 K T L C := by
 rintro a w ⟨bs, fps, ht, hb, hm⟩
 obtain ⟨xps, hx, hnx, hex⟩ := hm.exch (js := [j]) (pre := [curO d t p]) (R := R) (by simp [pulls, hp])
 match xps, hx with
 | [fp], ⟨⟨b, i, h, h1, h2, h3, h4, h5⟩, _⟩ =>
   subst h3
   obtain ⟨fps', hmem⟩ := hex w [keepA d] [d.f] ⟨⟨rfl, h5⟩, trivial⟩ (by
    have := hnx
    simp only [List.flatten_cons, List.flatten_nil, List.append_nil, List.nodup_cons] at this ⊢
    exact this.2) (fun x hx _ => by simp at hx; simp [hx]) (Fr.refl _ _)
   exact k a w ⟨bs, fps', ht, hb, hmem⟩
theorem cOC {c : Code} {d : Kd} {t : TypeId} {p : Value} {j : Nat} {R : List Ass} (hp : pull j C = some (curO d t p, R) := by exact PU) (k : ∀ b i h, p = .pointer (some ⟨b, 0, none⟩) → 0 ≤ i → CD X P N W S0 c Q T L (R ++ [ptC b t [d.v, vi i, vi h], keepA d])) : CD X P N W S0 c Q T L C := gOC (K := c.wp P Q) hp k
theorem cCC {c : Code} {d : Kd} {t : TypeId} {b : Nat} {i h : Int} {j1 j2 : Nat} {R1 R : List Ass} (hp1 : pull j1 C = some (ptC b t [d.v, vi i, vi h], R1) := by exact PU) (hp2 : pull j2 R1 = some (keepA d, R) := by exact PU) (hi : 0 ≤ i)
 (k : CD X P N W S0 c Q T L (R ++ [curO d t (.pointer (some ⟨b, 0, none⟩))])) : CD X P N W S0 c Q T L C := gCC (K := c.wp P Q) hp1 hp2 hi k
theorem cCK {c : Code} {d : Kd} {t : TypeId} {p : Value} {j : Nat} {R : List Ass} (hp : pull j C = some (curO d t p, R) := by exact PU) (k : CD X P N W S0 c Q T L (R ++ [keepA d])) : CD X P N W S0 c Q T L C := gCK (K := c.wp P Q) hp k
theorem cPV {c : Code} {d b : Nat} (hd : lk T d = some (.e (some ⟨b, 0, none⟩) 0 0)) (k : CD X P N W S0 c Q ((d, .v (.pointer (some ⟨b, 0, none⟩))) :: T) L C) : CD X P N W S0 c Q T L C := ASV (K := c.wp P Q) hd k
theorem gKV {K : Go.Act → World → Prop} {d : Kd} {j : Nat} (hC : C[j]? = some (keepA d)) (k : d.ok → G N W S0 K T L C) : G N W S0 K T L C := by
 rintro a w h
 obtain ⟨bs, fps, ht, hb, hm⟩ := h
 obtain ⟨fp, h1⟩ := hm.at_.own j hC
 exact k h1.2.1 a w ⟨bs, fps, ht, hb, hm⟩
theorem cKV {c : Code} {d : Kd} {j : Nat} (hC : C[j]? = some (keepA d) := by exact NT) (k : d.ok → CD X P N W S0 c Q T L C) : CD X P N W S0 c Q T L C := gKV (K := c.wp P Q) hC k
theorem aCW {fn : FuncId} {S : Prop} [inst : HasC P fn S] {vs : Array Value} {d : Nat} {pre R : List Ass} {js : List Nat} {α ι : Type} {Pp : α → Prop} {val : α → ι → Value} {own : α → ι → List Ass} {O : List Ass}
 (hcon : S → ∀ w, At W S0 C w → Spec P w pre fn vs (RWk Pp val own O)) (hp : pulls js C = some (pre, R)) (k : ∀ x, Pp x → ∀ q, OPL X P N W S0 ops Q Kn (i + 1) ((d, .v (val x q)) :: T) L (R ++ (own x q ++ O)))
 (hi : Nat.blt i ops.size = true := by rfl) (hc : callOf P ops T i = some (fn, vs, some d) := by kernel_rfl) (hd : ∀ k, some d = some k → k < N := by exact NO rfl) : AT (.call fn vs (some d)) X P N W S0 ops Q Kn i T L C :=
 opsOne (lt_of_blt hi) (CALL fn vs (some d) hc js pre R hp (RWk Pp val own O) (hcon inst.pf) hd fun x => k x.1.1 x.1.2 x.2)
theorem hCW {fn : FuncId} {S : Prop} [inst : HasC P fn S] {vs : Array Value} {d : Nat} {pre R : List Ass} {js : List Nat} {α ι : Type} {Pp : α → Prop} {val : α → ι → Value} {own : α → ι → List Ass} {O : List Ass}
 (hcon : S → ∀ w, At W S0 C w → Spec P w pre fn vs (RWk Pp val own O)) (hp : pulls js C = some (pre, R)) (k : ∀ x, Pp x → ∀ q, HL X P N W S0 ops Q bs L0 Ks T0 f (i :: Ls) (la.setIfInBounds i true) Kn ((d, .v (val x q)) :: T) L (R ++ (own x q ++ O))) (hC : KP (frz bs L0) Ks (i :: Ls) (la.setIfInBounds i true) R := by exact KP.mk)
 (hc : callOf P ops T i = some (fn, vs, some d) := by kernel_rfl) (hd : ∀ k, some d = some k → k < N := by exact NO rfl) : HO (.call fn vs (some d)) i X P N W S0 ops Q bs L0 Ks T0 f Ls la Kn T L C :=
 CALL fn vs (some d) hc js pre R hp (RWk Pp val own O) (hcon inst.pf) hd fun x => hKEEP hC.app (k x.1.1 x.1.2 x.2)
theorem rWK {v : Value} {α ι : Type} {Pp : α → Prop} {val : α → ι → Value} {own : α → ι → List Ass} {O R R2 : List Ass} {js : List Nat} {x : α} (hr : RP v ⟨ι, val x, own x⟩ C R) (hO : pulls js R = some (O, R2)) (hP : Pp x) : RETG v (RWk Pp val own O) C := by
 obtain ⟨q, ks, h1, h2⟩ := hr
 exact ⟨(⟨x, hP⟩, q), ks ++ js, h1, by rw [pulls_app h2 hO]; rfl⟩
theorem rWV {v : Value} {α : Type} {Pp : α → Prop} {val : α → Unit → Value} {O R2 : List Ass} {js : List Nat} {x : α} (hP : Pp x) (hO : pulls js C = some (O, R2)) (hv : v = val x () := by rfl) : RETG v (RWk Pp val (fun _ _ => []) O) C := ⟨(⟨x, hP⟩, ()), js, hv, by rw [hO]; rfl⟩
theorem zdw {t t2 ty : TypeId} {x y : Operand} {a b : Int} (hx : evv T x = some (.int .i64 a) := by conv => lhs; whnf) (hy : evv T y = some (.int .i64 b) := by conv => lhs; whnf) : Runs P W S0 T C (.binOp .and t x y t2) ty (vi (wr (((BitVec.ofInt 64 a &&& BitVec.ofInt 64 b).toNat : Nat) : Int))) := by
 intro ac o bs w hev hop _ _
 have h1 : ac.eval x = .int .i64 a := hev x _ (evo_of_evv hx)
 have h2 : ac.eval y = .int .i64 b := hev y _ (evo_of_evv hy)
 simp [execOp, hop, h1, h2, eqGuard, binOp, Op.intBits, Sem.run_bind, Sem.run_pure]
 rfl
theorem zdy {t t2 ty : TypeId} {x y : Operand} {a b : Int} (hx : evv T x = some (.int .i64 a) := by conv => lhs; whnf) (hy : evv T y = some (.int .i64 b) := by conv => lhs; whnf) : Runs P W S0 T C (.binOp .xor t x y t2) ty (vi (wr (((BitVec.ofInt 64 a ^^^ BitVec.ofInt 64 b).toNat : Nat) : Int))) := by
 intro ac o bs w hev hop _ _
 have h1 : ac.eval x = .int .i64 a := hev x _ (evo_of_evv hx)
 have h2 : ac.eval y = .int .i64 b := hev y _ (evo_of_evv hy)
 simp [execOp, hop, h1, h2, eqGuard, binOp, Op.intBits, Sem.run_bind, Sem.run_pure]
 rfl
theorem zdv {t t2 ty : TypeId} {x y : Operand} {kd : IntKind} {a b : Int} (hx : evv T x = some (.int .i64 a) := by conv => lhs; whnf) (hy : evv T y = some (.int kd b) := by conv => lhs; whnf) (h0 : 0 ≤ b := by decide) (h1 : b < 64 := by decide) : Runs P W S0 T C (.binOp .shr t x y t2) ty (vi (a / 2 ^ b.toNat)) := by
 intro ac o bs w hev hop _ _
 have h1 : ac.eval x = .int .i64 a := hev x _ (evo_of_evv hx)
 have h2 : ac.eval y = .int kd b := hev y _ (evo_of_evv hy)
 simp [execOp, hop, h1, h2, eqGuard, binOp, Op.shift, Sem.run_bind, Sem.run_pure]
theorem aIK {t : TypeId} {x ix : Operand} {dd : Nat} {ty : TypeId} {a : Option Addr} {c z : Nat} {kd : IntKind} {xs : List UInt8} {d : Kd} {e sz j n : Nat} [TB P]
 (hix : evv T ix = some (.int kd (z : Int)) := by conv => lhs; whnf) (hx : evv T x = some (.slice a n c) := by conv => lhs; whnf) (ho : lkn (TB.D P).row t = some (e, sz) := by conv => lhs; whnf) (hs : SlR byteL d.W a xs d.f) (hC : C[j]? = some (keepA d) := by exact NT) (hn : n = xs.length := by rfl) (hz : z < xs.length)
 (k : OPL X P N W S0 ops Q Kn (i + 1) ((dd, .e a (z * sz) 0) :: T) L C) (hi : Nat.blt i ops.size = true := by rfl) (hoa : opAt ops T i = some (.indexAddr t x ix, some dd, ty) := by kernel_rfl) (hd : dd < N := by exact NL rfl) (hu : P.underlying t = some (.slice e) := by kernel_rfl) (hsz : (P.info? e).map (·.size) = some sz := by kernel_rfl) :
 AT (.op (.indexAddr t x ix) (some dd) ty) X P N W S0 ops Q Kn i T L C := by
 subst hn
 exact aIN k hix hx ho (fun w hw => Rd.some (keepA.rd hw hs hC) (by omega)) hz hi hoa hd hu hsz
theorem zdx {t : TypeId} {x ix : Operand} {dd : Nat} {ty : TypeId} {a : Option Addr} {c : Nat} {z : Int} {kd : IntKind} {xs : List UInt8} {d : Kd} {e sz j n : Nat} [TB P]
 (hix : evv T ix = some (.int kd z) := by conv => lhs; whnf) (hx : evv T x = some (.slice a n c) := by conv => lhs; whnf) (ho : lkn (TB.D P).row t = some (e, sz) := by conv => lhs; whnf) (hs : SlR byteL d.W a xs d.f) (hC : C[j]? = some (keepA d) := by exact NT) (hn : n = xs.length := by rfl) (h0 : 0 ≤ z) (hz : z < xs.length)
 (k : OPL X P N W S0 ops Q Kn (i + 1) ((dd, .e a (z.toNat * sz) 0) :: T) L C) (hi : Nat.blt i ops.size = true := by rfl) (hoa : opAt ops T i = some (.indexAddr t x ix, some dd, ty) := by kernel_rfl) (hd : dd < N := by exact NL rfl) (hu : P.underlying t = some (.slice e) := by kernel_rfl) (hsz : (P.info? e).map (·.size) = some sz := by kernel_rfl) :
 AT (.op (.indexAddr t x ix) (some dd) ty) X P N W S0 ops Q Kn i T L C := by
 subst hn
 exact aIX k hx hix ho (fun w hw => Rd.some (keepA.rd hw hs hC) (by omega)) h0 hz hi hoa hd hu hsz
theorem aLK {t : TypeId} {x : Operand} {dd : Nat} {ty : TypeId} {a : Option Addr} {z : Nat} {xs : List UInt8} {d : Kd} {j : Nat} [TB P]
 (hx : evo T x = some (.e a (z * 1) 0) := by conv => lhs; whnf) (hs : SlR byteL d.W a xs d.f) (hC : C[j]? = some (keepA d) := by exact NT) (hz : z < xs.length) (k : OPL X P N W S0 ops Q Kn (i + 1) ((dd, .v (.int .u8 (xs[z].toNat : Int))) :: T) L C)
 (hi : Nat.blt i ops.size = true := by rfl) (ho : opAt ops T i = some (.load t x, some dd, ty) := by kernel_rfl) (hd : dd < N := by exact NL rfl) (hl : loadOf P t [.int .u8 (xs[z].toNat : Int)] 0 = some (.int .u8 (xs[z].toNat : Int)) := by kernel_rfl) :
 AT (.op (.load t x) (some dd) ty) X P N W S0 ops Q Kn i T L C :=
 opsOne (lt_of_blt hi) (LOADE t x dd ty ho hd a (z * 1) 0 [.int .u8 (xs[z].toNat : Int)] _ hx (fun w hw => Rd.flat (keepA.rd hw hs hC) (List.getElem?_eq_getElem hz)) hl k)
theorem qLK {t : TypeId} {x : Operand} {dd : Nat} {ty : TypeId} {a : Option Addr} {z : Nat} {xs : List UInt8} {d : Kd} {j : Nat} [TB P]
 (hx : evo T x = some (.e a (z * 1) 0) := by conv => lhs; whnf) (hs : SlR byteL d.W a xs d.f) (hC : C[j]? = some (keepA d) := by exact NT) (hz : z < xs.length) (k : QL X P N W S0 ops Q Kn (i + 1) ((dd, .v (.int .u8 (xs[z].toNat : Int))) :: T) L C)
 (ho : opAt ops T i = some (.load t x, some dd, ty) := by kernel_rfl) (hd : dd < N := by exact NL rfl) (hl : loadOf P t [.int .u8 (xs[z].toNat : Int)] 0 = some (.int .u8 (xs[z].toNat : Int)) := by kernel_rfl) :
 QT (.op (.load t x) (some dd) ty) X P N W S0 ops Q Kn i T L C :=
 QLOADE t x dd ty ho hd a (z * 1) 0 [.int .u8 (xs[z].toNat : Int)] _ hx (fun w hw => Rd.flat (keepA.rd hw hs hC) (List.getElem?_eq_getElem hz)) hl k
theorem rWN {v : Value} {α ι : Type} {Pp : α → Prop} {val : α → ι → Value} {own : α → ι → List Ass} {O R2 : List Ass} {js : List Nat} (x : α) (q : ι) (hP : Pp x) (hp : pulls js C = some (own x q ++ O, R2)) (hv : v = val x q := by rfl) : RETG v (RWk Pp val own O) C := ⟨(⟨x, hP⟩, q), js, hv, by rw [hp]; rfl⟩
theorem RPW {v : Value} {r : Res} {R : List Ass} (h : RP v r C R := by
 first
 | exact ⟨(), [], rfl, pl0⟩
 | exact pOWN (h := rfl)
 | exact pHO (h := rfl)
 | exact pWh (h := rfl)
 | exact pRu (h := rfl)
 | exact pCa (h := rfl)) : RP v r C R := h
theorem rW2 {v1 v2 : Value} {α β ι : Type} {Pp : α × β → Prop} {valA : α → ι → Value} {own : α → ι → List Ass} {valB : β → Value} {O R R2 : List Ass} {js : List Nat} {x : α} {y : β} (hr : RP v1 ⟨ι, valA x, own x⟩ C R) (hO : pulls js R = some (O, R2)) (hP : Pp (x, y)) (hv : v2 = valB y := by rfl) :
 RETG (.tuple ⟨[v1, v2]⟩) (RWk Pp (W2 valA valB) (W2o own) O) C := by
 obtain ⟨q, ks, h1, h2⟩ := hr
 subst hv
 exact ⟨(⟨(x, y), hP⟩, q), ks ++ js, by rw [show v1 = valA x q from h1]; rfl, by rw [pulls_app h2 hO]; rfl⟩
theorem zdS {v : Value} {α ι : Type} {Pp : α → Prop} {val : α → ι → Value} {own : α → ι → List Ass} {O : List Ass} (k : RETG v (RWk Pp val own O) C) : RETG v (RWk Pp val own O) C := k
theorem goT {t : TypeId} {x : Operand} {a b c : Option Operand} {d : Option Nat} {ty : TypeId} (k : HO (.op (.slice t x a b c) d ty) i X P N W S0 ops Q bs L0 Ks T0 f Ls la Kn T L C) : HO (.op (.slice t x a b c) d ty) i X P N W S0 ops Q bs L0 Ks T0 f Ls la Kn T L C := k
theorem zbT {w : World} {e : TypeId} {α : Type} {La : Lay α} {a : Option Addr} {n cap j : Nat} {xs : List α} {R : List Ass} (hw : At W S0 C w) (hp : pull j C = some (slA e La (.slice a n cap) xs, R)) : n ≤ cap := by
 obtain ⟨fps, hh, _⟩ := hw.ch
 obtain ⟨fp, gps, ha, _⟩ := holds.pull j hh hp
 have h1 := SlO.capE ⟨fp, ha⟩
 have h2 := (SlO.lenE ⟨fp, ha⟩).1
 omega
theorem zdt [TB P] {t : TypeId} {x hi : Operand} {d : Nat} {ty : TypeId} {kl : IntKind} {z : Int} {n cap j : Nat} {a : Option Addr} {e : TypeId} {α : Type} {La : Lay α} {xs : List α} {R : List Ass}
 (hl : evv T hi = some (.int kl z) := by conv => lhs; whnf) (hx : evv T x = some (.slice a n cap) := by conv => lhs; whnf) (hp : pull j C = some (slA e La (.slice a n cap) xs, R) := by exact PU) (h0 : 0 ≤ z) (hz : z ≤ n) (hn : n = xs.length := by rfl)
 (k : HL X P N W S0 ops Q bs L0 Ks T0 f (i :: Ls) (la.setIfInBounds i true) Kn ((d, .v (.slice a z.toNat cap)) :: T) L (R ++ [slA e La (.slice a z.toNat cap) (xs.take z.toNat)])) (hR : KP (frz bs L0) Ks (i :: Ls) (la.setIfInBounds i true) R := by exact KP.mk)
 (ho : opAt ops T i = some (.slice t x none (some hi) none, some d, ty) := by kernel_rfl) (hd : d < N := by exact NL rfl) (hu : P.underlying t = some (.slice e) := by kernel_rfl) (hs : (P.info? e).map (·.size) = some La.sz := by kernel_rfl) :
 HO (.op (.slice t x none (some hi) none) (some d) ty) i X P N W S0 ops Q bs L0 Ks T0 f Ls la Kn T L C :=
 FACT _ (fun w hw => zbT hw hp) fun hcap => zdE t x hi d ty ho hd a n cap kl z hx hl e La xs hu hs h0 hz hn hcap j R (by simp [pulls, hp]) (hKEEP hR.app k)
theorem zd2 [TB P] {t : TypeId} {x hi : Operand} {d : Nat} {ty : TypeId} {kl : IntKind} {z : Int} {n cap j : Nat} {a : Option Addr} {e : TypeId} {α : Type} {La : Lay α} {xs : List α} {R : List Ass}
 (hl : evv T hi = some (.int kl z) := by conv => lhs; whnf) (hx : evv T x = some (.slice a n cap) := by conv => lhs; whnf) (hp : pull j C = some (slA e La (.slice a n cap) xs, R) := by exact PU) (h0 : 0 ≤ z) (hz : z ≤ n) (hn : n = xs.length := by rfl)
 (k : OPL X P N W S0 ops Q Kn (i + 1) ((d, .v (.slice a z.toNat cap)) :: T) L (R ++ [slA e La (.slice a z.toNat cap) (xs.take z.toNat)])) (hi9 : Nat.blt i ops.size = true := by rfl)
 (ho : opAt ops T i = some (.slice t x none (some hi) none, some d, ty) := by kernel_rfl) (hd : d < N := by exact NL rfl) (hu : P.underlying t = some (.slice e) := by kernel_rfl) (hs : (P.info? e).map (·.size) = some La.sz := by kernel_rfl) :
 AT (.op (.slice t x none (some hi) none) (some d) ty) X P N W S0 ops Q Kn i T L C :=
 opsOne (lt_of_blt hi9) (FACT _ (fun w hw => zbT hw hp) fun hcap => zdE t x hi d ty ho hd a n cap kl z hx hl e La xs hu hs h0 hz hn hcap j R (by simp [pulls, hp]) k)
theorem STD {A B : Prop} (k : B) (h : B → A := by
 intro k
 first
 | (refine idAT ?_
    first
    | (refine aCa ?_; exact aCW (hcon := by intro c w hw; first | (apply c <;> exact SIDE) | fail) (hp := by first | exact plS PU pl0 | exact plS PU (plS PU pl0) | exact pl0 | exact plS PU (plS PU (plS PU (plS PU (plS PU (plS PU pl0)))))) (k := k))
    | (refine aBi ?_
       first
       | exact aRV zdw k
       | exact aRV zdy k
       | exact aRV zdv k))
 | (refine idHO ?_; refine goT ?_; exact zdt (h0 := by omega) (hz := by omega) (k := k))
 | (refine idAT ?_; refine gtC ?_; exact zd2 (h0 := by omega) (hz := by omega) (k := k))
 | (refine idQT ?_; refine qBi ?_
    first
    | exact qRV zdw k
    | exact qRV zdy k
    | exact qRV zdv k)
 | (refine idHO ?_; refine goC ?_; exact hCW (hcon := by intro c w hw; first | (apply c <;> exact SIDE) | fail) (hp := by first | exact plS PU pl0 | exact plS PU (plS PU pl0) | exact pl0 | exact plS PU (plS PU (plS PU (plS PU (plS PU (plS PU pl0)))))) (k := k))
 | (refine zdS ?_
    first
    | exact rWV (hP := k) (hO := by first | exact plS PU pl0 | exact plS PU (plS PU pl0) | exact pl0 | exact plS PU (plS PU (plS PU (plS PU (plS PU (plS PU pl0))))))
    | exact rWK (hr := RPW) (hP := k) (hO := by first | exact plS PU pl0 | exact plS PU (plS PU pl0) | exact pl0 | exact plS PU (plS PU (plS PU (plS PU (plS PU (plS PU pl0))))))
    | exact rW2 (hr := RPW) (hP := k) (hO := by first | exact pl0 | exact plS PU pl0 | exact plS PU (plS PU pl0) | exact plS PU (plS PU (plS PU (plS PU (plS PU (plS PU pl0)))))))) : A := h k
end rules
theorem zao {α : Type} {sz : Nat} {enc : α → List Value} {h : ∀ x, (enc x).length = sz ∧ ∀ u ∈ enc x, isCell u = true} {m : Bool} {w : World} : ∀ {xs : List α} {cells : List Value} {f : List Nat}, cellsRep (flat sz enc h) m w cells xs f → f = []
 | [], _, _, hc => hc.2
 | x :: xs, _, _, ⟨_, _, f1, f2, _, h2, h3, h4⟩ => by
   have e1 : f1 = [] := h3.2
   rw [h2, e1, zao h4]; rfl
theorem zcA {W : World} {a : Option Addr} {xs : List UInt8} {f : List Nat} (h : SlR byteL W a xs f) : f.Nodup := by
 rcases h.2 with ⟨_, rfl⟩ | ⟨b, o, g, cells, _, _, rfl, hc, _⟩
 · exact List.nodup_nil
 · rw [zao hc]; simp
theorem zdY {P : Program} {W : World} {f : FuncId} {code : List UInt8} {a : Option Addr} {c : Nat} (h : ∀ (d : Kd) (v : Value), zaH v d → Spec P W [keepA d] f #[v] ⟨Unit, fun _ => .bool true, fun _ => [keepA d]⟩) (hr : Rd byteL W a code) (hc : code.length ≤ c) :
 Calls P f #[.slice a code.length c] W fun e w' => e = .returned (.bool true) ∧ Below W.heap.size W w' := by
 obtain ⟨fp, hs⟩ := hr
 have hk : (keepA ⟨W, fp, .slice a code.length c⟩).φ W fp := ⟨rfl, ⟨a, c, code, rfl, hc, hs⟩, fun b _ => rfl⟩
 refine (h ⟨W, fp, .slice a code.length c⟩ _ rfl [fp] ⟨hk, trivial⟩ (by simpa using zcA hs)).mono ?_
 rintro e w' ⟨x, nps, rfl, hown, _, _, hfr⟩
 refine ⟨rfl, Fr.below ⟨hfr.os, hfr.tape, hfr.output, hfr.size, fun b hb _ => ?_⟩⟩
 by_cases hm : b ∈ fp
 · match nps, hown with
   | [gp], ⟨h1, _⟩ => exact h1.2.2 b hm
 · exact hfr.block b hb (by simpa using hm)
noncomputable def zm (now : Int) (x : House) (p : Party) : House := if p.state == 2 && !dueB p now then doM x ⟨4, p.id, 0, 0, 0, 0⟩ else x
noncomputable def zo (now : Int) (ps : List Party) (x : House) : House := ps.foldl (zm now) x
def zg (now : Int) (ps : List Party) : List Int := (ps.filter fun p => p.state == 2 && !dueB p now).map (·.id)
theorem zaE {now : Int} {ps : List Party} {x : House} {k : Nat} (h : k < ps.length) : zo now (ps.take (k + 1)) x = zm now (zo now (ps.take k) x) ps[k] := by
 unfold zo
 rw [List.take_succ_eq_append_getElem h, List.foldl_append]; rfl
theorem zau {now : Int} {ps : List Party} {k : Nat} (h : k < ps.length) : zg now (ps.take (k + 1)) = if (ps[k].state == 2 && !dueB ps[k] now) = true then zg now (ps.take k) ++ [ps[k].id] else zg now (ps.take k) := by
 unfold zg
 rw [List.take_succ_eq_append_getElem h, List.filter_append, List.map_append]
 by_cases hc : (ps[k].state == 2 && !dueB ps[k] now) = true
 · rw [if_pos hc]; simp [List.filter_cons, hc]
 · rw [if_neg hc]; simp [List.filter_cons, hc]
theorem zaw {now : Int} : ∀ {ps : List Party} {x : House}, HRep x → HRep (zo now ps x)
 | [], x, h => h
 | p :: ps, x, h => by
   show HRep (zo now ps (zm now x p))
   refine zaw ?_
   unfold zm
   split
   · exact do_hp h
   · exact h
noncomputable def zd (h : House) : House × List Int := if houseOk h then (zo h.now h.parties h, zg h.now h.parties) else (h, [])
noncomputable def za : Nat → House → List Int → House × List Int
 | 0, h, l => (h, l)
 | n + 1, h, l => if (zd (drained h)).2 = [] then ((zd (drained h)).1, l) else za n (zd (drained h)).1 (l ++ (zd (drained h)).2)
theorem zaD : ∀ {n : Nat} {i : Int} {h : House}, HRep h → HRep (drainGo n i h)
 | 0, _, _, hp => hp
 | n + 1, i, h, hp => by
   unfold drainGo
   split
   · exact hp
   · exact zaD (do_hp hp)
theorem zp {h : House} (hp : HRep h) : HRep (drained h) := by
 unfold drained
 rw [if_pos hp.eq]
 exact zaD hp
theorem zA {h : House} (hp : HRep h) : HRep (zd h).1 := by
 unfold zd
 rw [if_pos hp.eq]
 exact zaw hp
theorem zx : ∀ {n : Nat} {h : House} {l : List Int}, HRep h → HRep (za n h l).1
 | 0, _, _, hp => hp
 | n + 1, h, l, hp => by
   unfold za
   split
   · exact zA (zp hp)
   · exact zx (zA (zp hp))
open Go.ChangeShapes Go.WideShapes Go.ChangeAt
theorem zbX {P : Program} {t : TypeId} (ht : P.underlying t = some (.int .u8)) : Opens P t byteL (fun _ => True) := by
 intro H enc w base spare held fuel cs x h
 obtain ⟨n, rfl, _, hw⟩ := DataW.trod_int ht h
 have hb := bounds_u8 hw
 refine ⟨UInt8.ofNat n.toNat, [], ⟨?_, rfl⟩, trivial⟩
 have : ((UInt8.ofNat n.toNat).toNat : Int) = n := by
  rw [UInt8.toNat_ofNat']
  omega
 show [Value.int .u8 n] = [Value.int .u8 ((UInt8.ofNat n.toNat).toNat : Int)]
 rw [this]
end SX
end Go.Proofs.YtejojcoaohlfbaaGreat
namespace Go.Proofs.YtejojcoaohlfbaaGreat
namespace SX
set_option linter.unusedVariables false
set_option linter.unusedSimpArgs false
open Go Go.RowKit
theorem zv (h : House) (p : Party) : (acceptM h p).parties = partyCut h.parties p.id := by unfold acceptM; split <;> rfl
theorem zQ (h : House) (p : Party) : (acceptM h p).now = h.now := by unfold acceptM; split <;> rfl
theorem z0 {l : List Party} {p : Party} (hm : p ∈ l) : ¬ atId l p.id < 0 := fun h => atId_none h p hm rfl
theorem zb3 {k id : Int} (hk : k = 4 ∨ k = 5) (h0 : 1 ≤ id ∧ id ≤ 999) : reqOk ⟨k, id, 0, 0, 0, 0⟩ = true := by
 rcases hk with rfl | rfl <;> simp [reqOk, usedB, inB, reqEq] <;> omega
theorem zdF {x : House} {p : Party} (hp : HRep x) (hm : p ∈ x.parties) (hs : p.state = 2) (hd : dueB p x.now = false) : verdict x ⟨4, p.id, 0, 0, 0, 0⟩ = 0 := by
 have hpo := partyOf_mem hp.ids hm
 have hr := hp.good.ok p hm
 have h1 := hr.id0; have h2 := hr.id1
 unfold verdict
 rw [if_neg (by rw [hp.eq]; decide), if_neg (by show ¬ inB 4 1 7 = false; decide), if_neg (by rw [zb3 (.inl rfl) ⟨h1, h2⟩]; decide)]
 have h9 := z0 hm
 simp only [vKind]
 unfold vAns
 simp [hpo, hs, hd, h9]
theorem do4 {x : House} {p : Party} (hp : HRep x) (hm : p ∈ x.parties) (hs : p.state = 2) (hd : dueB p x.now = false) : doM x ⟨4, p.id, 0, 0, 0, 0⟩ = acceptM x p := by
 have hpo := partyOf_mem hp.ids hm
 unfold doM
 rw [if_pos (zdF hp hm hs hd)]
 simp [doneM, hpo]
theorem za8 {l : List Party} {p x : Party} (hd : (l.map (·.id)).Nodup) (hp : p ∈ l) (hx : x ∈ partyCut l p.id) : x ∈ l ∧ x.id ≠ p.id := by
 have hper := partyCut_perm hd hp
 have hm : x ∈ l := hper.mem_iff.2 (List.mem_cons_of_mem _ hx)
 refine ⟨hm, fun he => ?_⟩
 have h1 := (hper.map (·.id)).nodup_iff.1 hd
 rw [List.map_cons, List.nodup_cons] at h1
 have h2 : x.id ∈ (partyCut l p.id).map (·.id) := List.mem_map_of_mem hx
 rw [he] at h2
 exact h1.1 h2
theorem zbe {now : Int} : ∀ (ps : List Party) (x : House), HRep x → x.now = now → (ps.map (·.id)).Nodup → (∀ q ∈ ps, q.state = 2 → dueB q now = false → q ∈ x.parties) → (∀ q ∈ x.parties, q.state = 2 → dueB q now = false → q ∈ ps) →
 (∀ q ∈ (zo now ps x).parties, q.state = 2 → dueB q now = true) ∧ (zo now ps x).now = now ∧ (zo now ps x).parties.length + (zg now ps).length = x.parties.length
 | [], x, hp, hn, hd, h1, h2 => ⟨fun q hq hs => by
     cases hc : dueB q now with
     | true => rfl
     | false => exact absurd (h2 q hq hs hc) List.not_mem_nil, hn, by simp [zo, zg]⟩
 | p :: ps, x, hp, hn, hd, h1, h2 => by
   rw [List.map_cons, List.nodup_cons] at hd
   have e1 : zo now (p :: ps) x = zo now ps (zm now x p) := rfl
   by_cases hc : (p.state == 2 && !dueB p now) = true
   · have hc' := hc
     simp only [Bool.and_eq_true, beq_iff_eq, Bool.not_eq_true'] at hc
     obtain ⟨hs, hu⟩ := hc
     have hm := h1 p (by simp) hs hu
     have e2 : zm now x p = acceptM x p := by
      unfold zm
      rw [if_pos hc']
      exact do4 hp hm hs (by rw [hn]; exact hu)
     have e3 : zg now (p :: ps) = p.id :: zg now ps := by simp only [zg, List.filter_cons, hc', if_true, List.map_cons]
     rw [e1, e2, e3]
     have hpar := zv x p
     obtain ⟨a1, a2, a3⟩ := zbe (now := now) ps (acceptM x p) (accept_hp hp hm hs) (by rw [zQ]; exact hn) hd.2 (fun q hq hqs hqu => by
      rw [hpar]
      refine cut_mem hp.ids hm (h1 q (by simp [hq]) hqs hqu) fun he => hd.1 ?_
      rw [← he]; exact List.mem_map_of_mem hq) (fun q hq hqs hqu => by
      rw [hpar] at hq
      obtain ⟨b1, b2⟩ := za8 hp.ids hm hq
      rcases List.mem_cons.1 (h2 q b1 hqs hqu) with h | h
      · rw [h] at b2; exact absurd rfl b2
      · exact h)
     refine ⟨a1, a2, ?_⟩
     have hl := (partyCut_perm hp.ids hm).length_eq
     rw [hpar] at a3
     simp only [List.length_cons] at hl ⊢
     omega
   · have e2 : zm now x p = x := by unfold zm; rw [if_neg hc]
     have e3 : zg now (p :: ps) = zg now ps := by simp only [zg, List.filter_cons, hc]; rfl
     rw [e1, e2, e3]
     refine zbe (now := now) ps x hp hn hd.2 (fun q hq => h1 q (by simp [hq])) (fun q hq hqs hqu => ?_)
     rcases List.mem_cons.1 (h2 q hq hqs hqu) with h | h
     · subst h; exact absurd (by rw [hqs, hqu]; rfl) hc
     · exact h
theorem zbH {h : House} (hp : HRep h) : HRep (zd h).1 ∧ (∀ q ∈ (zd h).1.parties, q.state = 2 → dueB q (zd h).1.now = true) ∧ (zd h).1.parties.length + (zd h).2.length = h.parties.length := by
 have hac : zd h = (zo h.now h.parties h, zg h.now h.parties) := if_pos hp.eq
 obtain ⟨a1, a2, a3⟩ := zbe (now := h.now) h.parties h hp rfl hp.ids (fun q hq _ _ => hq) (fun q hq _ _ => hq)
 rw [hac]
 dsimp only
 rw [a2]
 exact ⟨zaw hp, a1, a3⟩
theorem zae {now : Int} {p : Party} : ∀ {l : List Party}, p ∈ l → restingB p now = true → p.id ∈ skipGo now l
 | q :: ps, h, hr => by
   unfold skipGo
   rcases List.mem_cons.1 h with rfl | h
   · rw [if_pos hr]; simp
   · split
     · exact List.mem_cons_of_mem _ (zae h hr)
     · exact zae h hr
theorem za3 {h : House} {cabin : Int} {c : Cabin} {p : Party} (hp : HRep h) (hc : h.cabins[cabin.toNat]? = some c) (hm : p ∈ h.parties) (ho : entryOk h.rules p h.now = true) (hk : p.cabin = cabin) :
 fitE c.seats.free (skipGo h.now h.parties) (entryOf h.rules p h.now) = fitsB h cabin p := by
 have hs : p.state = 1 := (entryOk_st (hp.good.pok hm)).1 ho
 have e1 : (entryOf h.rules p h.now).size = p.size := by simp [entryOf, ho]
 have e2 : (entryOf h.rules p h.now).id = p.id := by simp [entryOf, ho]
 have e3 : (skipGo h.now h.parties).any (fun y => y == p.id) = restingB p h.now := by
  cases hr : restingB p h.now with
  | true => exact List.any_eq_true.2 ⟨p.id, zae hm hr, by simp⟩
  | false =>
    rw [List.any_eq_false]
    intro y hy hyq
    obtain ⟨z, hz, hz1, hz2⟩ := zM hy
    have := hp.good.one hz hm (by simp at hyq; omega)
    subst this
    rw [hr] at hz1; cases hz1
 unfold fitE fitsB
 rw [e1, e2, e3, za2 hc, hk, hs]
 simp [Bool.and_comm]
theorem zcm {h : House} {cabin : Int} {c : Cabin} (hp : HRep h) (h0 : 0 ≤ cabin) (hc : h.cabins[cabin.toNat]? = some c) (e : Entry) : e ∈ c.row ↔ rowM h.rules h.now h.parties cabin e := by
 have := (hp.cab _ c hc).2.1.row e
 rwa [show ((cabin.toNat : Nat) : Int) = cabin by omega] at this
theorem zcf {h : House} {cabin : Int} {p : Party} (hb : hasCab h cabin = true) (hm : p ∈ h.parties) (hf : fitsB h cabin p = true) : nextOffer h cabin ≠ 0 ∧ (passed h cabin p.id = [] → nextOffer h cabin = p.id) := by
 obtain ⟨hp, c0, c1⟩ := hasCab_rep hb
 obtain ⟨c, hc⟩ : ∃ c, h.cabins[cabin.toNat]? = some c := ⟨_, List.getElem?_eq_getElem (by omega)⟩
 have hf' := hf
 simp only [fitsB, Bool.and_eq_true, beq_iff_eq] at hf'
 obtain ⟨⟨⟨f1, f2⟩, f3⟩, f4⟩ := hf'
 have ho : entryOk h.rules p h.now = true := (entryOk_st (hp.good.pok hm)).2 f2
 have hrow := (zcm hp c0 hc (entryOf h.rules p h.now)).2 ⟨p, hm, ho, f1, rfl⟩
 have hfit := (za3 hp hc hm ho f1).trans hf
 obtain ⟨j, hj⟩ := List.mem_iff_getElem?.1 hrow
 have hk : ¬ firstFit c.row c.seats.free (skipGo h.now h.parties) < 0 := by
  intro hk
  obtain ⟨n1, n2⟩ := idxF_none (q := fitE c.seats.free (skipGo h.now h.parties)) c.row 0
  have hn := n1.1 (n2.resolve_right (by unfold firstFit at hk; omega))
  have := hn _ (List.mem_of_getElem? hj)
  rw [hfit] at this; cases this
 obtain ⟨k, e, hk1, hk2, hk3, hk4⟩ := idxF_at c.row 0 (by unfold firstFit at hk; exact Int.not_lt.1 hk)
 have hk5 : firstFit c.row c.seats.free (skipGo h.now h.parties) = (k : Int) := by unfold firstFit; rw [hk1]; simp
 have hid : nextOffer h cabin = e.id := nextOffer_at hb hc hk (by rw [hk5]; simpa using hk2)
 obtain ⟨p2, hm2, ho2, hcb2, he2⟩ := (zcm hp c0 hc e).1 (List.mem_of_getElem? hk2)
 have hpe : e.id = p2.id := by rw [he2]; simp [entryOf, ho2]
 have hp2 := hp.good.ok p2 hm2
 refine ⟨by rw [hid, hpe]; have := hp2.id0; omega, fun hpa => ?_⟩
 by_cases he : p2 = p
 · rw [hid, hpe, he]
 · exfalso
   have hf2 : fitsB h cabin p2 = true := by rw [← za3 hp hc hm2 ho2 hcb2, ← he2]; exact hk3
   have hqp := (agrees_row (houseP_iff.2 hp) hc).1
   have hbf : beforeB h.rules p2 p h.now = true := by
    rcases Nat.lt_trichotomy j k with h2 | h2 | h2
    · have := hk4 j _ h2 hj
      rw [hfit] at this; cases this
    · subst h2
      rw [hj] at hk2
      injection hk2 with hk2
      exact absurd (hp.good.one hm2 hm (by rw [← hpe, ← hk2]; simp [entryOf, ho])) he
    · have hl := zbK hqp (j - k - 1) k _ _ hk2 (by rw [show k + (j - k - 1) + 1 = j by omega]; exact hj)
      have l1 := level_rng (hp.good.pok hm); have l2 := level_rng (hp.good.pok hm2)
      rw [he2] at hl
      simp only [entryLess, entryOf, ho2, ho, if_true, beforeB, Bool.and_eq_true, Bool.or_eq_true, decide_eq_true_eq, beq_iff_eq] at hl ⊢
      omega
   have hnn := z0 hm
   obtain ⟨q, hq1, hq2⟩ := atId_at hnn
   have hqe : q = p := hp.good.one (List.mem_of_getElem? hq1) hm hq2
   subst hqe
   rw [zai hb hnn hq1 f1, zag] at hpa
   have hmem : p2.id ∈ (h.parties.filter fun p => fitsB h cabin p && beforeB h.rules p q h.now).map (·.id) := List.mem_map_of_mem (List.mem_filter.2 ⟨hm2, by rw [hf2, hbf]; rfl⟩)
   rw [hpa] at hmem
   exact absurd hmem List.not_mem_nil
def zR (h : House) (who : Int) : Prop := ¬ (jobAt h who < 0 ∧ h.todo.length = 0)
theorem zcN {h : House} {who : Int} (hp : HRep h) (h0 : 0 ≤ who) (h1 : who < h.rules.crew) : verdict h ⟨7, who, 0, 0, 0, 0⟩ = if jobAt h who < 0 ∧ h.todo.length = 0 then 17 else 0 := by
 have hc := (rr_of hp.rules).crew
 have hr : reqOk ⟨7, who, 0, 0, 0, 0⟩ = true := by simp [reqOk, usedB, inB, reqEq]; omega
 unfold verdict
 rw [if_neg (by rw [hp.eq]; decide), if_neg (by show ¬ inB 7 1 7 = false; decide), if_neg (by rw [hr]; decide)]
 simp only [vKind]
 unfold vPick
 simp only [show ¬ ((7 : Int) = 1) by decide, show ¬ ((7 : Int) = 2) by decide, show ¬ ((7 : Int) = 3) by decide, show ¬ ((7 : Int) = 4 ∨ (7 : Int) = 5) by decide, show ¬ ((7 : Int) = 6) by decide, if_false, ge_iff_le, Int.not_le.2 h1]
theorem zbg {h : House} {who : Int} (hp : HRep h) (h0 : 0 ≤ who) (h1 : who < h.rules.crew) (hn : jobAt h who < 0 ∧ h.todo.length = 0) : doM h ⟨7, who, 0, 0, 0, 0⟩ = h := by
 unfold doM
 rw [zcN hp h0 h1, if_pos hn]; rfl
theorem do7 {h : House} {who : Int} (hp : HRep h) (h0 : 0 ≤ who) (h1 : who < h.rules.crew) (hn : zR h who) : doM h ⟨7, who, 0, 0, 0, 0⟩ = (pickM h who).1 := by
 have hv : verdict h ⟨7, who, 0, 0, 0, 0⟩ = 0 := by rw [zcN hp h0 h1, if_neg hn]
 unfold doM
 rw [if_pos hv]
 simp [doneM]
def muN (h : House) : Nat := 2 * h.todo.length + (h.jobs.filter fun j => decide (0 ≤ j)).length
theorem zbd {p : Int → Bool} {v : Int} : ∀ {l : List Int} {k : Nat} {j : Int}, l[k]? = some j → ((l.set k v).filter p).length + (if p j then 1 else 0) = (l.filter p).length + (if p v then 1 else 0)
 | x :: l, 0, j, h => by
   simp only [List.getElem?_cons_zero, Option.some.injEq] at h
   subst h
   simp only [List.set_cons_zero, List.filter_cons]
   split <;> split <;> (try simp only [List.length_cons]) <;> omega
 | x :: l, k + 1, j, h => by
   have := zbd (p := p) (v := v) (l := l) (k := k) (j := j) (by simpa using h)
   simp only [List.set_cons_succ, List.filter_cons]
   split <;> (try simp only [List.length_cons]) <;> omega
theorem zaW {h : House} {who : Int} (hp : HRep h) (h0 : 0 ≤ who) (h1 : who < h.rules.crew) : (pickM h who).1.rules = h.rules ∧ (pickM h who).1.now = h.now := by
 obtain ⟨j1, j2, j3⟩ := job_rng hp h0 h1
 unfold pickM
 split
 · exact ⟨rfl, rfl⟩
 · obtain ⟨a1, a2, a3, a4, a5, a6⟩ := scan_hp hp (show 0 ≤ jobAt h who by omega) j3
   exact ⟨a3, a4⟩
theorem zbN {h : House} {who : Int} (hp : HRep h) (h0 : 0 ≤ who) (h1 : who < h.rules.crew) (hn : zR h who) : muN (pickM h who).1 < muN h := by
 obtain ⟨j1, j2, j3⟩ := job_rng hp h0 h1
 unfold pickM
 split
 · rename_i hneg
   cases ht : h.todo with
   | nil => exact absurd ⟨hneg, by rw [ht]; rfl⟩ hn
   | cons t ts =>
     have h2 := zbd (p := fun j => decide (0 ≤ j)) (v := t) j1
     have h3 := hp.todoRng (x := t) (by rw [ht]; simp)
     simp only [muN, withJobs, ht, List.tail_cons, List.headD_cons, List.length_cons]
     rw [if_neg (by simp; omega), if_pos (by simp; omega)] at h2
     omega
 · rename_i hneg
   obtain ⟨a1, a2, a3, a4, a5, a6⟩ := scan_hp hp (show 0 ≤ jobAt h who by omega) j3
   have h2 := zbd (p := fun j => decide (0 ≤ j)) (v := -1) j1
   rw [if_pos (by simp; omega), if_neg (by decide)] at h2
   simp only [muN, withJobs, a5, a6]
   omega
theorem zbq {h : House} (hp : HRep h) (hi : idleB h = false) : ∃ j, 0 ≤ j ∧ j < h.rules.crew ∧ zR h j := by
 have hc := (rr_of hp.rules).crew
 have hl := (JobsP.iff.1 hp.jobs).2.2.2
 by_cases ht : h.todo.length = 0
 · have ha : h.jobs.all (fun j => decide (j < 0)) = false := by
    unfold idleB at hi
    rw [ht] at hi
    simpa using hi
   obtain ⟨x, hx, hx2⟩ := List.all_eq_false.1 ha
   obtain ⟨k, hk, rfl⟩ := List.mem_iff_getElem.1 hx
   refine ⟨k, by omega, by omega, fun hn => ?_⟩
   have : jobAt h k = h.jobs[k] := by simp [jobAt, List.getElem?_eq_getElem hk]
   rw [this] at hn
   exact hx2 (by simpa using hn.1)
 · exact ⟨0, by omega, by omega, fun hn => ht hn.2⟩
theorem zcs {h : House} {who : Int} (hp : HRep h) (h0 : 0 ≤ who) (h1 : who < h.rules.crew) (hn : zR h who) : 1 ≤ muN h := by
 have := zbN hp h0 h1 hn
 omega
theorem zD : ∀ (n : Nat) (i : Int) (h : House) (t : Int), 0 ≤ i → HRep h → 0 ≤ t → t < h.rules.crew → (idleB h = true ∨ zR h ((i + t) % h.rules.crew)) → 3 * (muN h : Int) + t ≤ n + 2 → idleB (drainGo n i h) = true
 | 0, i, h, t, hi, hp, h0, h1, hd, hm => by
   rcases hd with hd | hd
   · exact hd
   · have hc := (rr_of hp.rules).crew
     have := zcs hp (Int.emod_nonneg _ (by omega)) (Int.emod_lt_of_pos _ (by omega)) hd
     omega
 | n + 1, i, h, t, hi, hp, h0, h1, hd, hm => by
   have hc := (rr_of hp.rules).crew
   unfold drainGo
   split
   · assumption
   · rename_i hid
     have hd2 : zR h ((i + t) % h.rules.crew) := hd.resolve_left hid
     have e1 : Int.tmod i h.rules.crew = i % h.rules.crew := Int.tmod_eq_emod_of_nonneg hi
     rw [e1]
     have w0 := Int.emod_nonneg i (b := h.rules.crew) (by omega)
     have w1 := Int.emod_lt_of_pos i (b := h.rules.crew) (by omega)
     by_cases hpr : zR h (i % h.rules.crew)
     · rw [do7 hp w0 w1 hpr]
       have hp2 := pick_hp hp w0 w1 hpr
       have hmu := zbN hp w0 w1 hpr
       have hru := (zaW hp w0 w1).1
       cases hid2 : idleB (pickM h (i % h.rules.crew)).1 with
       | true => exact zD n (i + 1) _ 0 (by omega) hp2 (by omega) (by rw [hru]; omega) (.inl hid2) (by omega)
       | false =>
         obtain ⟨j, j0, j1, j2⟩ := zbq hp2 hid2
         rw [hru] at j1
         refine zD n (i + 1) _ ((j - (i + 1)) % h.rules.crew) (by omega) hp2 (Int.emod_nonneg _ (by omega)) (by rw [hru]; exact Int.emod_lt_of_pos _ (by omega)) (.inr ?_) (by have := Int.emod_lt_of_pos (j - (i + 1)) (b := h.rules.crew) (by omega); omega)
         rw [hru, Int.add_emod_emod]
         rw [show i + 1 + (j - (i + 1)) = j by omega, Int.emod_eq_of_lt j0 j1]
         exact j2
     · have hno : jobAt h (i % h.rules.crew) < 0 ∧ h.todo.length = 0 := Classical.not_not.1 hpr
       rw [zbg hp w0 w1 hno]
       have ht0 : t ≠ 0 := by rintro rfl; rw [Int.add_zero] at hd2; exact hpr hd2
       exact zD n (i + 1) h (t - 1) (by omega) hp (by omega) (by omega) (.inr (by rw [show i + 1 + (t - 1) = i + t by omega]; exact hd2)) (by omega)
theorem zcu {h : House} (hp : HRep h) : h.todo.length ≤ h.cabins.length ∧ h.cabins.length ≤ 4 := by
 have hj := JobsP.iff.1 hp.jobs
 have hs := (rr_of hp.rules).seats; have hcb := hp.cabs
 have h1 := nodup_le (m := (List.range h.cabins.length).map (fun i : Nat => (i : Int))) hj.2.1 (fun x hx => by
  have := hp.todoRng hx
  exact List.mem_map.2 ⟨x.toNat, List.mem_range.2 (by omega), by omega⟩)
 rw [List.length_map, List.length_range] at h1
 exact ⟨h1, by omega⟩
theorem zbc {h : House} (hp : HRep h) : idleB (drained h) = true := by
 have hc := (rr_of hp.rules).crew
 have hl := (JobsP.iff.1 hp.jobs).2.2.2
 have ht := zcu hp
 have hm : muN h ≤ 11 := by
  have := List.length_filter_le (fun j => decide (0 ≤ j)) h.jobs
  unfold muN; omega
 unfold drained
 rw [if_pos hp.eq]
 cases hid : idleB h with
 | true => exact zD 60 0 h 0 (by omega) hp (by omega) (by omega) (.inl hid) (by omega)
 | false =>
   obtain ⟨j, j0, j1, j2⟩ := zbq hp hid
   exact zD 60 0 h j (by omega) hp j0 j1 (.inr (by rw [Int.zero_add, Int.emod_eq_of_lt j0 j1]; exact j2)) (by omega)
theorem zbL {h : House} (hi : idleB h = true) : drained h = h := by
 unfold drained
 split
 · unfold drainGo; rw [if_pos hi]
 · rfl
theorem zbP {l : List Party} {p q x : Party} (hd : (l.map (·.id)).Nodup) (hp : p ∈ l) (he : q.id = p.id) (hx : x ∈ partyPut l q) : x = q ∨ (x ∈ l ∧ x.id ≠ p.id) := by
 rcases List.mem_cons.1 ((partyPut_perm hd hp he).mem_iff.1 hx) with h | h
 · exact .inl h
 · exact .inr (za8 hd hp h)
theorem zb7 {h : House} {p x : Party} (hp : HRep h) (hm : p ∈ h.parties) (hx : x ∈ (failsM h p).parties) (hs : x.state = 2) : x ∈ h.parties ∧ x.id ≠ p.id := by
 rw [fails_parties] at hx
 split at hx
 · rcases zbP hp.ids hm (q := failedP h.rules p h.now) rfl hx with h1 | h1
   · rw [h1] at hs; exact absurd hs (by simp [failedP])
   · exact h1
 · exact za8 hp.ids hm hx
theorem zaB : ∀ {ids : List Int} {h : House}, HRep h → DueP h.parties ids → ∀ q ∈ (expireGo ids h).parties, q.state = 2 → q ∈ h.parties ∧ q.id ∉ ids
 | [], h, hp, hd, q, hq, hs => ⟨hq, List.not_mem_nil⟩
 | id :: ids, h, hp, hd, q, hq, hs => by
   obtain ⟨h1, h2, h3, h4, h5⟩ := due_step hp hd
   obtain ⟨a1, a2⟩ := zaB h4 h5 q hq hs
   obtain ⟨b1, b2⟩ := zb7 hp h1 a1 hs
   refine ⟨b1, fun hm => ?_⟩
   rcases List.mem_cons.1 hm with h9 | h9
   · exact b2 (by rw [h9, h2])
   · exact a2 h9
theorem zaq {l : List Int} {x y : Int} (h : y = x ∨ y ∈ l) : y ∈ todoPut l x := by
 unfold todoPut
 split
 · rename_i ha
   rcases h with rfl | h
   · obtain ⟨z, hz, hz2⟩ := List.any_eq_true.1 ha
     simp at hz2; subst hz2; exact hz
   · exact h
 · rcases h with rfl | h <;> simp [*]
theorem zbk {now : Int} : ∀ {ps : List Party} {x : House}, zg now ps = [] → zo now ps x = x
 | [], x, _ => rfl
 | p :: ps, x, h => by
   have e1 : zo now (p :: ps) x = zo now ps (zm now x p) := rfl
   by_cases hc : (p.state == 2 && !dueB p now) = true
   · simp only [zg, List.filter_cons, hc, if_true, List.map_cons] at h
     cases h
   · have e3 : zg now (p :: ps) = zg now ps := by simp only [zg, List.filter_cons, hc]; rfl
     rw [e3] at h
     rw [e1, zm, if_neg hc]
     exact zbk h
theorem zN {h : House} (hi : (zd h).2 = []) : (zd h).1 = h := by
 unfold zd at hi ⊢
 split
 · rename_i hok
   rw [if_pos hok] at hi
   exact zbk hi
 · rfl
theorem zT : ∀ (n : Nat) (h : House) (l : List Int), HRep h → (za n h l).2.length < l.length + n → HRep (za n h l).1 ∧ idleB (za n h l).1 = true ∧ (zd (za n h l).1).2 = []
 | 0, h, l, hp, hl => by simp [za] at hl
 | n + 1, h, l, hp, hl => by
   have hd := zp hp
   by_cases hi : (zd (drained h)).2 = []
   · have e : za (n + 1) h l = ((zd (drained h)).1, l) := by simp only [za]; rw [if_pos hi]
     rw [e]
     dsimp only
     rw [zN hi]
     exact ⟨hd, zbc hp, hi⟩
   · have e : za (n + 1) h l = za n (zd (drained h)).1 (l ++ (zd (drained h)).2) := by
      have e : za (n + 1) h l = if (zd (drained h)).2 = [] then ((zd (drained h)).1, l) else za n (zd (drained h)).1 (l ++ (zd (drained h)).2) := by simp only [za]
      rw [e, if_neg hi]
     have h1 : 0 < (zd (drained h)).2.length := List.length_pos_iff.2 hi
     rw [e] at hl ⊢
     exact zT n _ _ (zA hd) (by rw [List.length_append]; omega)
theorem zbi {h : House} {n : Nat} (hi : idleB h = true) (ha : (zd h).2 = []) : za (n + 1) h [] = (h, []) := by
 have hd := zbL hi
 have e : za (n + 1) h [] = ((zd (drained h)).1, []) := by simp only [za]; rw [hd, if_pos ha]
 rw [e, hd, zN ha]
theorem z7 : ∀ (n : Nat) (x : House) (k : Int), (scanGo n x k).1.rules = x.rules
 | 0, x, k => rfl
 | n + 1, x, k => by
   unfold scanGo
   split
   · rfl
   · exact z7 n (offeredM x k) k
theorem zbJ (h : House) (k : Int) : (scan h k).1.rules = h.rules := by
 unfold scan
 split
 · exact (z7 _ (expireM h k) k).trans (expireGo_same (dueIds h k) h).1
 · rfl
theorem zax (h : House) (q : Req) : (doM h q).rules = h.rules := by
 unfold doM
 split
 · unfold doneM
   split
   · rfl
   · split
     · unfold cancelM; split <;> rfl
     · split
       · rfl
       · split
         · unfold acceptM; split <;> rfl
         · split
           · exact (fails_same (h := h) (p := partyOf h.parties q.id)).1
           · split
             · rfl
             · unfold pickM
               split
               · rfl
               · exact zbJ h _
 · rfl
theorem zcl {h : House} {q : Req} (hv : verdict h q ≠ 0) : doM h q = h := if_neg hv
structure Kin (p p' : Party) : Prop where
 id : p'.id = p.id
 cab : p'.cabin = p.cabin
 frm : p'.from' = p.from'
 size : p'.size = p.size
 tier : p'.tier = p.tier
 since : p'.since = p.since
 turn : p'.turn = p.turn
theorem Kin.refl (p : Party) : Kin p p := ⟨rfl, rfl, rfl, rfl, rfl, rfl, rfl⟩
theorem Kin.trans {a b c : Party} (h : Kin a b) (g : Kin b c) : Kin a c :=
 ⟨g.id.trans h.id, g.cab.trans h.cab, g.frm.trans h.frm, g.size.trans h.size, g.tier.trans h.tier, g.since.trans h.since, g.turn.trans h.turn⟩
def zl (l l' : List Party) : Prop := ∀ p' ∈ l', ∃ p ∈ l, Kin p p'
theorem zl.refl (l : List Party) : zl l l := fun p h => ⟨p, h, Kin.refl p⟩
theorem zl.trans {a b c : List Party} (h : zl a b) (g : zl b c) : zl a c := fun p hp => by
 obtain ⟨q, hq, k1⟩ := g p hp
 obtain ⟨r, hr, k2⟩ := h q hq
 exact ⟨r, hr, k2.trans k1⟩
theorem zl.cut (l : List Party) (id : Int) : zl l (partyCut l id) := fun p hp => ⟨p, (partyCut_sub l id).subset hp, Kin.refl p⟩
theorem zl.put {l : List Party} {p q : Party} (hd : (l.map (·.id)).Nodup) (hm : p ∈ l) (k : Kin p q) : zl l (partyPut l q) := fun x hx => by
 rcases List.mem_cons.1 ((partyPut_perm hd hm k.id).mem_iff.1 hx) with rfl | h1
 · exact ⟨p, hm, k⟩
 · exact ⟨x, (partyCut_sub _ _).subset h1, Kin.refl x⟩
theorem zaf {h : House} {p : Party} (hp : HRep h) (hm : p ∈ h.parties) : zl h.parties (failsM h p).parties := by
 rw [fails_parties]
 split
 · exact zl.put hp.ids hm ⟨rfl, rfl, rfl, rfl, rfl, rfl, rfl⟩
 · exact zl.cut _ _
theorem zaa : ∀ {ids : List Int} {h : House}, HRep h → DueP h.parties ids → zl h.parties (expireGo ids h).parties
 | [], h, hp, _ => zl.refl _
 | id :: ids, h, hp, hd => by
   obtain ⟨h1, _, _, h4, h5⟩ := due_step hp hd
   show zl h.parties (expireGo ids (failsM h (partyOf h.parties id))).parties
   exact (zaf hp h1).trans (zaa h4 h5)
theorem zbm {h : House} {k : Int} (hb : hasCab h k = true) : zl h.parties (expireM h k).parties := by
 obtain ⟨hp, h0, h1⟩ := hasCab_rep hb
 exact zaa hp (due_start hp h0)
theorem zu {h : House} {k : Int} : (offeredM h k).parties = partyPut h.parties (offeredP h.rules (partyOf h.parties (nextOffer h k)) h.now) := rfl
theorem zbs {h : House} {k : Int} (h0 : nextOffer h k ≠ 0) : zl h.parties (offeredM h k).parties := by
 obtain ⟨h1, h2, _, _, h5⟩ := next_party h0
 rw [zu]
 exact zl.put (hasCab_rep h5).1.ids h1 ⟨rfl, rfl, rfl, rfl, rfl, rfl, rfl⟩
theorem zaN : ∀ (n : Nat) (h : House) (k : Int), zl h.parties (scanGo n h k).1.parties
 | 0, h, k => zl.refl _
 | n + 1, h, k => by
   unfold scanGo
   split
   · exact zl.refl _
   · rename_i h0
     exact (zbs h0).trans (zaN n _ k)
theorem zaK (h : House) (k : Int) : zl h.parties (scan h k).1.parties := by
 unfold scan
 split
 · rename_i hb
   exact (zbm hb).trans (zaN _ _ k)
 · exact zl.refl _
theorem zI (h : House) (w : Int) : (pickM h w).1.parties = if jobAt h w < 0 then h.parties else (scan h (jobAt h w)).1.parties := by
 unfold pickM; split <;> rfl
theorem zav (h : House) (p : Party) : (cancelM h p).parties = partyCut h.parties p.id := by unfold cancelM; split <;> rfl
theorem zce {h : House} {q : Req} (hv : verdict h q = 0) (hk : q.kind = 2 ∨ q.kind = 4 ∨ q.kind = 5) : ¬ atId h.parties q.id < 0 := by
 have v := (verdict_ok hv).v
 unfold vKind at v
 rcases hk with hk | hk | hk
 · simp only [hk] at v
   intro h1
   simp [h1] at v
 · simp only [hk] at v
   intro h1
   simp [vAns, h1] at v
 · simp only [hk] at v
   intro h1
   simp [vAns, h1] at v
theorem zcQ {h : House} {q : Req} (hp : HRep h) (hk : q.kind ≠ 1 ∨ verdict h q ≠ 0) : zl h.parties (doM h q).parties := by
 unfold doM
 split
 · rename_i hv
   have hk1 : q.kind ≠ 1 := hk.resolve_right fun h => h hv
   unfold doneM
   rw [if_neg hk1]
   split
   · rw [zav]; exact zl.cut _ _
   · split
     · exact zl.refl _
     · split
       · rw [zv]; exact zl.cut _ _
       · split
         · rename_i h5
           exact zaf hp (partyOf_in (zce hv (.inr (.inr h5)))).1
         · split
           · exact zl.refl _
           · rw [zI]
             split
             · exact zl.refl _
             · exact zaK h _
 · exact zl.refl _
def wgt (tr T k : Int) (p : Party) : Int := if p.cabin = k ∧ p.turn < T then tr - p.asked - (if p.state = 2 then 1 else 0) else 0
def pot (tr T k : Int) (l : List Party) : Int := (l.map (wgt tr T k)).sum
theorem zcw {r : Rules} {now T k : Int} {p : Party} (g : PR r now p) : 0 ≤ wgt r.tries T k p ∧ wgt r.tries T k p ≤ if p.cabin = k then r.tries else 0 := by
 have h1 := g.asked
 unfold wgt
 by_cases hc : p.cabin = k ∧ p.turn < T
 · rw [if_pos hc, if_pos hc.1]; split <;> omega
 · rw [if_neg hc]; split <;> omega
theorem zbS {l : List Party} {p : Party} {tr T k : Int} (hd : (l.map (·.id)).Nodup) (hm : p ∈ l) : pot tr T k l = wgt tr T k p + pot tr T k (partyCut l p.id) := sum_cons (partyCut_perm hd hm)
theorem zbQ {l : List Party} {p q : Party} {tr T k : Int} (hd : (l.map (·.id)).Nodup) (hm : p ∈ l) (he : q.id = p.id) : pot tr T k (partyPut l q) = wgt tr T k q + pot tr T k (partyCut l p.id) := sum_cons (partyPut_perm hd hm he)
theorem zb6 {h : House} {p : Party} {T k : Int} (hp : HRep h) (hm : p ∈ h.parties) (hs : p.state = 2) : pot h.rules.tries T k (failsM h p).parties ≤ pot h.rules.tries T k h.parties := by
 have g := hp.pr hm
 have h1 := zbS (tr := h.rules.tries) (T := T) (k := k) hp.ids hm
 rw [fails_parties]
 split
 · rename_i hf
   have h2 := (failed_iff hp.rules hp.now g hs).1 hf
   have h3 := g.asked; have h4 := (rr_of hp.rules).tries
   rw [zbQ (q := failedP h.rules p h.now) hp.ids hm rfl, h1]
   have h5 : wgt h.rules.tries T k (failedP h.rules p h.now) = wgt h.rules.tries T k p := by
    have e1 : (failedP h.rules p h.now).cabin = p.cabin := rfl
    have e2 : (failedP h.rules p h.now).turn = p.turn := rfl
    have e3 : (failedP h.rules p h.now).state = 1 := rfl
    have e4 : (failedP h.rules p h.now).asked = p.asked + 1 := by show wr (p.asked + 1) = _; exact wr_of (by omega) (by omega)
    unfold wgt
    rw [e1, e2, e3, e4, hs]
    split
    · simp; omega
    · rfl
   omega
 · have h2 := (zcw (T := T) (k := k) g).1
   omega
theorem zac {T k : Int} : ∀ {ids : List Int} {h : House}, HRep h → DueP h.parties ids → pot h.rules.tries T k (expireGo ids h).parties ≤ pot h.rules.tries T k h.parties
 | [], h, hp, _ => Int.le_refl _
 | id :: ids, h, hp, hd => by
   obtain ⟨h1, _, h3, h4, h5⟩ := due_step hp hd
   show pot h.rules.tries T k (expireGo ids (failsM h (partyOf h.parties id))).parties ≤ _
   have h6 := zac (T := T) (k := k) h4 h5
   rw [(fails_same (h := h) (p := partyOf h.parties id)).1] at h6
   exact Int.le_trans h6 (zb6 hp h1 h3)
theorem zbr {h : House} {j T k : Int} (h0 : nextOffer h j ≠ 0) : pot h.rules.tries T k (offeredM h j).parties + (if j = k ∧ (partyOf h.parties (nextOffer h j)).turn < T then 1 else 0) = pot h.rules.tries T k h.parties := by
 obtain ⟨h1, h2, h3, h4, h5⟩ := next_party h0
 have hp := (hasCab_rep h5).1
 rw [zu, zbQ (q := offeredP h.rules (partyOf h.parties (nextOffer h j)) h.now) hp.ids h1 rfl, zbS (tr := h.rules.tries) (T := T) (k := k) hp.ids h1]
 generalize partyOf h.parties (nextOffer h j) = p at *
 have e1 : (offeredP h.rules p h.now).cabin = p.cabin := rfl
 have e2 : (offeredP h.rules p h.now).turn = p.turn := rfl
 have e3 : (offeredP h.rules p h.now).state = 2 := rfl
 have e4 : (offeredP h.rules p h.now).asked = p.asked := rfl
 unfold wgt
 rw [e1, e2, e3, e4, h3, h4]
 split
 · simp; omega
 · omega
theorem zaA {T k : Int} : ∀ (n : Nat) (h : House) (j : Int), pot h.rules.tries T k (scanGo n h j).1.parties ≤ pot h.rules.tries T k h.parties
 | 0, h, j => Int.le_refl _
 | n + 1, h, j => by
   unfold scanGo
   split
   · exact Int.le_refl _
   · rename_i h0
     have h1 := zbr (T := T) (k := k) h0
     have h2 := zaA (T := T) (k := k) n (offeredM h j) j
     have h3 : (offeredM h j).rules = h.rules := rfl
     rw [h3] at h2
     dsimp only
     split at h1 <;> omega
theorem zbz {h : House} {j T k : Int} (hb : hasCab h j = true) : pot h.rules.tries T k (expireM h j).parties ≤ pot h.rules.tries T k h.parties := by
 obtain ⟨hp, h0, h1⟩ := hasCab_rep hb
 exact zac hp (due_start hp h0)
theorem za9 (h : House) (j : Int) : (expireM h j).rules = h.rules ∧ (expireM h j).now = h.now := ⟨(expireGo_same (dueIds h j) h).1, (expireGo_same (dueIds h j) h).2.1⟩
theorem zch (h : House) (j : Int) {T k : Int} : pot h.rules.tries T k (scan h j).1.parties ≤ pot h.rules.tries T k h.parties := by
 unfold scan
 split
 · rename_i hb
   have h1 := zaA (T := T) (k := k) (waits (expireM h j).parties) (expireM h j) j
   rw [(za9 h j).1] at h1
   exact Int.le_trans h1 (zbz hb)
 · exact Int.le_refl _
theorem zdG {x : House} {k : Int} {p : Party} (hb : hasCab x k = true) (hm : p ∈ x.parties) (hf : fitsB x k p = true) (hl : levelOf x.rules p x.now = 0) (hne : nextOffer x k ≠ p.id) : nextOffer x k ≠ 0 ∧ (partyOf x.parties (nextOffer x k)).turn < p.turn := by
 have hp := (hasCab_rep hb).1
 have h0 := (zcf hb hm hf).1
 refine ⟨h0, ?_⟩
 obtain ⟨g1, g2, g3, g4, g5⟩ := next_party h0
 have hpa := zah h0
 have hnn : ¬ atId x.parties (nextOffer x k) < 0 := by have := z0 g1; rwa [g2] at this
 obtain ⟨q, hq1, hq2⟩ := atId_at hnn
 have hqe : partyOf x.parties (nextOffer x k) = q := partyOf_of hq1
 rw [hqe] at g1 g4 ⊢
 rw [zai hb hnn hq1 g4, zag] at hpa
 have hnb : beforeB x.rules p q x.now = false := by
  cases hbq : beforeB x.rules p q x.now with
  | false => rfl
  | true =>
    have : p.id ∈ (x.parties.filter fun p => fitsB x k p && beforeB x.rules p q x.now).map (·.id) := List.mem_map_of_mem (List.mem_filter.2 ⟨hm, by rw [hf, hbq]; rfl⟩)
    rw [hpa] at this
    exact absurd this List.not_mem_nil
 have l1 := level_rng (hp.good.pok hm); have l2 := level_rng (hp.good.pok g1)
 simp only [beforeB, Bool.and_eq_false_iff, Bool.or_eq_false_iff, decide_eq_false_iff_not, beq_eq_false_iff_ne] at hnb
 have hne2 : q.turn ≠ p.turn := fun he => hne (by rw [← hq2, nodup_one hp.good.turns g1 hm he])
 have hor : ¬ (0 < levelOf x.rules q x.now) ∧ (0 ≠ levelOf x.rules q x.now ∨ ¬ p.turn < q.turn) := by
  rw [hl] at hnb
  rcases hnb with (h | h) | h
  · omega
  · omega
  · exact ⟨h.1, by rcases h.2 with h | h <;> first | exact .inl h | exact .inr h⟩
 rcases hor.2 with h | h <;> omega
theorem zal : ∀ (ls met : List Int), ∃ more, ls.foldl todoPut met = met ++ more
 | [], met => ⟨[], by simp⟩
 | x :: ls, met => by
   obtain ⟨m, hm⟩ := zal ls (todoPut met x)
   rw [List.foldl_cons, hm]
   unfold todoPut
   split
   · exact ⟨m, rfl⟩
   · exact ⟨[x] ++ m, by simp⟩
theorem zG : ∀ (ls met : List Int) (y : Int), y ∈ ls ∨ y ∈ met → y ∈ ls.foldl todoPut met
 | [], met, y, h => by simpa using h
 | x :: ls, met, y, h => by
   rw [List.foldl_cons]
   refine zG ls _ y ?_
   rcases h with h | h
   · rcases List.mem_cons.1 h with h | h
     · exact .inr (zaq (.inl h))
     · exact .inl h
   · exact .inr (zaq (.inr h))
theorem zat {n : Nat} : ∀ (ls met : List Int), Few n met → (∀ x ∈ ls, 0 ≤ x ∧ x < (n : Int)) → Few n (ls.foldl todoPut met)
 | [], met, h, _ => h
 | x :: ls, met, h, hl => by
   rw [List.foldl_cons]
   exact zat ls _ (h.put (hl x (by simp)).1 (hl x (by simp)).2) fun y hy => hl y (by simp [hy])
theorem zF {h : House} : ∀ (m i : Nat) (met : List Int), i + m = h.cabins.length → Few h.cabins.length met → (∀ j c, j < i → met[j]? = some c → ∀ f ∈ zf h c, f ∈ met) →
 (∀ x ∈ met, x ∈ zi h m i met) ∧ (∀ c ∈ zi h m i met, ∀ f ∈ zf h c, f ∈ zi h m i met)
 | 0, i, met, hi, hf, hd => by
   refine ⟨fun x hx => hx, fun c hc f hfm => ?_⟩
   have hc2 : c ∈ met := hc
   obtain ⟨j, hj⟩ := List.mem_iff_getElem?.1 hc2
   have h1 := zw _ _ hf
   have h2 := (List.getElem?_eq_some_iff.1 hj).1
   exact hd j c (by omega) hj f hfm
 | m + 1, i, met, hi, hf, hd => by
   unfold zi
   split
   · rename_i c hc
     have hlr : ∀ x ∈ zf h c, 0 ≤ x ∧ x < (h.cabins.length : Int) := fun x hx => zE h c _ x hx
     obtain ⟨more, hm⟩ := zal (zf h c) met
     have hil := (List.getElem?_eq_some_iff.1 hc).1
     obtain ⟨a1, a2⟩ := zF (h := h) m (i + 1) ((zf h c).foldl todoPut met) (by omega) (zat _ _ hf hlr) (fun j c' hj hc' f hfm => by
      have hc2 : met[j]? = some c' := by
       rw [hm, List.getElem?_append_left (by omega)] at hc'; exact hc'
      by_cases hji : j < i
      · exact zG _ _ _ (.inr (hd j c' hji hc2 f hfm))
      · have : j = i := by omega
        subst this
        rw [hc] at hc2; injection hc2 with hc2; subst hc2
        exact zG _ _ _ (.inl hfm))
     exact ⟨fun x hx => a1 x (zG _ _ _ (.inr hx)), a2⟩
   · rename_i hc
     refine ⟨fun x hx => hx, fun c hcm f hfm => ?_⟩
     obtain ⟨j, hj⟩ := List.mem_iff_getElem?.1 hcm
     have h1 := List.getElem?_eq_none_iff.1 hc
     have h2 := (List.getElem?_eq_some_iff.1 hj).1
     exact hd j c (by omega) hj f hfm
theorem zaJ {h : House} {c : Int} : ∀ (n k : Nat), k < n → zL h c k = true → (k : Int) ∈ zn h c n
 | n + 1, k, hk, hf => by
   unfold zn
   by_cases hkn : k = n
   · subst hkn
     rw [if_pos hf]; simp
   · have := zaJ (h := h) (c := c) n k (by omega) hf
     split
     · exact List.mem_append_left _ this
     · exact this
theorem zO {met : List Int} {x : Int} : ∀ n : Nat, x ∈ zk met n ↔ (0 ≤ x ∧ x < (n : Int)) ∧ x ∈ met
 | 0 => by simp [zk]; omega
 | n + 1 => by
   have ih := zO (met := met) (x := x) n
   unfold zk
   split
   · rename_i hc
     obtain ⟨y, hy, hy2⟩ := List.any_eq_true.1 hc
     have hy3 : y = (n : Int) := by simpa using hy2
     rw [List.mem_append, ih, List.mem_singleton]
     constructor
     · rintro (⟨h1, h2⟩ | h)
       · exact ⟨by omega, h2⟩
       · exact ⟨by omega, by rw [h, ← hy3]; exact hy⟩
     · rintro ⟨h1, h2⟩
       by_cases hx : x = (n : Int)
       · exact .inr hx
       · exact .inl ⟨by omega, h2⟩
   · rename_i hc
     rw [ih]
     constructor
     · rintro ⟨h1, h2⟩; exact ⟨by omega, h2⟩
     · rintro ⟨h1, h2⟩
       refine ⟨?_, h2⟩
       by_cases hx : x = (n : Int)
       · exact absurd (List.any_eq_true.2 ⟨x, h2, by simp [hx]⟩) hc
       · omega
theorem zK {h : House} {cabin : Int} (hb : hasCab h cabin = true) : cabin ∈ ze h cabin := by
 obtain ⟨hp, h0, h1⟩ := hasCab_rep hb
 unfold ze
 rw [if_pos hb, zO]
 have hcl := zF (h := h) h.cabins.length 0 [cabin] (by omega) ⟨by simp, by simp; omega⟩ (fun j c hj _ => by omega)
 exact ⟨⟨h0, h1⟩, hcl.1 _ (by simp)⟩
theorem zaC {h : House} {cabin : Int} (hb : hasCab h cabin = true) {p : Party} (hm : p ∈ h.parties) (hc : p.cabin ∈ ze h cabin) (hf : 0 ≤ p.from') : p.from' ∈ ze h cabin := by
 obtain ⟨hp, h0, h1⟩ := hasCab_rep hb
 have g := (hp.pr hm).frm
 have hcb := hp.cabs
 unfold ze at hc ⊢
 rw [if_pos hb, zO] at hc ⊢
 have hcl := zF (h := h) h.cabins.length 0 [cabin] (by omega) ⟨by simp, by simp; omega⟩ (fun j c hj _ => by omega)
 refine ⟨by omega, hcl.2 _ hc.2 _ ?_⟩
 have h2 := zaJ (h := h) (c := p.cabin) h.cabins.length p.from'.toNat (by omega) (List.any_eq_true.2 ⟨p, hm, by simp; omega⟩)
 rw [show ((p.from'.toNat : Nat) : Int) = p.from' by omega] at h2
 exact h2
def zj (S : Int → Prop) (a b : List Cabin) : Prop := ∀ i : Nat, ¬ S (i : Int) → b[i]? = a[i]?
theorem zj.refl (S : Int → Prop) (a : List Cabin) : zj S a a := fun _ _ => rfl
theorem zj.trans {S : Int → Prop} {a b c : List Cabin} (h : zj S a b) (g : zj S b c) : zj S a c := fun i hi => (g i hi).trans (h i hi)
theorem zj.mod {S : Int → Prop} {a : List Cabin} {k : Int} {f : Cabin → Cabin} (h0 : 0 ≤ k) (hk : S k) : zj S a (modC a k f) := fun i hi => by
 cases hc : a[i]? with
 | none => rw [List.getElem?_eq_none (by rw [modC_len]; exact List.getElem?_eq_none_iff.1 hc)]
 | some c =>
   rw [modC_at h0 hc, if_neg]
   intro he
   rw [he] at hk
   exact hi hk
structure CI (S : Int → Prop) (h : House) : Prop where
 hp : HRep h
 todo : ∀ x ∈ h.todo, S x
 jobs : ∀ j ∈ h.jobs, 0 ≤ j → S j
 off : ∀ p ∈ h.parties, p.state = 2 → dueB p h.now = false → S p.cabin
 frm : ∀ p ∈ h.parties, S p.cabin → 0 ≤ p.from' → S p.from'
theorem zl.frm {S : Int → Prop} {a b : List Party} (h : zl a b) (hf : ∀ p ∈ a, S p.cabin → 0 ≤ p.from' → S p.from') : ∀ p ∈ b, S p.cabin → 0 ≤ p.from' → S p.from' := fun p hm hc h0 => by
 obtain ⟨q, hq, k⟩ := h p hm
 rw [k.cab] at hc
 rw [k.frm] at h0 ⊢
 exact hf q hq hc h0
theorem zaF {S : Int → Prop} {a : List Cabin} {h1 : House} {p : Party} (hc : zj S a h1.cabins) (hf : 0 ≤ p.from' → S p.from') : zj S a (goneM h1 p).cabins := by
 unfold goneM
 dsimp only
 split
 · exact hc
 · exact hc.trans (zj.mod (by omega) (hf (by omega)))
theorem zbn {S : Int → Prop} {h : House} {p : Party} (hp : HRep h) (hm : p ∈ h.parties) (hc : S p.cabin) (hf : 0 ≤ p.from' → S p.from') : zj S h.cabins (failsM h p).cabins := by
 have g := (hp.pr hm).cab
 unfold failsM
 split
 · exact zj.mod g.1 hc
 · exact zaF (zj.mod g.1 hc) hf
theorem zaO {S : Int → Prop} {k : Int} (hk : S k) : ∀ {ids : List Int} {h : House}, HRep h → DueP h.parties ids → (∀ id ∈ ids, (partyOf h.parties id).cabin = k) → (∀ p ∈ h.parties, S p.cabin → 0 ≤ p.from' → S p.from') → zj S h.cabins (expireGo ids h).cabins
 | [], h, hp, _, _, _ => zj.refl _ _
 | id :: ids, h, hp, hd, hc, hf => by
   obtain ⟨h1, h2, h3, h4, h5⟩ := due_step hp hd
   have hck := hc id (by simp)
   show zj S h.cabins (expireGo ids (failsM h (partyOf h.parties id))).cabins
   refine (zbn hp h1 (by rw [hck]; exact hk) (fun h0 => hf _ h1 (by rw [hck]; exact hk) h0)).trans ?_
   have hkn := zaf hp h1
   refine zaO hk h4 h5 (fun id' hid' => ?_) (hkn.frm hf)
   obtain ⟨q, hq, hq2, hq3⟩ := h5.2 id' hid'
   have he : partyOf (failsM h (partyOf h.parties id)).parties id' = q := by rw [← hq2]; exact partyOf_mem h4.ids hq
   obtain ⟨q0, hq0, kq⟩ := hkn q hq
   have he0 : partyOf h.parties id' = q0 := by rw [← hq2, kq.id]; exact partyOf_mem hp.ids hq0
   rw [he, kq.cab, ← he0]
   exact hc id' (by simp [hid'])
theorem zcy {h : House} {k : Int} (hp : HRep h) (h0 : 0 ≤ k) : ∀ id ∈ dueIds h k, (partyOf h.parties id).cabin = k := fun id hid => by
 unfold dueIds at hid
 split at hid
 · rename_i c hc
   have hr := (hp.cab _ c hc).2.1
   have hw := hr.wh
   unfold dueGo at hid
   rw [pinsOf_of hw, pinsSort_foldr] at hid
   have hper := foldr_perm (lt := pinLess) c.wheel.spoke.flatten
   obtain ⟨x, hx, rfl⟩ := List.mem_map.1 hid
   have h2 := hper.mem_iff.1 (List.mem_filter.1 hx).1
   obtain ⟨q, hq, h3, h4, h5⟩ := (hr.pin x).1 h2
   have : x.id = q.id := by rw [h5]
   rw [this, partyOf_mem hp.ids hq]
   omega
 · exact absurd hid List.not_mem_nil
theorem zb9 {S : Int → Prop} {h : House} {k : Int} (hb : hasCab h k = true) (hk : S k) (hf : ∀ p ∈ h.parties, S p.cabin → 0 ≤ p.from' → S p.from') : zj S h.cabins (expireM h k).cabins := by
 obtain ⟨hp, h0, h1⟩ := hasCab_rep hb
 exact zaO hk hp (due_start hp h0) (zcy hp h0) hf
theorem zb5 {S : Int → Prop} {h : House} {k : Int} (h0 : nextOffer h k ≠ 0) (hk : S k) : zj S h.cabins (offeredM h k).cabins := by
 obtain ⟨h1, h2, h3, h4, h5⟩ := next_party h0
 unfold offeredM
 have g := ((hasCab_rep h5).1.pr h1).cab
 exact zj.mod g.1 (by rw [h4]; exact hk)
theorem zbj {S : Int → Prop} {k : Int} (hk : S k) : ∀ (n : Nat) (h : House), zj S h.cabins (scanGo n h k).1.cabins
 | 0, h => zj.refl _ _
 | n + 1, h => by
   unfold scanGo
   split
   · exact zj.refl _ _
   · rename_i h0
     exact (zb5 h0 hk).trans (zbj hk n _)
theorem zcV {S : Int → Prop} {h : House} {k : Int} (hk : S k) (hf : ∀ p ∈ h.parties, S p.cabin → 0 ≤ p.from' → S p.from') : zj S h.cabins (scan h k).1.cabins := by
 unfold scan
 split
 · rename_i hb
   exact (zb9 hb hk hf).trans (zbj hk _ _)
 · exact zj.refl _ _
theorem zaI : ∀ (n : Nat) (x : House) (k : Int), ∀ q ∈ (scanGo n x k).1.parties, q.state = 2 → q ∈ x.parties ∨ q.cabin = k
 | 0, x, k, q, hq, _ => .inl hq
 | n + 1, x, k, q, hq, hs => by
   unfold scanGo at hq
   split at hq
   · exact .inl hq
   · rename_i h0
     obtain ⟨h1, h2, h3, h4, h5⟩ := next_party h0
     rcases zaI n _ k q hq hs with h | h
     · rw [zu] at h
       rcases zbP (q := offeredP x.rules (partyOf x.parties (nextOffer x k)) x.now) (hasCab_rep h5).1.ids h1 rfl h with h | h
       · exact .inr (by rw [h]; exact h4)
       · exact .inl h.1
     · exact .inr h
theorem zcj {h : House} {k : Int} : ∀ q ∈ (scan h k).1.parties, q.state = 2 → q ∈ h.parties ∨ q.cabin = k := fun q hq hs => by
 unfold scan at hq
 split at hq
 · rename_i hb
   obtain ⟨hp, h0, h1⟩ := hasCab_rep hb
   rcases zaI _ _ _ q hq hs with h2 | h2
   · exact .inl (zaB hp (due_start hp h0) q h2 hs).1
   · exact .inr h2
 · exact .inl hq
theorem zb4 (h : House) (k : Int) : (scan h k).1.now = h.now ∧ (scan h k).1.todo = h.todo ∧ (scan h k).1.jobs = h.jobs := by
 unfold scan
 split
 · rename_i hb
   obtain ⟨a1, a2, a3, a4, a5, a6⟩ := scanGo_hp (waits (expireM h k).parties) (expireM h k) k (expire_hp hb).1
   obtain ⟨b1, b2, b3, b4, b5, b6⟩ := expireGo_same (dueIds h k) h
   exact ⟨a4.trans b2, a5.trans b4, a6.trans b5⟩
 · exact ⟨rfl, rfl, rfl⟩
structure ChS (S : Int → Prop) (h h' : House) : Prop where
 ci : CI S h'
 same : zj S h.cabins h'.cabins
 kin : zl h.parties h'.parties
 now : h'.now = h.now
theorem ChS.refl {S : Int → Prop} {h : House} (c : CI S h) : ChS S h h := ⟨c, zj.refl _ _, zl.refl _, rfl⟩
theorem ChS.trans {S : Int → Prop} {a b c : House} (h : ChS S a b) (g : ChS S b c) : ChS S a c := ⟨g.ci, h.same.trans g.same, h.kin.trans g.kin, g.now.trans h.now⟩
theorem zaz {l : List Int} {k : Nat} {v x : Int} (h : x ∈ l.set k v) : x = v ∨ x ∈ l := by
 obtain ⟨i, hi⟩ := List.mem_iff_getElem?.1 h
 rw [List.getElem?_set] at hi
 split at hi
 · split at hi
   · injection hi with hi; exact .inl hi.symm
   · cases hi
 · exact .inr (List.mem_of_getElem? hi)
theorem zcx {S : Int → Prop} {h : House} {who : Int} (c : CI S h) (h0 : 0 ≤ who) (h1 : who < h.rules.crew) (hn : zR h who) : ChS S h (pickM h who).1 := by
 have hp2 : HRep (pickM h who).1 := by
  have := do7 c.hp h0 h1 hn
  rw [← this]; exact do_hp c.hp
 have hjr := job_rng c.hp h0 h1
 unfold pickM at hp2 ⊢
 split
 · rename_i hj
   rw [if_pos hj] at hp2
   have hne : h.todo ≠ [] := fun w => hn ⟨hj, by rw [w]; rfl⟩
   obtain ⟨t, ts, ht⟩ : ∃ t ts, h.todo = t :: ts := by
    cases hh : h.todo with
    | nil => exact absurd hh hne
    | cons t ts => exact ⟨t, ts, rfl⟩
   refine ⟨⟨hp2, fun x hx => c.todo x (by rw [ht] at hx ⊢; exact List.mem_cons_of_mem _ hx), fun j hj2 h0j => ?_, c.off, c.frm⟩, zj.refl _ _, zl.refl _, rfl⟩
   rcases zaz hj2 with h9 | h9
   · rw [h9, ht]; exact c.todo t (by rw [ht]; simp)
   · exact c.jobs j h9 h0j
 · rename_i hj
   rw [if_neg hj] at hp2
   have hk : S (jobAt h who) := c.jobs _ (List.mem_of_getElem? hjr.1) (by omega)
   obtain ⟨s1, s2, s3⟩ := zb4 h (jobAt h who)
   refine ⟨⟨hp2, fun x hx => ?_, fun j hj2 h0j => ?_, fun p hm hs hd => ?_, ?_⟩, zcV hk c.frm, zaK h _, s1⟩
   · exact c.todo x (by rw [← s2]; exact hx)
   · rcases zaz hj2 with h9 | h9
     · omega
     · exact c.jobs j (by rw [← s3]; exact h9) h0j
   · rcases zcj p hm hs with h9 | h9
     · refine c.off p h9 hs ?_
       have : dueB p (scan h (jobAt h who)).1.now = false := hd
       rwa [s1] at this
     · rw [h9]; exact hk
   · exact (zaK h _).frm c.frm
theorem zbB {S : Int → Prop} : ∀ (n : Nat) (i : Int) (h : House), 0 ≤ i → CI S h → ChS S h (drainGo n i h)
 | 0, i, h, _, c => ChS.refl c
 | n + 1, i, h, h0, c => by
   unfold drainGo
   split
   · exact ChS.refl c
   · have hcr := (rr_of c.hp.rules).crew
     have hm := tmod_rng h0 (show 0 < h.rules.crew by omega)
     have hstep : ChS S h (doM h ⟨7, Int.tmod i h.rules.crew, 0, 0, 0, 0⟩) := by
      by_cases hn : zR h (Int.tmod i h.rules.crew)
      · rw [do7 c.hp hm.1 (hm.2.2 (by omega)) hn]
        exact zcx c hm.1 (hm.2.2 (by omega)) hn
      · rw [zbg c.hp hm.1 (hm.2.2 (by omega)) (Decidable.of_not_not hn)]
        exact ChS.refl c
     exact hstep.trans (zbB n (i + 1) _ (by omega) hstep.ci)
theorem zbM {S : Int → Prop} {h : House} (c : CI S h) : ChS S h (drained h) := by
 unfold drained
 rw [if_pos c.hp.eq]
 exact zbB 60 0 h (by omega) c
theorem zb2 {S : Int → Prop} {h : House} {p : Party} (c : CI S h) (hm : p ∈ h.parties) (hs : p.state = 2) (hd : dueB p h.now = false) : ChS S h (acceptM h p) := by
 have hc := c.off p hm hs hd
 have g := c.hp.pr hm
 have g1 := g.cab; have g2 := g.frm
 have hk : zl h.parties (acceptM h p).parties := by rw [zv]; exact zl.cut _ _
 have e1 : (acceptM h p).jobs = h.jobs := by unfold acceptM; split <;> rfl
 have e2 : ∀ x ∈ (acceptM h p).todo, x ∈ h.todo ∨ (0 ≤ p.from' ∧ x = p.from') := fun x hx => by
  unfold acceptM at hx
  split at hx
  · exact .inl hx
  · have hx2 : x ∈ todoPut h.todo p.from' := hx
    unfold todoPut at hx2
    split at hx2
    · exact .inl hx2
    · rcases List.mem_append.1 hx2 with h9 | h9
      · exact .inl h9
      · exact .inr ⟨by omega, by simpa using h9⟩
 refine ⟨⟨accept_hp c.hp hm hs, fun x hx => ?_, fun j hj h0 => c.jobs j (by rw [← e1]; exact hj) h0, fun q hq hqs hqd => ?_, hk.frm c.frm⟩, ?_, hk, zQ h p⟩
 · rcases e2 x hx with h9 | ⟨h8, h9⟩
   · exact c.todo x h9
   · rw [h9]; exact c.frm p hm hc h8
 · rw [zv] at hq
   rw [zQ] at hqd
   exact c.off q ((partyCut_sub _ _).subset hq) hqs hqd
 · have h1 : zj S h.cabins (goneM (soldM h p) p).cabins := zaF (zj.mod g1.1 hc) (fun h0 => c.frm p hm hc h0)
   unfold acceptM
   split
   · exact h1
   · exact h1.trans (zj.mod (by omega) (c.frm p hm hc (by omega)))
theorem zcW {S : Int → Prop} {h : House} {id : Int} (c : CI S h) : ChS S h (doM h ⟨4, id, 0, 0, 0, 0⟩) := by
 by_cases hv : verdict h ⟨4, id, 0, 0, 0, 0⟩ = 0
 · have v := (verdict_ok hv).v
   obtain ⟨gm, gid⟩ := partyOf_in (zce hv (.inr (.inl rfl)))
   simp only [vKind, vAns] at v
   have hs : (partyOf h.parties id).state = 2 ∧ dueB (partyOf h.parties id) h.now = false := by
    constructor
    · by_cases hs : (partyOf h.parties id).state = 2
      · exact hs
      · simp [hs] at v
        split at v <;> omega
    · cases hd : dueB (partyOf h.parties id) h.now with
      | false => rfl
      | true =>
        simp [hd] at v
        split at v
        · omega
        · split at v <;> omega
   have e : doM h ⟨4, id, 0, 0, 0, 0⟩ = acceptM h (partyOf h.parties id) := by
    unfold doM
    rw [if_pos hv]
    rfl
   rw [e]
   exact zb2 c gm hs.1 hs.2
 · rw [zcl hv]
   exact ChS.refl c
theorem zbl {S : Int → Prop} {now : Int} : ∀ (ps : List Party) (x : House), CI S x → ChS S x (zo now ps x)
 | [], x, c => ChS.refl c
 | p :: ps, x, c => by
   have h1 : ChS S x (zm now x p) := by
    unfold zm
    split
    · exact zcW c
    · exact ChS.refl c
   exact h1.trans (zbl ps _ h1.ci)
theorem zbV {S : Int → Prop} {h : House} (c : CI S h) : ChS S h (zd h).1 ∧ ∀ id ∈ (zd h).2, ∃ p ∈ h.parties, p.id = id ∧ S p.cabin := by
 have hac : zd h = (zo h.now h.parties h, zg h.now h.parties) := if_pos c.hp.eq
 rw [hac]
 refine ⟨zbl _ _ c, fun id hid => ?_⟩
 unfold zg at hid
 obtain ⟨p, hp, rfl⟩ := List.mem_map.1 hid
 obtain ⟨h1, h2⟩ := List.mem_filter.1 hp
 simp only [Bool.and_eq_true, beq_iff_eq, Bool.not_eq_true'] at h2
 exact ⟨p, h1, rfl, c.off p h1 h2.1 h2.2⟩
theorem zaY {S : Int → Prop} {h0 : House} : ∀ (n : Nat) (h : House) (l : List Int), CI S h → zl h0.parties h.parties → (∀ id ∈ l, ∃ p ∈ h0.parties, p.id = id ∧ S p.cabin) →
 ChS S h (za n h l).1 ∧ ∀ id ∈ (za n h l).2, ∃ p ∈ h0.parties, p.id = id ∧ S p.cabin
 | 0, h, l, c, _, hl => ⟨ChS.refl c, hl⟩
 | n + 1, h, l, c, hk, hl => by
   have h1 := zbM c
   obtain ⟨h2, h3⟩ := zbV h1.ci
   have h4 := h1.trans h2
   unfold za
   split
   · exact ⟨h4, hl⟩
   · obtain ⟨a1, a2⟩ := zaY (h0 := h0) n (zd (drained h)).1 (l ++ (zd (drained h)).2) h4.ci (hk.trans h4.kin) (fun id hid => by
      rcases List.mem_append.1 hid with h9 | h9
      · exact hl id h9
      · obtain ⟨p, hp, e1, e2⟩ := h3 id h9
        obtain ⟨q, hq, kq⟩ := (hk.trans h1.kin) p hp
        exact ⟨q, hq, by rw [← kq.id]; exact e1, by rw [← kq.cab]; exact e2⟩)
     exact ⟨h4.trans a1, a2⟩
def za7 (h : House) (i : Nat) : Int := match h.cabins[i]? with
 | some c => c.seats.sold
 | none => 0
theorem za1 {h : House} {i : Nat} {c : Cabin} (hc : h.cabins[i]? = some c) : za7 h i = c.seats.sold := by simp [za7, hc]
def zt (a b : List Cabin) : Prop := ∀ (i : Nat) (c : Cabin), a[i]? = some c → ∃ c', b[i]? = some c' ∧ c'.seats.sold = c.seats.sold
theorem zt.refl (a : List Cabin) : zt a a := fun i c h => ⟨c, h, rfl⟩
theorem zt.trans {a b c : List Cabin} (h : zt a b) (g : zt b c) : zt a c := fun i x hx => by
 obtain ⟨y, hy, e1⟩ := h i x hx
 obtain ⟨z, hz, e2⟩ := g i y hy
 exact ⟨z, hz, e2.trans e1⟩
theorem zt.mod {a : List Cabin} {k : Int} {f : Cabin → Cabin} (h0 : 0 ≤ k) (hf : ∀ c, a[k.toNat]? = some c → (f c).seats.sold = c.seats.sold) : zt a (modC a k f) := fun i c hc => by
 refine ⟨_, modC_at h0 hc, ?_⟩
 split
 · rename_i he
   exact hf c (by rw [he]; simpa using hc)
 · rfl
theorem zt.at {a b : House} (h : zt a.cabins b.cabins) {i : Nat} (hi : i < a.cabins.length) : za7 b i = za7 a i := by
 obtain ⟨c', h1, h2⟩ := h i _ (List.getElem?_eq_getElem hi)
 rw [za1 h1, za1 (List.getElem?_eq_getElem hi), h2]
def zdV (k now : Int) (p : Party) : Int := if p.cabin = k ∧ dueB p now = true then p.size else 0
def zcU (h : House) (k : Int) : Int := (h.parties.map (zdV k h.now)).sum
def zcT (h : House) (k : Int) : Int := freeAt h k + zcU h k
theorem zbO {l : List Party} {p q : Party} (hd : (l.map (·.id)).Nodup) (hm : p ∈ l) (he : q.id = p.id) : (partyPut l q).length = l.length := by
 have h1 := (partyPut_perm hd hm he).length_eq
 have h2 := (partyCut_perm hd hm).length_eq
 simp only [List.length_cons] at h1 h2; omega
theorem zb0 {h : House} {p : Party} (hp : HRep h) (hm : p ∈ h.parties) : (failsM h p).parties.length ≤ h.parties.length := by
 rw [fails_parties]
 split
 · rw [zbO (q := failedP h.rules p h.now) hp.ids hm rfl]; exact Nat.le_refl _
 · exact zbb _ _
theorem zad : ∀ {ids : List Int} {h : House}, HRep h → DueP h.parties ids → (expireGo ids h).parties.length ≤ h.parties.length
 | [], h, hp, _ => Nat.le_refl _
 | id :: ids, h, hp, hd => by
   obtain ⟨h1, _, _, h4, h5⟩ := due_step hp hd
   show (expireGo ids (failsM h (partyOf h.parties id))).parties.length ≤ _
   exact Nat.le_trans (zad h4 h5) (zb0 hp h1)
theorem zar : ∀ (n : Nat) (x : House) (k : Int), (scanGo n x k).1.parties.length ≤ x.parties.length
 | 0, x, k => Nat.le_refl _
 | n + 1, x, k => by
   unfold scanGo
   split
   · exact Nat.le_refl _
   · rename_i h0
     obtain ⟨h1, h2, h3, h4, h5⟩ := next_party h0
     refine Nat.le_trans (zar n _ k) ?_
     rw [zu, zbO (q := offeredP x.rules (partyOf x.parties (nextOffer x k)) x.now) (hasCab_rep h5).1.ids h1 rfl]
     exact Nat.le_refl _
theorem zbZ (h : House) (k : Int) : (scan h k).1.parties.length ≤ h.parties.length := by
 unfold scan
 split
 · rename_i hb
   obtain ⟨hp, h0, h1⟩ := hasCab_rep hb
   exact Nat.le_trans (zar _ _ _) (zad hp (due_start hp h0))
 · exact Nat.le_refl _
theorem zcc (h : House) (w : Int) : (pickM h w).1.parties.length ≤ h.parties.length := by
 rw [zI]
 split
 · exact Nat.le_refl _
 · exact zbZ _ _
theorem zcB {h : House} {w : Int} : (doM h ⟨7, w, 0, 0, 0, 0⟩).parties.length ≤ h.parties.length := by
 unfold doM
 split
 · exact zcc h w
 · exact Nat.le_refl _
theorem zas : ∀ (n : Nat) (i : Int) (h : House), (drainGo n i h).parties.length ≤ h.parties.length
 | 0, i, h => Nat.le_refl _
 | n + 1, i, h => by
   unfold drainGo
   split
   · exact Nat.le_refl _
   · exact Nat.le_trans (zas n _ _) zcB
theorem zbw (h : House) : (drained h).parties.length ≤ h.parties.length := by
 unfold drained
 split
 · exact zas _ _ _
 · exact Nat.le_refl _
theorem zU : ∀ (n : Nat) (h : House) (l : List Int), HRep h → (za n h l).1.parties.length + (za n h l).2.length ≤ h.parties.length + l.length
 | 0, h, l, hp => Nat.le_refl _
 | n + 1, h, l, hp => by
   have h1 := zbw h
   obtain ⟨g1, g2, g3⟩ := zbH (zp hp)
   unfold za
   split
   · dsimp only; omega
   · have := zU n (zd (drained h)).1 (l ++ (zd (drained h)).2) g1
     rw [List.length_append] at this
     omega
def zbF (x : House) : Prop := (idleB x = true ∧ (zd x).2 = []) ∨ x.parties = []
theorem za5 {h : House} (hp : HRep h) : HRep (za 20 (za 20 h []).1 []).1 ∧ zbF (za 20 (za 20 h []).1 []).1 := by
 have hp1 : HRep (za 20 h []).1 := zx hp
 have hp2 : HRep (za 20 (za 20 h []).1 []).1 := zx hp1
 refine ⟨hp2, ?_⟩
 have l1 := zU 20 h [] hp
 have l2 := zU 20 (za 20 h []).1 [] hp1
 have hl := hp.len
 by_cases c1 : (za 20 h []).2.length < 20
 · obtain ⟨_, a2, a3⟩ := zT 20 h [] hp (by simpa using c1)
   have e := zbi (n := 19) a2 a3
   rw [show (19 + 1 : Nat) = 20 from rfl] at e
   rw [e]
   exact .inl ⟨a2, a3⟩
 · by_cases c2 : (za 20 (za 20 h []).1 []).2.length < 20
   · obtain ⟨_, a2, a3⟩ := zT 20 (za 20 h []).1 [] hp1 (by simpa using c2)
     exact .inl ⟨a2, a3⟩
   · refine .inr (List.eq_nil_of_length_eq_zero ?_)
     simp only [List.length_nil] at l1 l2
     omega
theorem zco {h : House} {k : Int} (hn : h.parties = []) : nextOffer h k = 0 := by
 by_cases h0 : nextOffer h k = 0
 · exact h0
 · have := (next_party h0).1
   rw [hn] at this
   exact absurd this List.not_mem_nil
theorem zbU {h : House} {k : Int} (hn : h.parties = []) : (scan h k).1 = h := by
 unfold scan
 split
 · rename_i hb
   obtain ⟨hp, h0, h1⟩ := hasCab_rep hb
   have hd := (due_start hp h0).2
   have he : dueIds h k = [] := by
    cases hh : dueIds h k with
    | nil => rfl
    | cons id ids =>
      obtain ⟨p, hp, _⟩ := hd id (by rw [hh]; simp)
      rw [hn] at hp
      exact absurd hp List.not_mem_nil
   have e2 : expireM h k = h := by unfold expireM; rw [he]; rfl
   rw [e2, scanM_end (zco hn)]
 · rfl
theorem zcp {h : House} {w : Int} (hn : h.parties = []) : (doM h ⟨7, w, 0, 0, 0, 0⟩).cabins = h.cabins ∧ (doM h ⟨7, w, 0, 0, 0, 0⟩).parties = [] := by
 unfold doM
 split
 · show (pickM h w).1.cabins = h.cabins ∧ (pickM h w).1.parties = []
   unfold pickM
   split
   · exact ⟨rfl, hn⟩
   · refine ⟨?_, ?_⟩
     · show (scan h (jobAt h w)).1.cabins = _
       rw [zbU hn]
     · show (scan h (jobAt h w)).1.parties = _
       rw [zbU hn, hn]
 · exact ⟨rfl, hn⟩
theorem zbA : ∀ (n : Nat) (i : Int) (h : House), h.parties = [] → (drainGo n i h).cabins = h.cabins ∧ (drainGo n i h).parties = []
 | 0, i, h, hn => ⟨rfl, hn⟩
 | n + 1, i, h, hn => by
   unfold drainGo
   split
   · exact ⟨rfl, hn⟩
   · obtain ⟨a1, a2⟩ := zcp (w := Int.tmod i h.rules.crew) hn
     obtain ⟨b1, b2⟩ := zbA n (i + 1) _ a2
     exact ⟨b1.trans a1, b2⟩
theorem zaX {h : House} {n : Nat} (hn : h.parties = []) : (za (n + 1) h []).1.cabins = h.cabins ∧ (za (n + 1) h []).2 = [] := by
 have h1 : (drained h).cabins = h.cabins ∧ (drained h).parties = [] := by
  unfold drained
  split
  · exact zbA _ _ _ hn
  · exact ⟨rfl, hn⟩
 have h2 : (zd (drained h)).2 = [] := by
  unfold zd
  split
  · unfold zg; rw [h1.2]; rfl
  · rfl
 unfold za
 rw [if_pos h2]
 exact ⟨by show (zd (drained h)).1.cabins = _; rw [zN h2, h1.1], rfl⟩
theorem do3 {x : House} {cabin n : Int} (hp : HRep x) : doM x ⟨3, 0, cabin, 0, n, 0⟩ = x ∨ (0 ≤ cabin ∧ doM x ⟨3, 0, cabin, 0, n, 0⟩ = freeM x cabin n) := by
 by_cases hv : verdict x ⟨3, 0, cabin, 0, n, 0⟩ = 0
 · refine .inr ⟨(reqOk_form (verdict_ok hv).ok).2.2.1.1, ?_⟩
   unfold doM
   rw [if_pos hv]
   rfl
 · exact .inl (zcl hv)
theorem zZ {x : House} {cabin n : Int} (hp : HRep x) (hq : zbF x) (hb : hasCab x cabin = true) :
 (∀ id ∈ (za 20 (doM x ⟨3, 0, cabin, 0, n, 0⟩) []).2, ∃ p ∈ x.parties, p.id = id ∧ p.cabin ∈ ze x cabin) ∧
 (∀ i : Nat, ¬ (i : Int) ∈ ze x cabin → (za 20 (doM x ⟨3, 0, cabin, 0, n, 0⟩) []).1.cabins[i]? = x.cabins[i]?) ∧ HRep (za 20 (doM x ⟨3, 0, cabin, 0, n, 0⟩) []).1 := by
 have hp0 : HRep (doM x ⟨3, 0, cabin, 0, n, 0⟩) := do_hp hp
 have hself := zK hb
 have hO : zj (fun c => c ∈ ze x cabin) x.cabins (doM x ⟨3, 0, cabin, 0, n, 0⟩).cabins := by
  rcases do3 (cabin := cabin) (n := n) hp with e | ⟨h0, e⟩
  · rw [e]; exact zj.refl _ _
  · rw [e]; exact zj.mod h0 hself
 have hpar : (doM x ⟨3, 0, cabin, 0, n, 0⟩).parties = x.parties ∧ (doM x ⟨3, 0, cabin, 0, n, 0⟩).now = x.now ∧ (doM x ⟨3, 0, cabin, 0, n, 0⟩).jobs = x.jobs ∧ ∀ y ∈ (doM x ⟨3, 0, cabin, 0, n, 0⟩).todo, y = cabin ∨ y ∈ x.todo := by
  rcases do3 (cabin := cabin) (n := n) hp with e | ⟨h0, e⟩
  · rw [e]; exact ⟨rfl, rfl, rfl, fun y hy => .inr hy⟩
  · rw [e]
    refine ⟨rfl, rfl, rfl, fun y hy => ?_⟩
    have hy2 : y ∈ todoPut x.todo cabin := hy
    unfold todoPut at hy2
    split at hy2
    · exact .inr hy2
    · rcases List.mem_append.1 hy2 with h9 | h9
      · exact .inr h9
      · exact .inl (by simpa using h9)
 refine ⟨?_, ?_, zx hp0⟩
 all_goals rcases hq with ⟨q1, q2⟩ | q1
 all_goals try (
  have hidle : (∀ j ∈ x.jobs, j < 0) ∧ x.todo = [] := by
   simp only [idleB, Bool.and_eq_true, List.all_eq_true, decide_eq_true_eq] at q1
   exact ⟨q1.1, List.eq_nil_of_length_eq_zero q1.2⟩
  have hci : CI (fun c => c ∈ ze x cabin) (doM x ⟨3, 0, cabin, 0, n, 0⟩) := by
   obtain ⟨p1, p2, p3, p4⟩ := hpar
   refine ⟨hp0, fun y hy => ?_, fun j hj h0 => ?_, fun p hm hs hd => ?_, fun p hm hc h0 => ?_⟩
   · rcases p4 y hy with h9 | h9
     · rw [h9]; exact hself
     · rw [hidle.2] at h9; exact absurd h9 List.not_mem_nil
   · rw [p3] at hj; have := hidle.1 j hj; omega
   · rw [p1] at hm
     rw [p2] at hd
     have hac : (zd x).2 = zg x.now x.parties := by unfold zd; rw [if_pos hp.eq]
     rw [hac] at q2
     have h9 : p.id ∈ zg x.now x.parties := List.mem_map_of_mem (List.mem_filter.2 ⟨hm, by simp [hs, hd]⟩)
     rw [q2] at h9
     exact absurd h9 List.not_mem_nil
   · rw [p1] at hm
     exact zaC hb hm hc h0
  have hcs := zaY (h0 := x) 20 _ [] hci (by rw [hpar.1]; exact zl.refl _) (fun id h9 => absurd h9 List.not_mem_nil))
 · exact hcs.2
 · rw [(zaX (n := 19) (h := doM x ⟨3, 0, cabin, 0, n, 0⟩) (by rw [hpar.1]; exact q1)).2]
   exact fun id h9 => absurd h9 List.not_mem_nil
 · exact (hO.trans hcs.1.same)
 · intro i hi
   rw [(zaX (n := 19) (h := doM x ⟨3, 0, cabin, 0, n, 0⟩) (by rw [hpar.1]; exact q1)).1]
   exact hO i hi
structure ChI (r : Rules) (now P0 : Int) (p : Party) (z : House) : Prop where
 hp : HRep z
 er : z.rules = r
 ew : z.now = now
 le : pot r.tries p.turn p.cabin z.parties ≤ P0
 or : (p ∈ z.parties ∧ p.state = 1 ∧ restingB p now = false ∧ p.size ≤ zcT z p.cabin ∧ (p.cabin ∈ z.todo ∨ p.cabin ∈ z.jobs)) ∨ atId z.parties p.id < 0 ∨ (∃ p' ∈ z.parties, p'.id = p.id ∧ p'.state = 2 ∧ dueB p' now = false) ∨ (levelOf r p now = 0 → pot r.tries p.turn p.cabin z.parties + 1 ≤ P0)
theorem zay {T k : Int} : ∀ (n : Nat) (i : Int) (z : House), 0 ≤ i → HRep z → zl z.parties (drainGo n i z).parties ∧ (drainGo n i z).now = z.now ∧ (drainGo n i z).rules = z.rules ∧ pot z.rules.tries T k (drainGo n i z).parties ≤ pot z.rules.tries T k z.parties
 | 0, i, z, _, hp => ⟨zl.refl _, rfl, rfl, Int.le_refl _⟩
 | n + 1, i, z, h0, hp => by
   unfold drainGo
   split
   · exact ⟨zl.refl _, rfl, rfl, Int.le_refl _⟩
   · have hcr := (rr_of hp.rules).crew
     have hm := tmod_rng h0 (show 0 < z.rules.crew by omega)
     obtain ⟨a1, a2, a3, a4⟩ := zay (T := T) (k := k) n (i + 1) (doM z ⟨7, Int.tmod i z.rules.crew, 0, 0, 0, 0⟩) (by omega) (do_hp hp)
     have hk : zl z.parties (doM z ⟨7, Int.tmod i z.rules.crew, 0, 0, 0, 0⟩).parties := zcQ hp (.inl (by show (7 : Int) ≠ 1; decide))
     have hw : (doM z ⟨7, Int.tmod i z.rules.crew, 0, 0, 0, 0⟩).now = z.now := by
      by_cases hn : zR z (Int.tmod i z.rules.crew)
      · rw [do7 hp hm.1 (hm.2.2 (by omega)) hn]
        exact (zaW hp hm.1 (hm.2.2 (by omega))).2
      · rw [zbg hp hm.1 (hm.2.2 (by omega)) (Decidable.of_not_not hn)]
     have hq : pot z.rules.tries T k (doM z ⟨7, Int.tmod i z.rules.crew, 0, 0, 0, 0⟩).parties ≤ pot z.rules.tries T k z.parties := by
      by_cases hn : zR z (Int.tmod i z.rules.crew)
      · rw [do7 hp hm.1 (hm.2.2 (by omega)) hn, zI]
        split
        · exact Int.le_refl _
        · exact zch z _
      · rw [zbg hp hm.1 (hm.2.2 (by omega)) (Decidable.of_not_not hn)]
        exact Int.le_refl _
     rw [zax] at a3 a4
     exact ⟨hk.trans a1, a2.trans hw, a3, Int.le_trans a4 hq⟩
theorem zbh {z : House} {T k : Int} (hp : HRep z) : zl z.parties (drained z).parties ∧ (drained z).now = z.now ∧ (drained z).rules = z.rules ∧ pot z.rules.tries T k (drained z).parties ≤ pot z.rules.tries T k z.parties := by
 unfold drained
 rw [if_pos hp.eq]
 exact zay 60 0 z (by omega) hp
end SX
end Go.Proofs.YtejojcoaohlfbaaGreat
