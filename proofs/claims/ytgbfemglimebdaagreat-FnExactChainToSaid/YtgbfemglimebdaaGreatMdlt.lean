/- Chains of upgrades, in plain Lean. It imports no program. -/
import Derived.Test.YtgbfemglimebdaaGreatMdlp
namespace Go.Proofs.YtgbfemglimebdaaGreat
namespace SX
set_option linter.unusedVariables false
set_option linter.unusedSimpArgs false
open Go Go.RowKit
def todoPut (l : List Int) (x : Int) : List Int := if l.any (fun e => e == x) then l else l ++ [x]
theorem any_swap (l : List Int) (x : Int) : l.any (fun e => x == e) = l.any (fun e => e == x) := by
  congr 1; funext e; rw [Bool.eq_iff_iff, beq_iff_eq, beq_iff_eq]; exact eq_comm
theorem todoPut_t {l : List Int} {x : Int} (h : l.any (fun e => e == x) = true) : todoPut l x = l := by simp only [todoPut, h, if_true]
theorem todoPut_f {l : List Int} {x : Int} (h : l.any (fun e => e == x) = false) : todoPut l x = l ++ [x] := by simp only [todoPut, h, Bool.false_eq_true, if_false]
theorem todoPut_len (l : List Int) (x : Int) : (todoPut l x).length ≤ l.length + 1 := by unfold todoPut; split <;> simp
/-- distinct numbers below n -/
def Few (n : Nat) (l : List Int) : Prop := l.Nodup ∧ ∀ x ∈ l, 0 ≤ x ∧ x < (n : Int)
theorem nodup_bound : ∀ (n : Nat) (l : List Int), Few n l → l.length ≤ n
  | 0, l, ⟨_, h⟩ => by
    cases l with
    | nil => simp
    | cons x l => have := h x (by simp); omega
  | n + 1, l, ⟨h1, h2⟩ => by
    have hf : Few n (l.filter fun x => x != (n : Int)) := ⟨h1.filter _, fun x hx => by
      have := List.mem_filter.1 hx
      have h3 := h2 x this.1
      have h4 : x ≠ (n : Int) := by simpa using this.2
      omega⟩
    have ih := nodup_bound n _ hf
    have hsp : l.length ≤ (l.filter fun x => x != (n : Int)).length + 1 := by
      clear ih hf h2
      induction l with
      | nil => simp
      | cons x l ih =>
        have h5 := List.nodup_cons.1 h1
        by_cases hx : x = (n : Int)
        · have hall : (l.filter fun x => x != (n : Int)) = l := List.filter_eq_self.2 fun y hy => by
            have : y ≠ (n : Int) := fun h => h5.1 (by rw [hx, ← h]; exact hy)
            simpa using this
          simp only [List.filter_cons, hx, bne_self_eq_false, Bool.false_eq_true, if_false, hall, List.length_cons]
          omega
        · have hb : (x != (n : Int)) = true := by simpa using hx
          simp only [List.filter_cons, hb, if_true, List.length_cons]
          have := ih h5.2
          omega
    omega
theorem Few.put {n : Nat} {l : List Int} {x : Int} (h : Few n l) (h0 : 0 ≤ x) (h1 : x < (n : Int)) : Few n (todoPut l x) := by
  unfold todoPut
  split
  · exact h
  · rename_i hx
    have hx' : x ∉ l := fun hm => hx (by rw [List.any_eq_true]; exact ⟨x, hm, by simp⟩)
    refine ⟨List.nodup_append.2 ⟨h.1, by simp, fun a ha b hb e => ?_⟩, fun y hy => ?_⟩
    · simp at hb; subst hb; subst e; exact hx' ha
    · rcases List.mem_append.1 hy with hy | hy
      · exact h.2 y hy
      · simp at hy; subst hy; exact ⟨h0, h1⟩
theorem linkGo_mem (h : House) (cabin : Int) : ∀ (n : Nat) (x : Int), x ∈ linkGo h cabin n → 0 ≤ x ∧ x < (n : Int)
  | 0, x, hx => by simp [linkGo] at hx
  | n + 1, x, hx => by
    unfold linkGo at hx
    split at hx
    · rcases List.mem_append.1 hx with hx | hx
      · have := linkGo_mem h cabin n x hx; omega
      · simp at hx; subst hx; omega
    · have := linkGo_mem h cabin n x hx; omega
def chainGo (h : House) : Nat → Nat → List Int → List Int
  | 0, _, met => met
  | m + 1, i, met => match met[i]? with
    | some c => chainGo h m (i + 1) ((linkedOf h c).foldl todoPut met)
    | none => met
theorem chainGo_step {h : House} {n i : Nat} {met : List Int} {c : Int} (hi : i < n) (hc : met[i]? = some c) : chainGo h (n - i) i met = chainGo h (n - (i + 1)) (i + 1) ((linkedOf h c).foldl todoPut met) := by
  rw [show n - i = (n - (i + 1)) + 1 by omega]
  simp only [chainGo, hc]
theorem chainGo_end {h : House} {n i : Nat} {met : List Int} (hi : met.length ≤ i) : chainGo h (n - i) i met = met := by
  cases hm : n - i with
  | zero => rfl
  | succ m => simp only [chainGo, List.getElem?_eq_none hi]
/-- those of the first numbers that stand in the list, in their order -/
def pickGo (met : List Int) : Nat → List Int
  | 0 => []
  | n + 1 => if met.any (fun e => e == (n : Int)) then pickGo met n ++ [(n : Int)] else pickGo met n
theorem pickGo_len (met : List Int) : ∀ n, (pickGo met n).length ≤ n
  | 0 => by simp [pickGo]
  | n + 1 => by
    have := pickGo_len met n
    unfold pickGo
    split
    · simp only [List.length_append, List.length_cons, List.length_nil]; omega
    · omega
noncomputable def chained (h : House) (cabin : Int) : List Int := if hasCab h cabin then pickGo (chainGo h h.cabins.length 0 [cabin]) h.cabins.length else []
theorem chained_len (h : House) (cabin : Int) (hs : HouseSz h) : (chained h cabin).length ≤ 1048576 := by
  unfold chained
  split
  · exact Nat.le_trans (pickGo_len _ _) hs.2.2.1
  · simp
theorem hasCab_n {h : House} {cabin : Int} (hb : hasCab h cabin = true) : h.cabins.length ≤ 4 := by
  simp only [hasCab, Bool.and_eq_true] at hb
  obtain ⟨h1, _, _, _, h5, _⟩ := houseP_of hb.1
  simp [rulesOk, inB] at h1
  omega
theorem linked_of {h : House} {cabin x : Int} (hb : hasCab h cabin = true) (hx : 0 ≤ x ∧ x < (h.cabins.length : Int)) : linked h x = linkedOf h x := by
  have h4 := hasCab_n hb
  have : hasCab h x = true := by
    simp only [hasCab, Bool.and_eq_true] at hb ⊢
    refine ⟨hb.1, ?_⟩
    simp only [inB, Bool.and_eq_true, decide_eq_true_eq]
    rw [wr_of (by omega) (by omega)]
    omega
  rw [linked, if_pos this]
theorem linked_mem {h : House} {cabin c x : Int} (hb : hasCab h cabin = true) (hx : x ∈ linked h c) : 0 ≤ x ∧ x < (h.cabins.length : Int) := by
  unfold linked at hx
  split at hx
  · exact linkGo_mem h c _ x hx
  · cases hx
/-! ### Sorted numbers -/
def ltI (a b : Int) : Bool := decide (a < b)
theorem intOrd : Ord ltI := ⟨fun a b h => by simp only [ltI, decide_eq_true_eq, decide_eq_false_iff_not] at h ⊢; omega, fun a b c h => by simp only [ltI, decide_eq_true_eq] at h ⊢; omega⟩
abbrev Inc (l : List Int) : Prop := l.Pairwise fun a b => a < b
theorem inc_eq : ∀ {a b : List Int}, Inc a → Inc b → (∀ x, x ∈ a ↔ x ∈ b) → a = b
  | [], [], _, _, _ => rfl
  | [], y :: b, _, _, h => by have := (h y).2 (by simp); cases this
  | x :: a, [], _, _, h => by have := (h x).1 (by simp); cases this
  | x :: a, y :: b, ha, hb, h => by
    have ha := List.pairwise_cons.1 ha
    have hb := List.pairwise_cons.1 hb
    have hxy : x = y := by
      rcases List.mem_cons.1 ((h x).1 (by simp)) with e | hx
      · exact e
      · rcases List.mem_cons.1 ((h y).2 (by simp)) with e | hy
        · exact e.symm
        · have := hb.1 x hx; have := ha.1 y hy; omega
    subst hxy
    rw [inc_eq ha.2 hb.2 fun z => ⟨fun hz => ?_, fun hz => ?_⟩]
    · rcases List.mem_cons.1 ((h z).1 (by simp [hz])) with e | hz'
      · subst e; have := ha.1 z hz; omega
      · exact hz'
    · rcases List.mem_cons.1 ((h z).2 (by simp [hz])) with e | hz'
      · subst e; have := hb.1 z hz; omega
      · exact hz'
theorem insL_mem {l : List Int} {e x : Int} : x ∈ insL ltI l e ↔ x = e ∨ x ∈ l := by
  induction l with
  | nil => simp [insL]
  | cons y l ih =>
    unfold insL
    split
    · simp only [List.mem_cons, ih]
      constructor
      · rintro (h | h | h) <;> simp [h]
      · rintro (h | h | h) <;> simp [h]
    · simp only [List.mem_cons]
theorem insL_inc {l : List Int} {e : Int} (h : Inc l) (he : e ∉ l) : Inc (insL ltI l e) := by
  induction l with
  | nil => simp [insL, Inc]
  | cons y l ih =>
    have h1 := List.pairwise_cons.1 h
    have hne : e ≠ y := fun hh => he (by simp [hh])
    unfold insL
    split
    · rename_i hlt
      simp only [ltI, decide_eq_true_eq] at hlt
      refine List.pairwise_cons.2 ⟨fun b hb => ?_, ih h1.2 fun hm => he (by simp [hm])⟩
      rcases insL_mem.1 hb with rfl | hb
      · exact hlt
      · exact h1.1 b hb
    · rename_i hlt
      simp only [ltI, decide_eq_true_eq] at hlt
      refine List.pairwise_cons.2 ⟨fun b hb => ?_, h⟩
      rcases List.mem_cons.1 hb with rfl | hb
      · omega
      · have := h1.1 b hb; omega
theorem sorted_mem : ∀ (l : List Int) (x : Int), x ∈ l.foldr (fun e l => insL ltI l e) [] ↔ x ∈ l
  | [], x => by simp
  | y :: l, x => by rw [List.foldr_cons, insL_mem, sorted_mem l x, List.mem_cons]
theorem sorted_inc : ∀ {l : List Int}, l.Nodup → Inc (l.foldr (fun e l => insL ltI l e) [])
  | [], _ => by simp [Inc]
  | y :: l, h => by
    have h1 := List.nodup_cons.1 h
    rw [List.foldr_cons]
    exact insL_inc (sorted_inc h1.2) fun hm => h1.1 ((sorted_mem l y).1 hm)
theorem pickGo_mem (met : List Int) : ∀ (n : Nat) (x : Int), x ∈ pickGo met n ↔ x ∈ met ∧ 0 ≤ x ∧ x < (n : Int)
  | 0, x => by simp only [pickGo, List.not_mem_nil, false_iff]; rintro ⟨_, h1, h2⟩; omega
  | n + 1, x => by
    unfold pickGo
    have ih := pickGo_mem met n x
    by_cases hn : met.any (fun e => e == (n : Int)) = true
    · have hm : (n : Int) ∈ met := by
        obtain ⟨y, hy, he⟩ := List.any_eq_true.1 hn
        have : y = (n : Int) := by simpa using he
        rw [← this]; exact hy
      simp only [hn, if_true, List.mem_append, ih, List.mem_singleton]
      constructor
      · rintro (⟨h1, h2, h3⟩ | rfl)
        · exact ⟨h1, h2, by omega⟩
        · exact ⟨hm, by omega, by omega⟩
      · rintro ⟨h1, h2, h3⟩
        by_cases hx : x = (n : Int)
        · exact .inr hx
        · exact .inl ⟨h1, h2, by omega⟩
    · simp only [hn, Bool.false_eq_true, if_false, ih]
      constructor
      · rintro ⟨h1, h2, h3⟩; exact ⟨h1, h2, by omega⟩
      · rintro ⟨h1, h2, h3⟩
        refine ⟨h1, h2, ?_⟩
        have : x ≠ (n : Int) := fun hx => hn (List.any_eq_true.2 ⟨x, h1, by simp [hx]⟩)
        omega
theorem pickGo_inc (met : List Int) : ∀ n : Nat, Inc (pickGo met n)
  | 0 => by simp [pickGo, Inc]
  | n + 1 => by
    unfold pickGo
    split
    · refine List.pairwise_append.2 ⟨pickGo_inc met n, by simp, fun a ha b hb => ?_⟩
      simp at hb; subst hb
      exact ((pickGo_mem met n a).1 ha).2.2
    · exact pickGo_inc met n
theorem sorted_pick {n : Nat} {met : List Int} (h : Few n met) : sortGo ltI (met.length - 1) 1 met = pickGo met n := by
  rw [sortGo_eq intOrd]
  refine inc_eq (sorted_inc h.1) (pickGo_inc met n) fun x => ?_
  rw [sorted_mem, pickGo_mem]
  exact ⟨fun hx => ⟨hx, h.2 x hx⟩, fun hx => hx.1⟩
end SX
end Go.Proofs.YtgbfemglimebdaaGreat
