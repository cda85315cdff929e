/- Boards: the waiting parties of a cabin as a line; in plain Lean. It imports no program. -/
import Derived.Test.YtgbfemglimebdaaGreatDoorMdlp
import Derived.Test.YtgbfemglimebdaaGreatDoorMdl5
import Derived.Test.YtgbfemglimebdaaGreatDoorSxt
namespace Go.Proofs.YtgbfemglimebdaaGreatDoor
namespace SX
set_option linter.unusedVariables false
set_option linter.unusedSimpArgs false
open Go Go.RowKit
theorem insL_memG {α : Type} {lt : α → α → Bool} {l : List α} {e x : α} (h : x ∈ insL lt l e) : x = e ∨ x ∈ l := by
  induction l with
  | nil => simp [insL] at h; exact .inl h
  | cons y l ih =>
    unfold insL at h
    split at h
    · rcases List.mem_cons.1 h with rfl | h
      · simp
      · rcases ih h with rfl | h <;> simp [*]
    · simpa using h
theorem queueOf_mem {r : Rules} {cabin now : Int} : ∀ {list : List Party} {e : Entry}, e ∈ queueOf r list cabin now → ∃ p ∈ list, entryOk r p now = true ∧ p.cabin = cabin ∧ e = entryOf r p now
  | [], e, h => by simp [queueOf] at h
  | p :: ps, e, h => by
    unfold queueOf at h
    split at h
    · rename_i hc
      simp only [Bool.and_eq_true, beq_iff_eq] at hc
      rw [qIns_eq] at h
      rcases insL_memG h with rfl | h
      · exact ⟨p, by simp, hc.1, hc.2, rfl⟩
      · obtain ⟨q, hq, h2⟩ := queueOf_mem h
        exact ⟨q, by simp [hq], h2⟩
    · obtain ⟨q, hq, h2⟩ := queueOf_mem h
      exact ⟨q, by simp [hq], h2⟩
theorem atId_nn {l : List Party} {id : Int} {p : Party} (hp : p ∈ l) (hi : p.id = id) : 0 ≤ atId l id := by
  obtain ⟨h1, h2⟩ := idxF_none (q := fun e : Party => e.id == id) l 0
  rcases h2 with h2 | h2
  · have := h1.1 h2 p hp
    simp [hi] at this
  · exact h2
/-- an entry of a right house's row is a party's -/
theorem row_party {h : House} {k : Nat} {c : Cabin} {e : Entry} (hh : houseOk h = true) (hc : h.cabins[k]? = some c) (he : e ∈ c.row) : 0 ≤ atId h.parties e.id ∧ 1 ≤ e.id ∧ e.id ≤ 999 ∧ c.row.length ≤ 10 := by
  obtain ⟨_, _, _, _, _, _, _, h8⟩ := houseP_of hh
  have ha := (h8 k c hc).2.1
  simp only [agrees, Bool.and_eq_true, cabinOk] at ha
  obtain ⟨⟨⟨⟨⟨⟨_, hq⟩, _⟩, hr⟩, _⟩, _⟩, _⟩ := ha
  have hq := queueP_of hq
  have hrow := (sameRow_iff _ _).1 hr
  obtain ⟨i, hi⟩ := List.mem_iff_getElem?.1 he
  have hR := (hq.2 i e hi).1.2.2.1
  simp only [inB, Bool.and_eq_true, decide_eq_true_eq] at hR
  rw [hrow] at he
  obtain ⟨p, hp, h1, h2, h3⟩ := queueOf_mem he
  refine ⟨atId_nn hp ?_, hR.1, hR.2, hq.1⟩
  rw [h3]
  simp [entryOf, h1]
def starB (h : House) (id : Int) : Bool := match h.parties[(atId h.parties id).toNat]? with
  | some p => restingB p h.now
  | none => false
theorem starB_of {h : House} {id : Int} {p : Party} (hp : h.parties[(atId h.parties id).toNat]? = some p) : starB h id = restingB p h.now := by simp [starB, hp]
def partB (h : House) (e : Entry) : List UInt8 := if starB h e.id then Lib.itoa e.id ++ [42] else Lib.itoa e.id
theorem partB_t {h : House} {e : Entry} (hs : starB h e.id = true) : partB h e = Lib.itoa e.id ++ [42] := by simp [partB, hs]
theorem partB_f {h : House} {e : Entry} (hs : starB h e.id = false) : partB h e = Lib.itoa e.id := by simp [partB, hs]
theorem joinS_snoc (x : List UInt8) : ∀ (l : List (List UInt8)), l ≠ [] → Lib.join (l ++ [x]) [32] = Lib.join l [32] ++ ([32] ++ x)
  | [], h => absurd rfl h
  | y :: l, _ => by
    rw [List.cons_append, Lib.join_cons, Lib.join_cons]
    simp [Lib.joinTail]
theorem joinS_len : ∀ (ls : List (List UInt8)) (m : Nat), (∀ x ∈ ls, x.length ≤ m) → (Lib.join ls [32]).length ≤ (m + 1) * ls.length
  | [], m, _ => by simp [Lib.join_nil]
  | x :: l, m, h => by
    rw [Lib.join_cons]
    have h1 := h x (by simp)
    have h2 : ∀ (l : List (List UInt8)), (∀ x ∈ l, x.length ≤ m) → (Lib.joinTail [32] l).length ≤ (m + 1) * l.length := by
      intro l
      induction l with
      | nil => intro _; simp [Lib.joinTail]
      | cons y l ih =>
        intro hl
        have h3 := hl y (by simp)
        have h4 := ih fun z hz => hl z (by simp [hz])
        simp only [Lib.joinTail, List.map_cons, List.flatten_cons, List.length_append, List.length_cons, List.length_nil, Nat.mul_add] at h4 ⊢
        omega
    have h5 := h2 l fun z hz => h z (by simp [hz])
    simp only [List.length_append, List.length_cons, Nat.mul_add] at h5 ⊢
    omega
def boardB (h : House) (row : List Entry) : List UInt8 := Lib.join (row.map (partB h)) [32]
noncomputable def boardLine (h : House) (cabin : Int) : List UInt8 :=
  if hasCab h cabin then match h.cabins[cabin.toNat]? with
    | some c => if c.row = [] then [45] else boardB h c.row
    | none => []
  else []
theorem boardLine_no {h : House} {cabin : Int} (hb : hasCab h cabin = false) : boardLine h cabin = [] := by simp [boardLine, hb]
theorem boardLine_nil {h : House} {cabin : Int} {c : Cabin} (hb : hasCab h cabin = true) (hc : h.cabins[cabin.toNat]? = some c) (hr : c.row = []) : boardLine h cabin = [45] := by simp [boardLine, hb, hc, hr]
theorem boardLine_of {h : House} {cabin : Int} {c : Cabin} (hb : hasCab h cabin = true) (hc : h.cabins[cabin.toNat]? = some c) (hr : c.row ≠ []) : boardLine h cabin = boardB h c.row := by simp [boardLine, hb, hc, hr]
theorem hasCab_ok {h : House} {cabin : Int} (hb : hasCab h cabin = true) : houseOk h = true := by
  simp only [hasCab, Bool.and_eq_true] at hb; exact hb.1
theorem boardB_take {h : House} {row : List Entry} {k : Nat} {e : Entry} (he : row[k]? = some e) : boardB h (row.take (k + 1)) = if k = 0 then partB h e else boardB h (row.take k) ++ ([32] ++ partB h e) := by
  unfold boardB
  rw [List.take_add_one, he]
  have hk : k < row.length := (List.getElem?_eq_some_iff.1 he).1
  by_cases h0 : k = 0
  · subst h0; simp [Lib.join_one]
  · rw [if_neg h0]
    simp only [Option.toList, List.map_append, List.map_cons, List.map_nil]
    exact joinS_snoc _ _ (by
      intro hh
      have := congrArg List.length hh
      rw [List.length_map, List.length_take, List.length_nil] at this
      omega)
theorem itoa_ne (n : Int) : Lib.itoa n ≠ [] := by
  unfold Lib.itoa
  split
  · simp
  · unfold Lib.decDigits; split <;> simp
theorem partB_ne (h : House) (e : Entry) : partB h e ≠ [] := by
  unfold partB
  split
  · simp
  · exact itoa_ne _
theorem boardB_ne {h : House} {row : List Entry} (hr : row ≠ []) : boardB h row ≠ [] := by
  cases row with
  | nil => exact absurd rfl hr
  | cons e l =>
    unfold boardB
    rw [List.map_cons, Lib.join_cons]
    intro hh
    exact partB_ne h e (List.append_eq_nil_iff.1 hh).1
theorem partB_len (h : House) {e : Entry} (he : i64R e.id) : (partB h e).length ≤ 22 := by
  have := itoa_len he
  unfold partB
  split <;> simp <;> omega
theorem boardB_s1 {h : House} {row : List Entry} {k : Nat} {e : Entry} (he : row[k]? = some e) (hk : 0 < k) (hs : starB h e.id = true) : ((boardB h (row.take k) ++ [32]) ++ Lib.itoa e.id) ++ [42] = boardB h (row.take (k + 1)) := by
  rw [boardB_take he, if_neg (by omega), partB_t hs]; simp
theorem boardB_s0 {h : House} {row : List Entry} {k : Nat} {e : Entry} (he : row[k]? = some e) (hk : 0 < k) (hs : starB h e.id = false) : (boardB h (row.take k) ++ [32]) ++ Lib.itoa e.id = boardB h (row.take (k + 1)) := by
  rw [boardB_take he, if_neg (by omega), partB_f hs]; simp
theorem boardB_z1 {h : House} {row : List Entry} {k : Nat} {e : Entry} (he : row[k]? = some e) (hk : k = 0) (hs : starB h e.id = true) : (boardB h (row.take k) ++ Lib.itoa e.id) ++ [42] = boardB h (row.take (k + 1)) := by
  rw [boardB_take he, if_pos hk, partB_t hs]; subst hk; simp [boardB, Lib.join_nil]
theorem boardB_z0 {h : House} {row : List Entry} {k : Nat} {e : Entry} (he : row[k]? = some e) (hk : k = 0) (hs : starB h e.id = false) : boardB h (row.take k) ++ Lib.itoa e.id = boardB h (row.take (k + 1)) := by
  rw [boardB_take he, if_pos hk, partB_f hs]; subst hk; simp [boardB, Lib.join_nil]
theorem parts_1 {h : House} {row : List Entry} {k : Nat} {e : Entry} (he : row[k]? = some e) (hs : starB h e.id = true) : (row.take k).map (partB h) ++ [Lib.itoa e.id ++ [42]] = (row.take (k + 1)).map (partB h) := by
  rw [List.take_add_one, he]; simp [partB_t hs]
theorem parts_0 {h : House} {row : List Entry} {k : Nat} {e : Entry} (he : row[k]? = some e) (hs : starB h e.id = false) : (row.take k).map (partB h) ++ [Lib.itoa e.id] = (row.take (k + 1)).map (partB h) := by
  rw [List.take_add_one, he]; simp [partB_f hs]
theorem boardLine_end {h : House} {cabin : Int} {c : Cabin} {k : Nat} {out : List UInt8} (hb : hasCab h cabin = true) (hc : h.cabins[cabin.toNat]? = some c) (hk : k = c.row.length) (ho : out = boardB h (c.row.take k)) : (out = [] → boardLine h cabin = [45]) ∧ (out ≠ [] → boardLine h cabin = out) := by
  subst hk; rw [List.take_length] at ho
  refine ⟨fun h0 => ?_, fun h0 => ?_⟩
  · by_cases hr : c.row = []
    · exact boardLine_nil hb hc hr
    · exact absurd (ho.symm.trans h0) (boardB_ne hr)
  · by_cases hr : c.row = []
    · rw [hr] at ho; exact absurd (ho.trans (by simp [boardB, Lib.join_nil])) h0
    · rw [boardLine_of hb hc hr, ho]
theorem boardLine_parts {h : House} {cabin : Int} {c : Cabin} {k : Nat} {out : List (List UInt8)} (hb : hasCab h cabin = true) (hc : h.cabins[cabin.toNat]? = some c) (hk : k = c.row.length) (ho : out = (c.row.take k).map (partB h)) : (out.length = 0 → boardLine h cabin = [45]) ∧ (out.length ≠ 0 → boardLine h cabin = Lib.join out [32]) := by
  subst hk; rw [List.take_length] at ho
  refine ⟨fun h0 => ?_, fun h0 => ?_⟩
  · exact boardLine_nil hb hc (by rw [ho] at h0; simpa using h0)
  · rw [boardLine_of hb hc (fun h9 => by rw [ho, h9] at h0; simp at h0), ho]; rfl
end SX
end Go.Proofs.YtgbfemglimebdaaGreatDoor
