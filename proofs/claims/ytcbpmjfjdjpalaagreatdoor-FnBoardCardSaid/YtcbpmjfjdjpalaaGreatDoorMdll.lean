/- A board's line has the parts that its row has; in plain Lean. It imports no program. -/
import Derived.Test.YtcbpmjfjdjpalaaGreatDoorMdl6
namespace Go.Proofs.YtcbpmjfjdjpalaaGreatDoor
namespace SX
set_option linter.unusedVariables false
set_option linter.unusedSimpArgs false
open Go Go.RowKit
theorem parts_join (c : UInt8) : ∀ (l : List (List UInt8)) (x : List UInt8), (∀ y ∈ x :: l, c ∉ y) → parts (Lib.join (x :: l) [c]) c = x :: l
  | [], x, h => by rw [Lib.join_one, parts_no (h x (by simp))]
  | y :: l, x, h => by
    have h1 : Lib.join (x :: y :: l) [c] = x ++ ([c] ++ Lib.join (y :: l) [c]) := by
      rw [Lib.join_cons, Lib.join_cons]; simp [Lib.joinTail]
    rw [h1, parts_cons _ (h x (by simp)), parts_join c l y fun z hz => h z (by simp at hz ⊢; exact .inr hz)]
theorem partB_no {h : House} {e : Entry} (he : 0 ≤ e.id) : (32 : UInt8) ∉ partB h e := by
  have h1 : (32 : UInt8) ∉ Lib.itoa e.id := itoa_no he (by decide)
  unfold partB
  split
  · intro h2
    rcases List.mem_append.1 h2 with h3 | h3
    · exact h1 h3
    · simp at h3
  · exact h1
theorem boardB_parts {h : House} {row : List Entry} (hr : row ≠ []) (hi : ∀ e ∈ row, 0 ≤ e.id) : parts (boardB h row) 32 = row.map (partB h) := by
  cases row with
  | nil => exact absurd rfl hr
  | cons e l =>
    unfold boardB
    rw [List.map_cons, parts_join]
    intro y hy
    rcases List.mem_cons.1 hy with rfl | hy
    · exact partB_no (hi e (by simp))
    · obtain ⟨z, hz, rfl⟩ := List.mem_map.1 hy
      exact partB_no (hi z (by simp [hz]))
theorem board_parts {h : House} {cabin : Int} {c : Cabin} (hb : hasCab h cabin = true) (hc : h.cabins[cabin.toNat]? = some c) (hr : c.row ≠ []) : parts (boardLine h cabin) 32 = c.row.map (partB h) := by
  rw [boardLine_of hb hc hr]
  exact boardB_parts hr fun e he => by have := row_party (hasCab_ok hb) hc he; omega
theorem part_at {h : House} {row : List Entry} {i : Nat} {x : List UInt8} {e : Entry} (hx : (row.map (partB h))[i]? = some x) (he : row[i]? = some e) : x = partB h e := by
  rw [List.getElem?_map, he] at hx; simpa using hx.symm
theorem agreesRow {h : House} {k : Nat} {c : Cabin} (hh : houseOk h = true) (hc : h.cabins[k]? = some c) : c.row.length ≤ 10 := by
  obtain ⟨_, _, _, _, _, _, _, h8⟩ := houseP_of hh
  have ha := (h8 k c hc).2.1
  simp only [agrees, Bool.and_eq_true, cabinOk] at ha
  exact (queueP_of ha.1.1.1.1.1.2).1
theorem hasCab_f1 {h : House} {cabin : Int} (hh : houseOk h = false) : hasCab h cabin = false := by simp [hasCab, hh]
theorem hasCab_f2 {h : House} {cabin : Int} (hc : cabin < 0) : hasCab h cabin = false := by
  have : inB cabin 0 (wr (h.cabins.length - 1)) = false := by simp [inB]; omega
  simp [hasCab, this]
theorem hasCab_f3 {h : House} {cabin : Int} (hs : HouseSz h) (hc : cabin ≥ (h.cabins.length : Int)) : hasCab h cabin = false := by
  have h3 := hs.2.2.1
  have : inB cabin 0 (wr (h.cabins.length - 1)) = false := by
    rw [wr_of (by omega) (by omega)]; simp [inB]; omega
  simp [hasCab, this]
theorem hasCab_t {h : House} {cabin : Int} (hs : HouseSz h) (hh : houseOk h = true) (h0 : 0 ≤ cabin) (h1 : cabin < (h.cabins.length : Int)) : hasCab h cabin = true := by
  have h3 := hs.2.2.1
  have : inB cabin 0 (wr (h.cabins.length - 1)) = true := by
    rw [wr_of (by omega) (by omega)]; simp [inB]; omega
  simp [hasCab, this, hh]
theorem boardLine_len (h : House) (cabin : Int) : (boardLine h cabin).length ≤ 300 := by
  unfold boardLine
  split
  · rename_i hb
    split
    · rename_i c hc
      split
      · simp
      · rename_i hr
        unfold boardB
        have hrow := (agreesRow (hasCab_ok hb) hc)
        have h1 := joinS_len (c.row.map (partB h)) 22 (by
          intro x hx
          obtain ⟨e, he, rfl⟩ := List.mem_map.1 hx
          exact partB_len h (by have := row_party (hasCab_ok hb) hc he; unfold i64R; omega))
        rw [List.length_map] at h1
        omega
    · simp
  · simp
theorem board_at {h : House} {cabin : Int} {c : Cabin} {k : Nat} {y : List UInt8} {e : Entry} (hb : hasCab h cabin = true) (hc : h.cabins[cabin.toNat]? = some c) (hx : (parts (boardLine h cabin) 32)[k]? = some y) (he : c.row[k]? = some e) : y = partB h e := by
  rw [board_parts hb hc (fun h0 => by rw [h0] at he; simp at he)] at hx
  exact part_at hx he
theorem board_plen {h : House} {cabin : Int} {c : Cabin} (hb : hasCab h cabin = true) (hc : h.cabins[cabin.toNat]? = some c) (hr : ¬ c.row.length = 0) : (parts (boardLine h cabin) 32).length = c.row.length := by
  rw [board_parts hb hc (fun h0 => by rw [h0] at hr; simp at hr), List.length_map]
end SX
end Go.Proofs.YtcbpmjfjdjpalaaGreatDoor
