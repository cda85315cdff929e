/- Texts of this claim, put together by program. -/
import Derived.Test.YtcbpmjfjdjpalaaGreatDoorSxh
import Derived.ProofKit
import Derived.OpenShut
import Derived.Handed
import Derived.Lib.LaidTab
import Derived.Lib.ItoaMem
import Derived.Lib.ItoaLen
/- From the form's reading of arguments to the logic's. It imports no program. -/
namespace Go.Proofs.YtcbpmjfjdjpalaaGreatDoor
namespace SX
set_option linter.unusedVariables false
set_option linter.unusedSimpArgs false
open Go Go.RowKit Go.ChangeShapes Go.WideShapes Go.ChangeAt

/-- whatever reads at type t is laid out so, and is well formed so -/
def Opens (P : Program) (t : TypeId) {α : Type} (L : Lay α) (wf : α → Prop) : Prop :=
  ∀ (H : Type) (enc : TypeId × Value → H) (w : World) (base : Nat) (spare : Nat → Bool) (held : Bool) (fuel : Nat) (cs : List Value) (x : DataW H × List MemPlace),
    DataW.trod enc P w base spare held fuel t cs = some x → ∃ y f, L.rep false w cs y f ∧ wf y

abbrev i64R (x : Int) : Prop := -9223372036854775808 ≤ x ∧ x ≤ 9223372036854775807

theorem open_byte {P : Program} {t : TypeId} (ht : P.underlying t = some (.int .u8)) : Opens P t byteL (fun _ => True) := by
  intro H enc w base spare held fuel cs x h
  obtain ⟨n, rfl, _, hw⟩ := DataW.trod_int ht h
  have hb := bounds_u8 hw
  refine ⟨UInt8.ofNat n.toNat, [], ⟨?_, rfl⟩, trivial⟩
  have : ((UInt8.ofNat n.toNat).toNat : Int) = n := by
    rw [UInt8.toNat_ofNat']
    omega
  show [Value.int .u8 n] = [Value.int .u8 ((UInt8.ofNat n.toNat).toNat : Int)]
  rw [this]

theorem cell_spot {w : World} {a : Addr} {v : Value} (h : w.cell? a = some v) : a.spot = none ∧ a.block < w.heap.size := by
  refine ⟨?_, World.block_lt_of_cell? w a h⟩
  unfold World.cell? at h
  split at h
  · split at h
    · cases h
    · rename_i hs; simpa using hs
  · cases h

theorem open_sl {P : Program} {t e : TypeId} {α : Type} {L : Lay α} {wf : α → Prop} (e' : TypeId) (ho : Opens P e L wf) (ht : P.underlying t = some (.slice e)) (hc : P.cellsOf e = L.sz) (hp : 0 < L.sz) :
    Opens P t (sl e' L) (fun xs => ∀ x ∈ xs, wf x) := by
  intro H enc w base spare held fuel cs x h
  rcases DataW.trod_slice ht h with ⟨rfl, _⟩ | ⟨a, len, cap, elems, rest, n, _, rfl, _, hb, hl, hm, hlen, hel, _, _⟩
  · exact ⟨[], [], ⟨none, 0, rfl, by simp, by simp [maxLen], .inl ⟨rfl, rfl⟩⟩, by simp⟩
  · rw [hc] at hel
    -- each element
    have key : ∀ k, k ≤ len → ∃ (ys : List α) (cells : List Value) (g : List Nat), ys.length = k ∧ cellsRep L false w cells ys g ∧ (∀ j, j < cells.length → w.cell? (a.add (k * L.sz - cells.length + j)) = cells[j]?) ∧ (∀ y ∈ ys, wf y) := by
      intro k
      induction k with
      | zero => intro _; exact ⟨[], [], [], rfl, ⟨rfl, rfl⟩, by simp, by simp⟩
      | succ k ih =>
        intro hk
        obtain ⟨ys, cells, g, h1, h2, h3, h4⟩ := ih (by omega)
        have hk' := hel k (by omega)
        have hs : elems[k]? = some (elems[k]'(by omega)) := List.getElem?_eq_getElem (by omega)
        rw [hs] at hk'
        obtain ⟨cs', hcs, htr⟩ := Option.bind_eq_some_iff.1 hk'
        obtain ⟨_, hcl, hcell⟩ := World.cells?_some hcs
        obtain ⟨y, f, hr, hw⟩ := ho H enc w base spare held n cs' _ htr
        have hlen2 := h2.len
        refine ⟨ys ++ [y], cells ++ cs', g ++ f, by simp [h1], h2.append ⟨cs', [], f, [], by simp, by simp, hr, rfl, rfl⟩, ?_, ?_⟩
        · intro j hj
          have hzero : (k + 1) * L.sz - (cells ++ cs').length = 0 := by rw [List.length_append, hcl, hlen2, h1, Nat.add_mul]; omega
          rw [hzero, Nat.zero_add]
          rw [h1] at hlen2
          by_cases hjc : j < cells.length
          · have := h3 j hjc
            rw [hlen2, Nat.sub_self, Nat.zero_add] at this
            rw [this, List.getElem?_append_left hjc]
          · rw [List.getElem?_append_right (by omega)]
            rw [List.length_append, hcl] at hj
            have := hcell (j - cells.length) (by omega)
            rw [SX.add_add] at this
            rw [← this]
            congr 2
            rw [hlen2]
            rw [hlen2] at hjc
            omega
        · intro z hz
          rcases List.mem_append.1 hz with hz | hz
          · exact h4 z hz
          · simp at hz; subst hz; exact hw
    obtain ⟨ys, cells, g, h1, h2, h3, h4⟩ := key len (Nat.le_refl _)
    subst h1
    have hlen2 := h2.len
    simp only [hlen2, Nat.sub_self, Nat.zero_add] at h3
    cases ys with
    | nil => exact ⟨[], [], ⟨some a, cap, rfl, by simp, by simp [maxLen], .inl ⟨rfl, rfl⟩⟩, by simp⟩
    | cons y ys =>
      have hpos : 0 < cells.length := by rw [hlen2]; simp only [List.length_cons, Nat.add_mul]; omega
      have h0 := h3 0 (by omega)
      rw [List.getElem?_eq_getElem hpos] at h0
      obtain ⟨hs, hlt⟩ := cell_spot h0
      obtain ⟨b, o, sp⟩ := a
      simp [Addr.add] at hs hlt
      subst hs
      refine ⟨y :: ys, b :: g, ⟨some ⟨b, o, none⟩, cap, rfl, ?_⟩, h4⟩
      refine ⟨hl, by omega, .inr ⟨b, o, g, cells, rfl, hlt, rfl, h2, fun j hj => ?_⟩⟩
      rw [← h3 j (by omega), add_lit]

/-- what a law's walk says, in the form's words -/
theorem Spec.law {P : Program} {W : World} {f : FuncId} {vs : Array Value} (h : Spec P W [] f vs (RV (.bool true))) : Calls P f vs W fun e w' => e = .returned (.bool true) ∧ Below W.heap.size W w' := by
  refine (h [] trivial (by simp)).mono ?_
  rintro e w' ⟨x, nps, rfl, _, _, _, hfr⟩
  exact ⟨rfl, hfr.below⟩
end SX
end Go.Proofs.YtcbpmjfjdjpalaaGreatDoor
/- Decimal numerals by the library: its table, which lies as it was laid. It imports no program. -/
namespace Go.Proofs.YtcbpmjfjdjpalaaGreatDoor
namespace SX
set_option linter.unusedVariables false
set_option linter.unusedSimpArgs false
open Go Go.RowKit
/-- the library's table lies as it was laid -/
def Tab (P : Program) (w : World) : Prop := Lib.TabIs P w "internal/strconv.uint64pow10" .u64 Lib.pow10Tab
theorem Tab.fr {P : Program} {W w : World} (h : Tab P W) (hf : Fr [] W w) : Tab P w := by
  unfold Tab Lib.TabIs World.var? at *
  cases hg : P.globalNamed "internal/strconv.uint64pow10" with
  | none => simp [hg] at h
  | some g =>
    simp only [hg, Option.bind_some] at h ⊢
    have hlt : g < W.heap.size := by
      rcases Nat.lt_or_ge g W.heap.size with h' | h'
      · exact h'
      · simp [Array.getElem?_eq_none h'] at h
    rw [hf.block g hlt (by simp)]
    exact h
theorem Spec.grow {P : Program} {W : World} {f : FuncId} {vs : Array Value} {v : Value} (hc : Calls P f vs W fun e w' => e = .returned v ∧ ∃ k os, w' = Sort.grow (W.drewN k) os) : Spec P W [] f vs (RV v) := by
  intro fps hh hn
  refine hc.mono ?_
  rintro e w' ⟨rfl, k, os, rfl⟩
  refine ⟨(), [], rfl, trivial, by simp, by simp, ⟨rfl, rfl, rfl, by simp [Sort.grow, World.drewN], fun b hb _ => ?_⟩⟩
  simp [Sort.grow, World.drewN, Array.getElem?_append_left hb]
theorem itoa_len {n : Int} (h : i64R n) : (Lib.itoa n).length ≤ 21 := Lib.itoa_length_le n h.1 h.2
theorem wr_range (x : Int) : i64R (wr x) := by
  unfold i64R wr IntKind.wrap
  simp [IntKind.bits, IntKind.signed]
  omega
/-- the digits of a number, none of 0 -/
def ddz (u : Nat) : List UInt8 := if u = 0 then [] else Lib.decDigits u
theorem ddz_step {u : Nat} (h : u ≠ 0) : ddz u = ddz (u / 10) ++ [UInt8.ofNat (48 + u % 10)] := by
  unfold ddz
  rw [if_neg h]
  by_cases hs : u < 10
  · rw [if_pos (by omega), Lib.decDigits_one hs, Nat.mod_eq_of_lt hs, List.nil_append]
  · rw [if_neg (by omega)]
    conv => lhs; rw [Lib.decDigits]
    rw [dif_neg hs]
theorem itoa_zero : Lib.itoa 0 = [48] := by
  unfold Lib.itoa
  rw [if_neg (by decide)]
  exact Lib.decDigits_one (i := 0) (by decide)
theorem itoa_of {n : Int} (h : n ≠ 0) : Lib.itoa n = (if n < 0 then [45] else []) ++ ddz n.natAbs := by
  unfold Lib.itoa ddz
  rw [if_neg (by omega : ¬ n.natAbs = 0)]
  split
  · rfl
  · rw [show n.toNat = n.natAbs by omega]; rfl
theorem dec_len {u : Nat} (h : u < 18446744073709551616) : (ddz u).length ≤ 20 := by
  unfold ddz
  split
  · simp
  · rw [Lib.decDigits_length]; exact Lib.nDigits_le20 u h
/-- one digit of a number -/
theorem tmod_pos {m : Int} (h : 0 ≤ m) : Int.tmod m 10 = m % 10 := Int.tmod_eq_emod_of_nonneg h
theorem tmod_neg {m : Int} (h : m < 0) : Int.tmod m 10 = -((-m) % 10) := by
  have := Int.neg_tmod (-m) 10
  rw [Int.neg_neg, tmod_pos (m := -m) (by omega)] at this
  exact this
theorem tdiv_pos {m : Int} (h : 0 ≤ m) : Int.tdiv m 10 = m / 10 := Int.tdiv_eq_ediv_of_nonneg h
theorem tdiv_neg {m : Int} (h : m < 0) : Int.tdiv m 10 = -((-m) / 10) := by
  have := Int.neg_tdiv (-m) 10
  rw [Int.neg_neg, tdiv_pos (m := -m) (by omega)] at this
  exact this
theorem dig_pos {m : Int} (h : i64R m) (hm : ¬ Int.tmod m 10 < 0) : byteOf (wr (48 + Int.tmod m 10)) = UInt8.ofNat (48 + m.natAbs % 10) := by
  have h1 : Int.tmod m 10 = ((m.natAbs % 10 : Nat) : Int) := by
    rcases Int.lt_or_le m 0 with hs | hs
    · rw [tmod_neg hs] at *; omega
    · rw [tmod_pos hs] at *; omega
  rw [h1, wr_of (by omega) (by omega), show (48 : Int) + ((m.natAbs % 10 : Nat) : Int) = ((48 + m.natAbs % 10 : Nat) : Int) by omega]
  apply UInt8.toNat_inj.1
  rw [byteOf, UInt8.toNat_ofNat', UInt8.toNat_ofNat']
  omega
theorem dig_neg {m : Int} (h : i64R m) (hm : Int.tmod m 10 < 0) : byteOf (wr (48 + wr (0 - Int.tmod m 10))) = UInt8.ofNat (48 + m.natAbs % 10) := by
  have h1 : Int.tmod m 10 = -((m.natAbs % 10 : Nat) : Int) := by
    rcases Int.lt_or_le m 0 with hs | hs
    · rw [tmod_neg hs] at *; omega
    · rw [tmod_pos hs] at *; omega
  rw [h1, wr_of (x := 0 - -((m.natAbs % 10 : Nat) : Int)) (by omega) (by omega), wr_of (by omega) (by omega), show (48 : Int) + (0 - -((m.natAbs % 10 : Nat) : Int)) = ((48 + m.natAbs % 10 : Nat) : Int) by omega]
  apply UInt8.toNat_inj.1
  rw [byteOf, UInt8.toNat_ofNat', UInt8.toNat_ofNat']
  omega
theorem quo10 {m : Int} (h : i64R m) : i64R (wr (Int.tdiv m 10)) ∧ (wr (Int.tdiv m 10)).natAbs = m.natAbs / 10 := by
  refine ⟨wr_range _, ?_⟩
  unfold i64R at h
  rcases Int.lt_or_le m 0 with hs | hs
  · rw [tdiv_neg hs, wr_of (by omega) (by omega)]; omega
  · rw [tdiv_pos hs, wr_of (by omega) (by omega)]; omega
end SX
end Go.Proofs.YtcbpmjfjdjpalaaGreatDoor
