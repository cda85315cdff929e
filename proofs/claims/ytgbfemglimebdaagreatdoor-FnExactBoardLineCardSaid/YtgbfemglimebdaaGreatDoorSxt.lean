/- Decimal numerals by the library: its table, which lies as it was laid. It imports no program. -/
import Derived.Test.YtgbfemglimebdaaGreatDoorSx9
import Derived.Lib.LaidTab
import Derived.Lib.ItoaMem
import Derived.Lib.ItoaLen
namespace Go.Proofs.YtgbfemglimebdaaGreatDoor
namespace SX
set_option linter.unusedVariables false
set_option linter.unusedSimpArgs false
open Go Go.RowKit
/-- the library's table lies as it was laid -/
def Tab (P : Program) (w : World) : Prop := Lib.TabIs P w "internal/strconv.uint64pow10" .u64 Lib.pow10Tab
theorem Tab.fr {P : Program} {W w : World} (h : Tab P W) (hf : Fr [] W w) : Tab P w := by
  unfold Tab Lib.TabIs World.var? at *
  cases hg : P.globalNamed "internal/strconv.uint64pow10" with
  | none => simp [hg] at h
  | some g =>
    simp only [hg, Option.bind_some] at h ⊢
    have hlt : g < W.heap.size := by
      rcases Nat.lt_or_ge g W.heap.size with h' | h'
      · exact h'
      · simp [Array.getElem?_eq_none h'] at h
    rw [hf.block g hlt (by simp)]
    exact h
theorem Spec.grow {P : Program} {W : World} {f : FuncId} {vs : Array Value} {v : Value} (hc : Calls P f vs W fun e w' => e = .returned v ∧ ∃ k os, w' = Sort.grow (W.drewN k) os) : Spec P W [] f vs (RV v) := by
  intro fps hh hn
  refine hc.mono ?_
  rintro e w' ⟨rfl, k, os, rfl⟩
  refine ⟨(), [], rfl, trivial, by simp, by simp, ⟨rfl, rfl, rfl, by simp [Sort.grow, World.drewN], fun b hb _ => ?_⟩⟩
  simp [Sort.grow, World.drewN, Array.getElem?_append_left hb]
theorem itoa_len {n : Int} (h : i64R n) : (Lib.itoa n).length ≤ 21 := Lib.itoa_length_le n h.1 h.2
theorem wr_range (x : Int) : i64R (wr x) := by
  unfold i64R wr IntKind.wrap
  simp [IntKind.bits, IntKind.signed]
  omega
/-- the digits of a number, none of 0 -/
def ddz (u : Nat) : List UInt8 := if u = 0 then [] else Lib.decDigits u
theorem ddz_step {u : Nat} (h : u ≠ 0) : ddz u = ddz (u / 10) ++ [UInt8.ofNat (48 + u % 10)] := by
  unfold ddz
  rw [if_neg h]
  by_cases hs : u < 10
  · rw [if_pos (by omega), Lib.decDigits_one hs, Nat.mod_eq_of_lt hs, List.nil_append]
  · rw [if_neg (by omega)]
    conv => lhs; rw [Lib.decDigits]
    rw [dif_neg hs]
theorem itoa_zero : Lib.itoa 0 = [48] := by
  unfold Lib.itoa
  rw [if_neg (by decide)]
  exact Lib.decDigits_one (i := 0) (by decide)
theorem itoa_of {n : Int} (h : n ≠ 0) : Lib.itoa n = (if n < 0 then [45] else []) ++ ddz n.natAbs := by
  unfold Lib.itoa ddz
  rw [if_neg (by omega : ¬ n.natAbs = 0)]
  split
  · rfl
  · rw [show n.toNat = n.natAbs by omega]; rfl
theorem dec_len {u : Nat} (h : u < 18446744073709551616) : (ddz u).length ≤ 20 := by
  unfold ddz
  split
  · simp
  · rw [Lib.decDigits_length]; exact Lib.nDigits_le20 u h
/-- one digit of a number -/
theorem tmod_pos {m : Int} (h : 0 ≤ m) : Int.tmod m 10 = m % 10 := Int.tmod_eq_emod_of_nonneg h
theorem tmod_neg {m : Int} (h : m < 0) : Int.tmod m 10 = -((-m) % 10) := by
  have := Int.neg_tmod (-m) 10
  rw [Int.neg_neg, tmod_pos (m := -m) (by omega)] at this
  exact this
theorem tdiv_pos {m : Int} (h : 0 ≤ m) : Int.tdiv m 10 = m / 10 := Int.tdiv_eq_ediv_of_nonneg h
theorem tdiv_neg {m : Int} (h : m < 0) : Int.tdiv m 10 = -((-m) / 10) := by
  have := Int.neg_tdiv (-m) 10
  rw [Int.neg_neg, tdiv_pos (m := -m) (by omega)] at this
  exact this
theorem dig_pos {m : Int} (h : i64R m) (hm : ¬ Int.tmod m 10 < 0) : byteOf (wr (48 + Int.tmod m 10)) = UInt8.ofNat (48 + m.natAbs % 10) := by
  have h1 : Int.tmod m 10 = ((m.natAbs % 10 : Nat) : Int) := by
    rcases Int.lt_or_le m 0 with hs | hs
    · rw [tmod_neg hs] at *; omega
    · rw [tmod_pos hs] at *; omega
  rw [h1, wr_of (by omega) (by omega), show (48 : Int) + ((m.natAbs % 10 : Nat) : Int) = ((48 + m.natAbs % 10 : Nat) : Int) by omega]
  apply UInt8.toNat_inj.1
  rw [byteOf, UInt8.toNat_ofNat', UInt8.toNat_ofNat']
  omega
theorem dig_neg {m : Int} (h : i64R m) (hm : Int.tmod m 10 < 0) : byteOf (wr (48 + wr (0 - Int.tmod m 10))) = UInt8.ofNat (48 + m.natAbs % 10) := by
  have h1 : Int.tmod m 10 = -((m.natAbs % 10 : Nat) : Int) := by
    rcases Int.lt_or_le m 0 with hs | hs
    · rw [tmod_neg hs] at *; omega
    · rw [tmod_pos hs] at *; omega
  rw [h1, wr_of (x := 0 - -((m.natAbs % 10 : Nat) : Int)) (by omega) (by omega), wr_of (by omega) (by omega), show (48 : Int) + (0 - -((m.natAbs % 10 : Nat) : Int)) = ((48 + m.natAbs % 10 : Nat) : Int) by omega]
  apply UInt8.toNat_inj.1
  rw [byteOf, UInt8.toNat_ofNat', UInt8.toNat_ofNat']
  omega
theorem quo10 {m : Int} (h : i64R m) : i64R (wr (Int.tdiv m 10)) ∧ (wr (Int.tdiv m 10)).natAbs = m.natAbs / 10 := by
  refine ⟨wr_range _, ?_⟩
  unfold i64R at h
  rcases Int.lt_or_le m 0 with hs | hs
  · rw [tdiv_neg hs, wr_of (by omega) (by omega)]; omega
  · rw [tdiv_pos hs, wr_of (by omega) (by omega)]; omega
end SX
end Go.Proofs.YtgbfemglimebdaaGreatDoor
