/- What the functions on bytes, frames and records come to, in plain Lean. It imports no program. -/
import Derived.Test.YtcbpmjfjdjpalaaGreatMdl1
import Derived.Test.YtcbpmjfjdjpalaaGreatSxs
namespace Go.Proofs.YtcbpmjfjdjpalaaGreat
namespace SX
set_option linter.unusedVariables false
set_option linter.unusedSimpArgs false
def putGo (n : Nat) : List UInt8 := if n < 128 then [UInt8.ofNat n] else UInt8.ofNat (n % 128 + 128) :: putGo (n / 128)
  termination_by n
  decreasing_by omega
def putNum (n : Int) : List UInt8 := if inB n 0 2147483647 then putGo n.toNat else []
theorem byteOf_nat (n : Nat) : byteOf (n : Int) = UInt8.ofNat n := by
  apply UInt8.toNat_inj.1
  rw [byteOf, UInt8.toNat_ofNat', UInt8.toNat_ofNat']
  omega
theorem putGo_lt {n : Nat} (h : n < 128) : putGo n = [byteOf (n : Int)] := by rw [putGo, if_pos h, byteOf_nat]
theorem putGo_ge {n : Nat} (h : ¬ n < 128) : putGo n = byteOf ((n % 128 + 128 : Nat) : Int) :: putGo (n / 128) := by rw [putGo, if_neg h, byteOf_nat]
theorem putGo_len : ∀ (k n : Nat), n < 128 ^ (k + 1) → (putGo n).length ≤ k + 1
  | 0, n, h => by rw [putGo_lt (by omega)]; simp
  | k + 1, n, h => by
    by_cases hn : n < 128
    · rw [putGo_lt hn]; simp
    · rw [putGo_ge hn]
      have := putGo_len k (n / 128) (by rw [Nat.pow_succ] at h; exact Nat.div_lt_of_lt_mul (by rw [Nat.mul_comm]; exact h))
      simp; omega
theorem putNum_len (n : Int) : (putNum n).length ≤ 5 := by
  unfold putNum
  split
  · rename_i h
    have hb : 0 ≤ n ∧ n ≤ 2147483647 := by simpa [inB] using h
    exact putGo_len 4 n.toNat (Nat.lt_of_lt_of_le (show n.toNat < 2147483648 by omega) (by decide))
  · simp
def crcStep (x : Nat) : Nat := if x % 2 = 1 then (x / 2) ^^^ 3988292384 else x / 2
def crcIt : Nat → Nat → Nat
  | 0, x => x
  | n + 1, x => crcIt n (crcStep x)
def crcGo : Nat → List UInt8 → Nat
  | x, [] => x
  | x, c :: cs => crcGo (crcIt 8 (x ^^^ c.toNat)) cs
theorem crcGo_cons (x : Nat) (c : UInt8) (cs : List UInt8) : crcGo x (c :: cs) = crcGo (crcIt 8 (x ^^^ c.toNat)) cs := rfl
theorem crcGo_nil (x : Nat) : crcGo x [] = x := rfl
theorem crcIt_zero (x : Nat) : crcIt 0 x = x := rfl
def crc (b : List UInt8) : Nat := crcGo 4294967295 b ^^^ 4294967295
theorem xor32 {x y : Nat} (hx : x < 4294967296) (hy : y < 4294967296) : x ^^^ y < 4294967296 := Nat.xor_lt_two_pow (n := 32) hx hy
theorem crc8_lt {x : Nat} (hx : x < 4294967296) (c : UInt8) : x ^^^ c.toNat < 4294967296 := xor32 hx (by have := c.toNat_lt; omega)
def four (x : Int) : List UInt8 := [byteOf (Int.fdiv x (2 ^ 24)), byteOf (Int.fdiv x (2 ^ 16)), byteOf (Int.fdiv x (2 ^ 8)), byteOf x]
theorem fdiv_nat (x k : Nat) : Int.fdiv (x : Int) (2 ^ k) = ((x / 2 ^ k : Nat) : Int) := by
  rw [Int.fdiv_eq_ediv_of_nonneg _ (by exact Int.le_of_lt (Int.pow_pos (by decide)))]; simp
theorem four_nat (x : Nat) : four (x : Int) = [byteOf ((x / 2 ^ 24 : Nat) : Int), byteOf ((x / 2 ^ 16 : Nat) : Int), byteOf ((x / 2 ^ 8 : Nat) : Int), byteOf (x : Int)] := by
  simp only [four, fdiv_nat]
def putNums (l : List Int) : List UInt8 := l.flatMap putNum
theorem putNums_len (l : List Int) : (putNums l).length ≤ 5 * l.length := by
  induction l with
  | nil => simp [putNums]
  | cons x l ih =>
    have := putNum_len x
    simp only [putNums, List.flatMap_cons, List.length_append, List.length_cons] at *
    omega
theorem four_len (x : Int) : (four x).length = 4 := rfl
end SX
end Go.Proofs.YtcbpmjfjdjpalaaGreat
