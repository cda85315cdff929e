/- What the functions on lines come to, in plain Lean. It imports no program. -/
import Derived.Test.YtgbfemglimebdaaGreatDoorMdl2
import Derived.Test.YtgbfemglimebdaaGreatDoorSxt
namespace Go.Proofs.YtgbfemglimebdaaGreatDoor
namespace SX
set_option linter.unusedVariables false
set_option linter.unusedSimpArgs false
structure Standing where
  state : Int
  cabin : Int
  level : Int
  place : Int
  left : Int
  asked : Int
/-- numbers behind a text, a blank ahead of each -/
def joinSp : List UInt8 → List Int → List UInt8
  | out, [] => out
  | out, x :: xs => joinSp (out ++ ([32] ++ Lib.itoa x)) xs
def standWord (n : Int) : List UInt8 := if n == 1 then [119, 97, 105, 116, 115] else if n == 2 then [111, 102, 102, 101, 114, 101, 100] else [63]
def standLine (s : Standing) : List UInt8 := joinSp (standWord s.state) [s.cabin, s.level, s.place, s.left, s.asked]
end SX
end Go.Proofs.YtgbfemglimebdaaGreatDoor
