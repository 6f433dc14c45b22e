import Derived.Test.YtakblfhmllgepaaGreatDoorRat
import Derived.Test.YtakblfhmllgepaaGreatDoorReg
import Derived.Test.YtakblfhmllgepaaGreatDoorProg
/- The encodings of numbers as the program's values. -/
namespace Gus
open Go Go.RowKit
abbrev natV (n : Nat) : Value := .agg #[.int .u64 (lo n), .string (bg n)]
abbrev intV (z : Int) : Value := .agg #[.int .u64 (lo z.natAbs), .string (bg z.natAbs), .bool (decide (z < 0))]
abbrev fracV (q : Rat) : Value := .agg #[.int .u64 (lo q.num.natAbs), .string (bg q.num.natAbs), .bool (decide (q.num < 0)), .int .u64 (lo (q.den - 1)), .string (bg (q.den - 1))]
/-- the greatest size that the contracts allow, in binary digits -/
def lim : Nat := 274877906944
/-- a number of a size that the machine holds -/
def Sn (n : Nat) : Prop := n < 2 ^ lim
def Sq (q : Rat) : Prop := SzK lim q
theorem SzK.sq {k : Nat} {q : Rat} (h : SzK k q) (hk : k ≤ 274877906944) : Sq q := h.mono hk
end Gus
