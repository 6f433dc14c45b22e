/- Proved here: parts of the proof: Msm Dns Dnb Lof. Conditions: those that each theorem states. -/
import Derived.Test.YtakblfhmllgepaaGreatDoorCntQ
section
/- The dense form's elements; the closure that stores an entry. -/
namespace Gus
open Go Go.RowKit Go.Proofs
/-- the elements of a dense form of which these entries are not yet stored -/
def den (r c : Nat) (f : Nat → Nat → Rat) (t : List (Nat × Nat × Rat)) : List Rat := (List.range (r * c)).map fun p => if t.any (fun x => x.1 * c + x.2.1 == p) then 0 else f (p / c) (p % c)
def dense (r c : Nat) (f : Nat → Nat → Rat) : List Rat := (List.range (r * c)).map fun p => f (p / c) (p % c)
theorem dense_length (r c : Nat) (f : Nat → Nat → Rat) : (dense r c f).length = r * c := by simp [dense]
end Gus
end
section
/- gussetlaw16.of; sizes of the laws' fractions. -/
namespace Gus
open Go Go.RowKit Go.Proofs
theorem SzK_int {n : Int} {k : Nat} (h : n.natAbs < 2 ^ k) (hk : 0 < k) : SzK k (n : Rat) := by
  constructor
  · simpa using h
  · have : 2 ^ 1 ≤ 2 ^ k := Nat.pow_le_pow_right (by decide) hk
    simp; omega
theorem qOf_szk {n d : Int} (hn0 : -9223372036854775808 ≤ n) (hn1 : n < 9223372036854775808) (hd0 : 0 ≤ d) (hd1 : d < 4294967296) : SzK 128 (qOf n d) := by
  unfold qOf
  exact (SzK_int (k := 64) (by omega) (by decide)).div (SzK_int (k := 64) (by omega) (by decide))
end Gus
end
