/- Proved here: parts of the proof: KSqz KSra. Conditions: those that each theorem states. -/
import Derived.Test.YthblojaeoiemmaaGreatDoorKSqwQ
section
namespace Gus
open Go Go.RowKit Go.Proofs
theorem take_snoc2 {α:Type} (l:List α) (d:α) {p:Nat} (h:p<l.length):l.take (p+1)=l.take p ++ [l.getD p d]:=by
 rw[List.take_add_one,List.getElem?_eq_getElem h,List.getD_eq_getElem?_getD,List.getElem?_eq_getElem h];rfl
end Gus
end
