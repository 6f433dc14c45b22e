/- Proved here: parts of the proof: KSri. Conditions: those that each theorem states. -/
import Derived.Test.YthblojaeoiemmaaGreatDoorKSqzQ
section
namespace Gus
open Go Go.RowKit Go.Proofs
theorem wfI64 {z:Int} (h:(Lit.int .i64 z).wf=true):-9223372036854775808≤z∧z<9223372036854775808:=by
 simp[Lit.wf,IntKind.min,IntKind.max,IntKind.signed,IntKind.bits] at h;omega
theorem qOf_sz64 {n d:Int} (hn0:-9223372036854775808≤n) (hn1:n<9223372036854775808) (hd0:0≤d) (hd1:d<4294967296):SzK 64 (qOf n d):=by
 have e:qOf n d=mkRat n (max d 1).toNat:=by
  rw[Rat.mkRat_eq_div]
  unfold qOf
  have h:((max d 1).toNat:Int)=max d 1:=by omega
  rw[←h];rfl
 rw[e]
 exact SzK.mk (by omega) (by omega) (by omega)
theorem mEl_sz64 {qs:List (Int×Int)} (h:QOk qs) (i:Nat):SzK 64 (mEl qs i):=by
 by_cases hi:i<qs.length
 ·have:=h (qs.getD i (0,0)) (by rw[List.getD_eq_getElem?_getD,List.getElem?_eq_getElem hi];exact List.getElem_mem _)
  exact qOf_sz64 this.1 this.2.1 this.2.2.1 this.2.2.2
 ·unfold mEl
  rw[List.getD_eq_getElem?_getD,List.getElem?_eq_none (by omega)]
  exact qOf_sz64 (by decide) (by decide) (by decide) (by decide)
end Gus
end
