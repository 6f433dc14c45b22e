import Derived.Test.YtjbclomfocnplaaGreatDoorReg
/- Guarded operations of a drawn region. -/
namespace Gus
open Go Go.RowKit
theorem wpQuiet_run0 {P : Program} {C : World → Prop} {ops : Array Oper} {Q : Act → Prop} {a : Act} {o : Oper} {rest : List Oper} {v : Value} (hg : o.guard = none)
    (h : ∀ w, C w → o.quietAt P a C w v) (hk : wpQuiet P ops C Q rest (a.put o.dst v)) : wpQuiet P ops C Q (o :: rest) a :=
  wpQuiet_run (by unfold Region.wanted; rw [hg]) h hk
theorem wpQuiet_rung {P : Program} {C : World → Prop} {ops : Array Oper} {Q : Act → Prop} {a : Act} {o : Oper} {rest : List Oper} {v : Value} {j : Nat} {b : Bool} (hg : o.guard = some (j, b)) (hy : yielded ops a.tmps j = some b)
    (h : ∀ w, C w → o.quietAt P a C w v) (hk : wpQuiet P ops C Q rest (a.put o.dst v)) : wpQuiet P ops C Q (o :: rest) a :=
  wpQuiet_run (by unfold Region.wanted; rw [hg]; simp [hy]) h hk
theorem wpQuiet_skipg {P : Program} {C : World → Prop} {ops : Array Oper} {Q : Act → Prop} {a : Act} {o : Oper} {rest : List Oper} {j : Nat} {b : Bool} (hg : o.guard = some (j, b)) (hy : yielded ops a.tmps j = some (!b))
    (hk : wpQuiet P ops C Q rest (a.put o.dst undef)) : wpQuiet P ops C Q (o :: rest) a :=
  wpQuiet_skip (by unfold Region.wanted; rw [hg]; cases b <;> simp [hy]) hk
end Gus
