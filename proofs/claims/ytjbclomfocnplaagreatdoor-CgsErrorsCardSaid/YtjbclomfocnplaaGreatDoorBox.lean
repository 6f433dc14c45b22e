import Derived.Test.YtjbclomfocnplaaGreatDoorNatM
import Derived.Deep.LoopGhost
/- Blocks known whole. -/
namespace Gus
open Go Go.RowKit Go.Proofs
/-- block b holds just these cells, none frozen -/
def Bx (w : World) (b : Nat) (T : TypeId) (cs : List Value) : Prop := w.heap[b]? = some (.cells cs.toArray T (0, 0))
section
variable {w w' : World} {b : Nat} {T : TypeId} {cs : List Value}
theorem Bx.cell (h : Bx w b T cs) (i : Nat) : w.cell? ⟨b, i, none⟩ = cs[i]? := by
  unfold World.cell?
  have h' : w.heap[b]? = _ := h
  simp [h']
theorem Bx.frozen (h : Bx w b T cs) (i : Nat) : w.frozen? ⟨b, i, none⟩ = false := frozen_of_row w b i _ _ h
theorem Bx.lt (h : Bx w b T cs) : b < w.heap.size := (Array.getElem?_eq_some_iff.1 h).1
theorem Bx.below {N : Nat} (h : Bx w b T cs) (hb : Below N w w') (hN : b < N) : Bx w' b T cs := by
  unfold Bx; rw [hb.block b hN]; exact h
theorem Bx.call (h : Bx w b T cs) (hb : Below w.heap.size w w') : Bx w' b T cs := h.below hb h.lt
theorem Bx.alloc (h : Bx w b T cs) (o : Obj) : Bx (w.alloc o) b T cs := (Below.heap_alloc w o b h.lt).trans h
theorem Bx.drew (h : Bx w b T cs) : Bx w.drew b T cs := h
theorem Bx.grown {row : Option Nat} (h : Bx w b T cs) (hg : w.grownBy w' row) (hr : some b ≠ row) : Bx w' b T cs := by
  unfold Bx; rw [hg.block b h.lt hr]; exact h
theorem Bx.set (h : Bx w b T cs) (i : Nat) (v : Value) : Bx (w.setCell ⟨b, i, none⟩ v) b T (cs.set i v) := by
  unfold Bx
  rw [heap_setCell_same w b i _ _ _ h]
  simp
theorem Bx.other {a : Addr} (h : Bx w b T cs) (hne : a.block ≠ b) (v : Value) : Bx (w.setCell a v) b T cs := by
  unfold Bx; rw [heap_setCell_other w a b v (Ne.symm hne)]; exact h
theorem Bx.new (w : World) (cs : Array Value) (T : TypeId) : Bx (w.alloc (.cells cs T (0, 0))) w.heap.size T cs.toList := by
  unfold Bx; exact heap_alloc_new w _
theorem Bx.new_at (w : World) (cs : Array Value) (T : TypeId) {n : Nat} (hn : n = w.heap.size) : Bx (w.alloc (.cells cs T (0, 0))) n T cs.toList := by
  subst hn; exact .new w cs T
theorem Bx.c0 {x0 : Value} {l : List Value} (h : Bx w b T (x0 :: l)) : w.cell? ⟨b, 0, none⟩ = some x0 := h.cell 0
theorem Bx.c1 {x0 x1 : Value} {l : List Value} (h : Bx w b T (x0 :: x1 :: l)) : w.cell? ⟨b, 1, none⟩ = some x1 := h.cell 1
theorem Bx.c2 {x0 x1 x2 : Value} {l : List Value} (h : Bx w b T (x0 :: x1 :: x2 :: l)) : w.cell? ⟨b, 2, none⟩ = some x2 := h.cell 2
theorem Bx.c3 {x0 x1 x2 x3 : Value} {l : List Value} (h : Bx w b T (x0 :: x1 :: x2 :: x3 :: l)) : w.cell? ⟨b, 3, none⟩ = some x3 := h.cell 3
theorem Bx.c4 {x0 x1 x2 x3 x4 : Value} {l : List Value} (h : Bx w b T (x0 :: x1 :: x2 :: x3 :: x4 :: l)) : w.cell? ⟨b, 4, none⟩ = some x4 := h.cell 4
theorem Bx.c5 {x0 x1 x2 x3 x4 x5 : Value} {l : List Value} (h : Bx w b T (x0 :: x1 :: x2 :: x3 :: x4 :: x5 :: l)) : w.cell? ⟨b, 5, none⟩ = some x5 := h.cell 5
theorem Bx.c6 {x0 x1 x2 x3 x4 x5 x6 : Value} {l : List Value} (h : Bx w b T (x0 :: x1 :: x2 :: x3 :: x4 :: x5 :: x6 :: l)) : w.cell? ⟨b, 6, none⟩ = some x6 := h.cell 6
theorem Bx.c7 {x0 x1 x2 x3 x4 x5 x6 x7 : Value} {l : List Value} (h : Bx w b T (x0 :: x1 :: x2 :: x3 :: x4 :: x5 :: x6 :: x7 :: l)) : w.cell? ⟨b, 7, none⟩ = some x7 := h.cell 7
end
/-- block b is a variable of type Nat that holds n -/
abbrev natB (w : World) (b : Nat) (n : Nat) : Prop := Bx w b 46 [.int .u64 (lo n), .string (bg n)]
theorem natB.set {w : World} {b n : Nat} (h : natB w b n) (m : Nat) : natB ((w.setCell ⟨b, 0, none⟩ (.int .u64 (lo m))).setCell ⟨b, 1, none⟩ (.string (bg m))) b m := (Bx.set h 0 (.int .u64 (lo m))).set 1 (.string (bg m))
theorem natB.of {w : World} {b n : Nat} (h : natB w b n) : natB w b n := h
theorem wd_mono {m n : Nat} (h : m ≤ n) : (wd m).length ≤ (wd n).length := by
  refine Decidable.by_contra fun hh => ?_
  have := lt_of_length (m := n) (n := m) (by omega)
  omega
end Gus
