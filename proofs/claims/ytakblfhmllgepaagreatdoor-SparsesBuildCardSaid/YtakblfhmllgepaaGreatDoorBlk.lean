import Derived.Test.YtakblfhmllgepaaGreatDoorEnc
/- Rows of 32-bit words in memory. -/
namespace Gus
open Go Go.RowKit Go.Proofs

def u32v (d : Nat) : Value := .int .u32 (d : Int)
/-- block b is a row of words -/
def Blk (w : World) (b : Nat) (xs : List Nat) : Prop := w.heap[b]? = some (.cells (xs.map u32v).toArray 33 (0, 0))
section
variable {w w' : World} {b : Nat} {xs : List Nat}
theorem Blk.cell (h : Blk w b xs) {i : Nat} (hi : i < xs.length) : w.cell? ⟨b, i, none⟩ = some (.int .u32 ((xs.getD i 0 : Nat) : Int)) := by
  rw [cell_of_row w b i _ _ _ h]
  simp [u32v, hi]
theorem Blk.frozen (h : Blk w b xs) (i : Nat) : w.frozen? ⟨b, i, none⟩ = false := frozen_of_row w b i _ _ h
theorem Blk.set (h : Blk w b xs) (i d : Nat) : Blk (w.setCell ⟨b, i, none⟩ (.int .u32 (d : Int))) b (xs.set i d) := by
  unfold Blk
  rw [heap_setCell_same w b i _ _ _ h]
  have e : ((xs.map u32v).toArray.setIfInBounds i (.int .u32 (d : Int))) = ((xs.set i d).map u32v).toArray := by
    rw [List.map_set]; simp [u32v]
  rw [e]
theorem Blk.other {a : Addr} (h : Blk w b xs) (hne : a.block ≠ b) (v : Value) : Blk (w.setCell a v) b xs := by
  unfold Blk; rw [heap_setCell_other w a b v (Ne.symm hne)]; exact h
theorem Blk.lt (h : Blk w b xs) : b < w.heap.size := (Array.getElem?_eq_some_iff.1 h).1
theorem Blk.below {N : Nat} (h : Blk w b xs) (hb : Below N w w') (hN : b < N) : Blk w' b xs := by
  unfold Blk; rw [hb.block b hN]; exact h
theorem Blk.call (h : Blk w b xs) (hb : Below w.heap.size w w') : Blk w' b xs := h.below hb h.lt
theorem Blk.alloc (h : Blk w b xs) (o : Obj) : Blk (w.alloc o) b xs := by
  exact (Below.heap_alloc w o b h.lt).trans h
theorem Blk.drew (h : Blk w b xs) : Blk w.drew b xs := h
theorem Blk.grown {row : Option Nat} (h : Blk w b xs) (hg : w.grownBy w' row) (hr : some b ≠ row) : Blk w' b xs := by
  unfold Blk; rw [hg.block b h.lt hr]; exact h
theorem Blk.new (w : World) (cs : Array Value) (hc : cs = (xs.map u32v).toArray) : Blk (w.alloc (.cells cs 33 (0, 0))) w.heap.size xs := by
  unfold Blk; subst hc; exact heap_alloc_new w _
end
/-- stripping the leading zero words, by number -/
theorem val_take_of_zero : ∀ (l : List Nat) (k : Nat), (∀ i, k ≤ i → i < l.length → l.getD i 0 = 0) → val (l.take k) = val l
  | [], k, _ => by simp
  | d :: l, 0, h => by
    have h0 := h 0 (Nat.le_refl _) (by simp)
    have := val_take_of_zero l 0 (fun i _ hi => by have := h (i + 1) (by omega) (by simp; omega); simpa using this)
    simp [val] at *; omega
  | d :: l, k + 1, h => by
    have := val_take_of_zero l k (fun i hk hi => by have := h (i + 1) (by omega) (by simp; omega); simpa using this)
    simp only [List.take_succ_cons, val, this]
theorem nrm_take {l : List Nat} {k : Nat} (hk : k ≤ l.length) (h : k = 0 ∨ l.getD (k - 1) 0 ≠ 0) : Nrm (l.take k) := by
  cases k with
  | zero => exact trivial
  | succ k =>
    rw [List.take_succ_eq_append_getElem (by omega), Nrm.snoc]
    rcases h with h | h
    · omega
    · simpa [show k < l.length by omega] using h
theorem Digs.take {l : List Nat} (h : Digs l) (k : Nat) : Digs (l.take k) := fun x hx => h x (List.mem_of_mem_take hx)
theorem Digs.drop {l : List Nat} (h : Digs l) (k : Nat) : Digs (l.drop k) := fun x hx => h x (List.mem_of_mem_drop hx)
theorem Digs.getD {l : List Nat} (h : Digs l) (i : Nat) : l.getD i 0 < 4294967296 := by
  rcases Nat.lt_or_ge i l.length with hi | hi
  · have := h l[i] (List.getElem_mem hi); simpa [hi] using this
  · simp [hi]
theorem Digs.set {l : List Nat} (h : Digs l) (i d : Nat) (hd : d < 4294967296) : Digs (l.set i d) := by
  intro x hx
  rcases List.mem_or_eq_of_mem_set hx with h1 | h1
  · exact h x h1
  · exact h1 ▸ hd
end Gus
namespace Gus
open Go Go.RowKit Go.Proofs
def zrow (L : Nat) : Array Value := ((List.replicate L 0).map u32v).toArray
theorem info_u32 : (Tryz.prog.info? 33).map (fun i => (i.zero, i.size, i.bytes)) = some (some (.int .u32 0), 1, 4) := by kernel_rfl
theorem made_u32 (L : Nat) : madeCells #[Value.int .u32 0] L = zrow L := by
  apply Array.toList_inj.1
  rw [toList_madeCells_one, zrow]
  simp [u32v]
theorem mk_u32 (L : Nat) (hL : L ≤ 17592186044416) (w : World) : (Instr.makeSlice 170 (.int .i64 (L : Int)) (.int .i64 (L : Int))).run Tryz.prog w =
    .ok (.slice (some ⟨w.heap.size, 0, none⟩) L L) (w.alloc (.cells (zrow L) 33)) := by
  obtain ⟨i0, hi, hz0, hz1, hz2⟩ := info_parts info_u32
  have := run_make (P := Tryz.prog) w 170 33 i0 (.int .u32 0) Tryz.underlying170 hi hz0 .i64 .i64 L L (by omega) (Int.le_refl _) (by rw [hz2]; omega) (by omega)
  rw [this]
  simp only [Int.toNat_natCast, hz1, Nat.mul_one]
  rw [← made_u32]; rfl
theorem Blk.made (w : World) (L : Nat) : Blk (w.alloc (.cells (zrow L) 33)) w.heap.size (List.replicate L 0) := Blk.new w _ rfl
end Gus
