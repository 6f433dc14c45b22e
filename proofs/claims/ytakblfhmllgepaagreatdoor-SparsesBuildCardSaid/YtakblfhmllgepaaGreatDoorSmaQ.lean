/- Proved here: parts of the proof: Sma Arg Mak. Conditions: those that each theorem states. -/
import Derived.Test.YtakblfhmllgepaaGreatDoorMsmQ
import Derived.Test.YtakblfhmllgepaaGreatDoorCntQ
import Derived.Deep.SlicePairs
import Derived.Carry
section
/- gussetlaw16.SparsesSame. -/
namespace Gus
open Go Go.RowKit Go.Proofs
section
variable {P : Program} {ops : Array Oper} {w0 : World} {A : (Nat → Value) → Act} {T : Act → World → Prop} {i : Nat} {o : Oper} {os : List Oper} {V : Nat → (Nat → Value) → Value → World → Prop} {Φ : Nat → Bool}
/-- a guarded operation that runs, of whose value a relation is known -/
theorem flow_relg {Vi : Value → World → Prop} {j : Nat} {b : Bool} (hg : o.guard = some (j, b)) (hy : ∀ u w, St w0 w → depH V u w o.after.toList → yielded ops (A u).tmps j = some b) (hs : Stable Vi) (h : ∀ u w, St w0 w → depH V u w o.after.toList → okUpon P (Fresh false Vi w) w ((execOp (A u).eval o).run P w))
    (k : flow P ops w0 A T (i + 1) os (ext V i Vi) (extB Φ i false)) : flow P ops w0 A T i (o :: os) V Φ :=
  ⟨fun _ => _, false, fun _ => hs, fun _ => placed_false _, local_const _ _, fun u w hw hd => by
    unfold okOp
    rw [if_pos (by unfold Region.wanted; rw [hg]; simp [hy u w hw hd])]
    exact h u w hw hd, fun h0 => absurd h0 (by unfold fl; rw [hg]; simp), k⟩
end
theorem QAt.call {w w' : World} {a : Option Addr} {qs : List (Int × Int)} (h : QAt w a qs) (hb : Below w.heap.size w w') : QAt w' a qs := fun i hi => by
  obtain ⟨b, off, h1, h2, h3, h4⟩ := h i hi
  exact ⟨b, off, h1, Nat.lt_of_lt_of_le h2 hb.size, by rw [hb.cell (p := ⟨b, _, none⟩) h2]; exact h3, by rw [hb.cell (p := ⟨b, _, none⟩) h2]; exact h4⟩
/-- a row of fractions, with room behind them -/
def VRow (w : World) (g : Nat) (qs : List Rat) : Prop := ∃ rest, Bx w g 56 (fcl qs ++ rest)
theorem VRow.call {w w' : World} {g : Nat} {qs : List Rat} (h : VRow w g qs) (hb : Below w.heap.size w w') : VRow w' g qs := let ⟨r, h⟩ := h; ⟨r, h.call hb⟩
theorem VRow.own {w : World} {base n : Nat} {v : Value} {qs : List Rat} (h : w.ownsRow base 56 5 v n (fcl qs)) (hn : 0 < n) : ∃ g cap, v = .slice (some ⟨g, 0, none⟩) n cap ∧ base ≤ g ∧ VRow w g qs := by
  rcases h.2 with ⟨_, h0⟩ | ⟨g, cap, cur, rfl, hb, hg, _, _, _, ht⟩
  · omega
  · refine ⟨g, cap, rfl, hb, cur.toList.drop (n * 5), ?_⟩
    unfold Bx
    rw [← ht, List.take_append_drop, hg]
theorem VRow.other {w : World} {g : Nat} {qs : List Rat} {a : Addr} (h : VRow w g qs) (hne : a.block ≠ g) (u : Value) : VRow (w.setCell a u) g qs := let ⟨r, h⟩ := h; ⟨r, h.other hne u⟩
theorem fcl_at_app (qs : List Rat) (rest : List Value) {i j : Nat} (hi : i < qs.length) (hj : j < 5) : (fcl qs ++ rest)[i * 5 + j]? = (fcs (qs.getD i 0))[j]? := by
  rw [List.getElem?_append_left (by rw [fcl_length]; omega), fcl_at qs i j hi hj]
theorem VRow.at {w : World} {g : Nat} {qs : List Rat} (h : VRow w g qs) (n : Nat) (hn : n = qs.length) (cap : Nat) : VecAt w (.slice (some ⟨g, 0, none⟩) n cap) qs := by
  subst hn
  obtain ⟨rest, h⟩ := h
  exact ⟨_, _, rfl, fun i hi => ⟨g, 0, rfl, h.lt, fun j hj => by rw [h.cell, Nat.zero_add, fcl_at_app qs rest hi hj], _, _, h⟩⟩
theorem VRow.cells {w : World} {g : Nat} {qs : List Rat} (h : VRow w g qs) {i : Nat} (hi : i < qs.length) : ∃ A1 A2 A3 A4 A5, fracV (qs.getD i 0) = .agg #[.int .u64 A1, .string A2, .bool A3, .int .u64 A4, .string A5] ∧
    w.cell? ⟨g, i * 5, none⟩ = some (.int .u64 A1) ∧ w.cell? ⟨g, i * 5 + 1, none⟩ = some (.string A2) ∧ w.cell? ⟨g, i * 5 + 2, none⟩ = some (.bool A3) ∧ w.cell? ⟨g, i * 5 + 3, none⟩ = some (.int .u64 A4) ∧ w.cell? ⟨g, i * 5 + 4, none⟩ = some (.string A5) ∧
    w.frozen? ⟨g, i * 5, none⟩ = false ∧ w.frozen? ⟨g, i * 5 + 1, none⟩ = false ∧ w.frozen? ⟨g, i * 5 + 2, none⟩ = false ∧ w.frozen? ⟨g, i * 5 + 3, none⟩ = false ∧ w.frozen? ⟨g, i * 5 + 4, none⟩ = false := by
  obtain ⟨rest, h⟩ := h
  have hc := fun j hj => (h.cell (i * 5 + j)).trans (fcl_at_app qs rest hi hj)
  exact ⟨_, _, _, _, _, rfl, hc 0 (by decide), hc 1 (by decide), hc 2 (by decide), hc 3 (by decide), hc 4 (by decide), h.frozen _, h.frozen _, h.frozen _, h.frozen _, h.frozen _⟩
theorem VecAt.all {w : World} {n k : Nat} {a : Addr} {qs : List Rat} (h : VecAt w (.slice (some a) n k) qs) (j : Nat) (u : Value) (hj : (fcl qs)[j]? = some u) : w.cell? (a.add j) = some u := by
  obtain ⟨a', cap, h1, h2⟩ := h
  injection h1 with e1
  subst e1
  have hlt : j < qs.length * 5 := by
    have := (List.getElem?_eq_some_iff.1 hj).1
    rw [fcl_length] at this; exact this
  obtain ⟨b, off, h3, _, h5⟩ := h2 (j / 5) (by omega)
  injection h3 with h3
  subst h3
  have h6 := h5 (j % 5) (by omega)
  rw [← fcl_at qs (j / 5) (j % 5) (by omega) (by omega), show j / 5 * 5 + j % 5 = j by omega, hj, show off + j / 5 * 5 + j % 5 = off + j by omega] at h6
  rw [Addr.add_lit]
  exact h6
theorem MatAt.other {w : World} {ab ao L k r c g : Nat} {p q : Value} {qs : List Rat} (h : MatAt w (.agg #[p, q, .slice (some ⟨ab, ao, none⟩) L k]) r c qs) (hne : g ≠ ab) (j : Nat) (u : Value) : MatAt (w.setCell ⟨g, j, none⟩ u) (.agg #[p, q, .slice (some ⟨ab, ao, none⟩) L k]) r c qs := by
  obtain ⟨x, h1, h2, h3⟩ := h
  have h5 := h1
  simp only [Value.agg.injEq] at h1
  have h4 := congrArg Array.toList h1
  simp only [List.cons.injEq, and_true] at h4
  obtain ⟨a, cap, e1, e2⟩ := h3
  refine ⟨x, h5, h2, a, cap, e1, fun i hi => ?_⟩
  obtain ⟨b, off, e3, e4, e5⟩ := e2 i hi
  rw [← h4.2.2] at e1
  simp only [Value.slice.injEq] at e1
  obtain ⟨e1, _⟩ := e1
  rw [e3] at e1
  simp only [Option.some.injEq, Addr.mk.injEq, and_true] at e1
  exact ⟨b, off, e3, by rw [World.size_setCell]; exact e4, fun j' hj => by rw [World.cell?_setCell_other _ _ _ _ (by intro e; injection e with e6 e7; exact hne (e6.trans e1.1.symm))]; exact e5 j' hj, by rw [heap_setCell_other w ⟨g, j, none⟩ b u (show b ≠ g from fun e => hne (e.symm.trans e1.1.symm))]; exact e5.typed⟩
theorem stable_spm (r c : Nat) (f : Nat → Nat → Rat) : Stable (fun x w => SpM w x r c f) := fun _ _ _ h hs => h.call hs
theorem MatAt.len {w : World} {p q : Value} {a : Option Addr} {L k r c : Nat} {qs : List Rat} (h : MatAt w (.agg #[p, q, .slice a L k]) r c qs) : L = r * c := by
  obtain ⟨x, h1, h2, h3⟩ := h
  obtain ⟨a', k', rfl⟩ := h3.shape
  simp only [Value.agg.injEq] at h1
  have h4 := congrArg Array.toList h1
  simp only [List.cons.injEq, Value.slice.injEq, and_true] at h4
  omega
end Gus
end
section
/- Arguments of the laws as they are read: fractions, slices of fractions, matrices; they read as before where nothing has turned. -/
namespace Gus
open Go Go.RowKit Go.Proofs Go.ChangeShapes Go.WideShapes Go.ChangeAt Go.Deep
section
variable {H : Type} {enc : TypeId × Value → H} {W : World} {base : Nat} {sp : Nat → Bool} {held : Bool}
theorem laidOut : laidOutB Tryz.prog = true := by kernel_rfl
theorem args_stay {W' : World} {sp' : Nat → Bool} (hb : Below W.heap.size W W') : ∀ {ts : List TypeId} {vs : List Value} {ds : List (DataW H)} {p : List MemPlace}, (∀ t ∈ ts, Tryz.prog.readableRec t = true ∧ t < Tryz.prog.types.size) → DataW.TrodAll enc Tryz.prog W 0 (fun _ => true) true ts vs ds p → (∀ x ∈ p, x.block < W.heap.size) → (∀ x ∈ p, sp' x.block = true) → DataW.TrodAll enc Tryz.prog W' 0 sp' true ts vs ds p
  | [], _, _, _, _, h, _, _ => by
    obtain ⟨rfl, rfl, rfl⟩ := trodAll_nil h
    exact trodAll_mk0
  | t :: ts, _, _, _, hts, h, hlt, hsp => by
    obtain ⟨v, vs, d, ds, p, q, rfl, rfl, rfl, h0, h1⟩ := trodAll_cons h
    exact trodAll_cons_mk (WideElems.Trod_stays laidOut (hts t (.head _)).1 (hts t (.head _)).2 h0 (fun x hx => hb.same (hlt x (List.mem_append.2 (.inl hx)))) (fun x hx => hsp x (List.mem_append.2 (.inl hx))))
      (args_stay hb (fun t ht => hts t (List.mem_cons_of_mem _ ht)) h1 (fun x hx => hlt x (List.mem_append.2 (.inr hx))) (fun x hx => hsp x (List.mem_append.2 (.inr hx))))
theorem cell_in {w : World} {a : Addr} {v : Value} (h : w.cell? a = some v) : a.block < w.heap.size := by
  rcases Nat.lt_or_ge a.block w.heap.size with h1 | h1
  · exact h1
  · have : w.heap[a.block]? = none := by simp [h1]
    simp [World.cell?, this] at h
end
end Gus
end
section
/- mats: at, row, Make. -/
namespace Gus
open Go Go.RowKit Go.Proofs
/-- a dense matrix in a block of its own -/
def MatS (w : World) (v : Value) (r c : Nat) (F : Nat → Nat → Rat) : Prop := ∃ g n, n = r * c ∧ v = .agg #[.int .i64 r, .int .i64 c, .slice (some ⟨g, 0, none⟩) n n] ∧ VBx w g (dense r c F)
theorem MatS.mat {w : World} {v : Value} {r c : Nat} {F : Nat → Nat → Rat} (h : MatS w v r c F) : MatAt w v r c (dense r c F) := by
  obtain ⟨g, n, hn, rfl, hb⟩ := h
  exact ⟨_, rfl, dense_length r c F, hb.at n (by rw [dense_length, hn]) n⟩
theorem MatS.cap {w : World} {v : Value} {r c : Nat} {F : Nat → Nat → Rat} (h : MatS w v r c F) : CapOk v := by
  obtain ⟨g, n, _, rfl, _⟩ := h
  exact ⟨_, _, _, n, n, rfl, Nat.le_refl _⟩
theorem MatS.call {w w' : World} {v : Value} {r c : Nat} {F : Nat → Nat → Rat} (h : MatS w v r c F) (hb : Below w.heap.size w w') : MatS w' v r c F := by
  obtain ⟨g, n, hn, rfl, h1⟩ := h
  exact ⟨g, n, hn, rfl, h1.call hb⟩
theorem MatS.shape {w : World} {v : Value} {r c : Nat} {F : Nat → Nat → Rat} (h : MatS w v r c F) : ∃ a n k, n = r * c ∧ v = .agg #[.int .i64 r, .int .i64 c, .slice a n k] := by
  obtain ⟨g, n, hn, rfl, _⟩ := h
  exact ⟨_, n, n, hn, rfl⟩
end Gus
end
