/- Proved here: parts of the proof: Iva Rfu Rwa. Conditions: those that each theorem states. -/
import Derived.Test.YtjbclomfocnplaaGreatDoorSameR
import Derived.Test.YtjbclomfocnplaaGreatDoorShelfUR
import Derived.Test.YtjbclomfocnplaaGreatDoorShelfVR
section
/- What the functions of sparses answer for an invalid matrix. -/
namespace Gus
open Go Go.RowKit Go.Proofs
/-- a matrix that sparses.Check refuses with err, here and in every later world -/
def BadAt (w : World) (v : Value) (err : Int) : Prop := (∃ n m a l cap, v = .agg #[.int .i64 n, .int .i64 m, .slice a l cap]) ∧ (∀ W, Below w.heap.size w W → Calls Tryz.prog 37 #[v] W fun e w' => e = .returned (.int .i64 err) ∧ Below W.heap.size W w') ∧ err ≠ 0
theorem BadAt.call {w w' : World} {v : Value} {err : Int} (h : BadAt w v err) (hb : Below w.heap.size w w') : BadAt w' v err := ⟨h.1, fun W hW => h.2.1 W (hb.trans (hW.mono hb.size)), h.2.2⟩
set_option maxRecDepth 100000 in
set_option maxHeartbeats 2000000 in
theorem sturn_bad {w : World} {v : Value} {err : Int} (hbad : BadAt w v err) :
    Calls Tryz.prog 64 #[v] w fun e w' => e = .returned (.tuple #[zeroSp, .int .i64 err]) ∧ Below w.heap.size w w' := by
  obtain ⟨⟨n, m, a, l, cap, rfl⟩, hck, h0⟩ := hbad
  have hne : (err != 0) = true := by simpa using h0
  have heq : (err == 0) = false := by simpa using h0
  obtain ⟨X, hX⟩ : ∃ X, X = w.heap.size := ⟨_, rfl⟩
  have HX := Lib.hid hX
  go_enter Tryz.func64, Tryz.ntmps64
  go_wp2_with fail
  ((with_reducible refine (hck _ ?_).mono ?_))
  · exact (((In.self w).alloc _).alloc _).bel
  rintro e w2 ⟨rfl, hb⟩
  have hin := (((In.self w).alloc (.cells #[.int .i64 n, .int .i64 m, .slice a l cap] 30)).alloc (.cells #[.int .i64 0, .int .i64 0, .slice none 0 0] 30)).call hb
  have bq := (Bx.new_at (w.alloc (.cells #[.int .i64 n, .int .i64 m, .slice a l cap] 30)) #[.int .i64 0, .int .i64 0, .slice none 0 0] 30 (n := X + 1) (by simp [hX])).call hb
  have bx := hb
  rw [← hX]
  clear hX hck hb
  ((have r0 := bq.c0);
              (have r1 := bq.c1);
              (have r2 := bq.c2);
              (have f0 := bq.frozen 0);
              (have f1 := bq.frozen 1);
              (have f2 := bq.frozen 2);
              (have hrl := bq.lt);
              (have H1 := Lib.hid (((bq.set 0 (.int .i64 0)).set 1 (.int .i64 0)).set 2 (.slice none 0 0)));
              (have H2 := Lib.hid (((hin.setCell (p := ⟨(X + 1), 0, none⟩) (by have := HX.out; simp; omega) (.int .i64 0)).setCell (p := ⟨(X + 1), 1, none⟩) (by have := HX.out; simp; omega) (.int .i64 0)).setCell (p := ⟨(X + 1), 2, none⟩) (by have := HX.out; simp; omega) (.slice none 0 0)));
              (clear bq hin bx);
              (go_wp2_with fail);
              (have g1 := H1.out);
              (have g2 := H2.out);
              (clear H1 H2 r0 r1 r2 f0 f1 f2 hrl);
              (generalize ((w2.setCell ⟨(X + 1), 0, none⟩ (.int .i64 0)).setCell ⟨(X + 1), 1, none⟩ (.int .i64 0)).setCell ⟨(X + 1), 2, none⟩ (.slice none 0 0) = W5 at *);
              (have e0 : W5.cell? ⟨(X + 1), 0, none⟩ = some (.int .i64 0) := g1.cell 0);
              (have e1 : W5.cell? ⟨(X + 1), 1, none⟩ = some (.int .i64 0) := g1.cell 1);
              (have e2 : W5.cell? ⟨(X + 1), 2, none⟩ = some (.slice none 0 0) := g1.cell 2);
              (have hz := g2.bel);
              (refine bodyPost_ret (v := .tuple #[zeroSp, .int .i64 err]) ?_ rfl ⟨rfl, hz⟩);
              (simp [results, Tryz.results64, go_sem, e0, e1, e2]))
set_option maxRecDepth 100000 in
set_option maxHeartbeats 2000000 in
theorem ssymm_bad {w : World} {v : Value} {err : Int} (hbad : BadAt w v err) :
    Calls Tryz.prog 38 #[v] w fun e w' => e = .returned (.bool false) ∧ Below w.heap.size w w' := by
  have ht := fun W (hb : Below w.heap.size w W) => sturn_bad (hbad.call hb)
  obtain ⟨⟨n, m, a, l, cap, rfl⟩, _, h0⟩ := hbad
  have hne : (err != 0) = true := by simpa using h0
  have heq : (err == 0) = false := by simpa using h0
  go_enter Tryz.func38, Tryz.ntmps38
  go_wp2_with fail
  ((with_reducible refine (ht _ ?_).mono ?_))
  · exact ((In.self w).alloc _).bel
  rintro e w2 ⟨rfl, hb⟩
  have hin := (((In.self w).alloc (.cells #[.int .i64 n, .int .i64 m, .slice a l cap] 30)).call hb).alloc (.cells #[.int .i64 0, .int .i64 0, .slice none 0 0] 30)
  clear ht hb
  go_wp2_with fail
  go_ret
  exact ⟨rfl, hin.bel⟩
end Gus
end
section
/- Values of type Sparse as gussetlaw16.SparsesChecks builds them. -/
namespace Gus
open Go Go.RowKit Go.Proofs
/-- an entry of a statement's raw matrix: column, numerator, denominator -/
abbrev EQ := Int × Int × Int
def eI (x : EQ) : EntI := (x.1, qOf x.2.1 x.2.2)
def EOk (l : List EQ) : Prop := ∀ x ∈ l, -9223372036854775808 ≤ x.2.1 ∧ x.2.1 < 9223372036854775808 ∧ 0 ≤ x.2.2 ∧ x.2.2 < 4294967296
def EAt (w : World) (v : Value) (l : List EQ) : Prop := ∃ a cap, v = .slice a l.length cap ∧ ∀ k, k < l.length → ∃ b off, a = some ⟨b, off, none⟩ ∧ b < w.heap.size ∧ w.cell? ⟨b, off + k * 3, none⟩ = some (.int .i64 (l.getD k (0, 0, 0)).1) ∧ w.cell? ⟨b, off + k * 3 + 1, none⟩ = some (.int .i64 (l.getD k (0, 0, 0)).2.1) ∧ w.cell? ⟨b, off + k * 3 + 2, none⟩ = some (.int .u32 (l.getD k (0, 0, 0)).2.2)
def RawAt (w : World) (a : Option Addr) (es : List (List EQ)) : Prop := ∀ i, i < es.length → ∃ b off x, a = some ⟨b, off, none⟩ ∧ b < w.heap.size ∧ w.cell? ⟨b, off + i, none⟩ = some x ∧ EAt w x (es.getD i [])
/-- a finished row: entries in a block of its own -/
def RowF (w : World) (x : Value) (es : List EntI) : Prop := (x = .slice none 0 0 ∧ es = []) ∨ ∃ g cap cur, x = .slice (some ⟨g, 0, none⟩) es.length cap ∧ w.heap[g]? = some (.cells cur 87 (0, 0)) ∧ cur.toList.take (es.length * 6) = es.flatMap ecsI
theorem ecsI_length (e : EntI) : (ecsI e).length = 6 := rfl
theorem flatI_at : ∀ (es : List EntI) (i j : Nat), i < es.length → j < 6 → (es.flatMap ecsI)[i * 6 + j]? = (ecsI (es.getD i (0, 0)))[j]?
  | [], i, j, h, _ => absurd h (Nat.not_lt_zero _)
  | e :: es, 0, j, _, hj => by
    rw [List.flatMap_cons, Nat.zero_mul, Nat.zero_add, List.getElem?_append_left (by rw [ecsI_length]; exact hj)]; rfl
  | e :: es, i + 1, j, h, hj => by
    rw [List.flatMap_cons, List.getElem?_append_right (by rw [ecsI_length]; omega), ecsI_length, show (i + 1) * 6 + j - 6 = i * 6 + j by omega, flatI_at es i j (by simpa using h) hj]
    rfl
theorem RowF.own {w : World} {base : Nat} {v : Value} {es : List EntI} (h : w.ownsRow base 87 6 v es.length (es.flatMap ecsI)) : RowF w v es := by
  rcases h.2 with ⟨rfl, hn⟩ | ⟨g, cap, cur, rfl, _, hg, _, _, _, h4⟩
  · exact .inl ⟨rfl, List.length_eq_zero_iff.1 hn⟩
  · exact .inr ⟨g, cap, cur, rfl, hg, h4⟩
theorem RowF.of_block {w w' : World} {v : Value} {es : List EntI} (h : RowF w v es) (hb : ∀ (g : Nat) (cur : Array Value), w.heap[g]? = some (Obj.cells cur 87 (0, 0)) → w'.heap[g]? = w.heap[g]?) : RowF w' v es := by
  rcases h with h | ⟨g, cap, cur, rfl, hg, h4⟩
  · exact .inl h
  · exact .inr ⟨g, cap, cur, rfl, (hb g cur hg).trans hg, h4⟩
theorem RowF.call {w w' : World} {v : Value} {es : List EntI} (h : RowF w v es) (hb : Below w.heap.size w w') : RowF w' v es := h.of_block fun g _ hg => hb.block g (Array.getElem?_eq_some_iff.1 hg).1
theorem RowF.g {w : World} {v : Value} {es : List EntI} (h : RowF w v es) : RowG w v es := by
  rcases h with ⟨rfl, rfl⟩ | ⟨g, cap, cur, rfl, hg, h4⟩
  · exact ⟨none, 0, rfl, fun i hi => absurd hi (Nat.not_lt_zero _)⟩
  · refine ⟨some ⟨g, 0, none⟩, cap, rfl, fun i hi => ⟨g, 0, rfl, (Array.getElem?_eq_some_iff.1 hg).1, fun j hj => ?_⟩⟩
    rw [← flatI_at es i j hi hj, cell_of_row w g _ _ _ _ hg, ← h4, List.getElem?_take, if_pos (by omega), Array.getElem?_toList, Nat.zero_add]
theorem RowF.set {w : World} {v x : Value} {es : List EntI} {S : Nat} {cs : List Value} (h : RowF w v es) (hS : Bx w S 30 cs) (j : Nat) : RowF (w.setCell ⟨S, j, none⟩ x) v es := h.of_block fun g cur hg => heap_setCell_other w ⟨S, j, none⟩ g x (by
  show g ≠ S
  rintro rfl
  have h6 : w.heap[g]? = some (Obj.cells cs.toArray 30 (0, 0)) := hS
  rw [h6] at hg
  injection hg with h7
  injection h7 with _ h8
  exact absurd h8 (by decide))
/-- the rows so far -/
def OutF (w : World) (lo : Nat) (v : Value) (k : Nat) (es : List (List EQ)) : Prop := ∃ vs, w.ownsRow lo 79 1 v k vs ∧ ∀ i, i < k → RowF w (vs.getD i undef) ((es.getD i []).map eI)
theorem OutF.call {w w' : World} {lo k : Nat} {v : Value} {es : List (List EQ)} (h : OutF w lo v k es) (hb : Below w.heap.size w w') : OutF w' lo v k es := by
  obtain ⟨vs, h1, h2⟩ := h
  exact ⟨vs, h1.kept (row := none) ⟨hb.os, hb.tape, hb.output, hb.size, fun k hk _ => hb.block k hk⟩ (by cases v.ownBlock <;> simp), fun i hi => (h2 i hi).call hb⟩
theorem OutF.snoc {w w' : World} {lo k : Nat} {v v' x : Value} {es : List (List EQ)} {vs : List Value} (h1 : w.ownsRow lo 79 1 v k vs) (h2 : ∀ i, i < k → RowF w (vs.getD i undef) ((es.getD i []).map eI)) (hx : RowF w x ((es.getD k []).map eI))
    (hown : w'.ownsRow lo 79 1 v' (k + 1) (vs ++ [x])) (hg : w.grownBy w' v.ownBlock) : OutF w' lo v' (k + 1) es := by
  have hvl : vs.length = k := by have := h1.1; omega
  have keep : ∀ y l, RowF w y l → RowF w' y l := fun y l hy => hy.of_block fun g cur hgc => hg.block g (Array.getElem?_eq_some_iff.1 hgc).1 (fun e => by
    rcases h1.2 with ⟨rfl, _⟩ | ⟨g2, cap2, cur2, rfl, _, hg2, _⟩
    · simp [Value.ownBlock] at e
    · simp [Value.ownBlock] at e
      subst e
      rw [hgc] at hg2
      injection hg2 with h7
      injection h7 with _ h8
      exact absurd h8 (by decide))
  refine ⟨_, hown, fun i hi => ?_⟩
  by_cases hik : i < k
  · rw [List.getD_eq_getElem?_getD, List.getElem?_append_left (by omega), ← List.getD_eq_getElem?_getD]
    exact keep _ _ (h2 i hik)
  · obtain rfl : i = k := by omega
    rw [List.getD_eq_getElem?_getD, List.getElem?_append_right (by omega), hvl, Nat.sub_self]
    exact keep _ _ hx
theorem OutF.spG {w : World} {lo : Nat} {v : Value} {n m : Int} {es : List (List EQ)} (h : OutF w lo v es.length es) (hL : es.length ≤ maxLen) : SpG w (.agg #[.int .i64 n, .int .i64 m, v]) n m (es.map fun l => l.map eI) := by
  obtain ⟨vs, h1, h2⟩ := h
  rcases h1.2 with ⟨rfl, hn⟩ | ⟨g, cap, cur, rfl, _, hg, hnc, _, _, h4⟩
  · have : es = [] := List.length_eq_zero_iff.1 hn
    subst this
    exact ⟨none, 0, rfl, fun i hi => absurd hi (Nat.not_lt_zero _)⟩
  · refine ⟨some ⟨g, 0, none⟩, cap, by rw [List.length_map], fun i hi => ?_⟩
    rw [List.length_map] at hi
    have hvl : vs.length = es.length := by have := h1.1; omega
    refine ⟨g, 0, vs.getD i undef, rfl, (Array.getElem?_eq_some_iff.1 hg).1, ?_, ?_⟩
    · rw [cell_of_row w g _ _ _ _ hg, Nat.zero_add]
      have h5 : (cur.toList.take (es.length * 1))[i]? = vs[i]? := by rw [h4]
      rw [List.getElem?_take, if_pos (by omega), Array.getElem?_toList] at h5
      rw [h5, List.getD_eq_getElem?_getD, List.getElem?_eq_getElem (by omega)]; rfl
    · have e : (es.map fun l => l.map eI).getD i [] = (es.getD i []).map eI := by
        simp only [List.getD_eq_getElem?_getD, List.getElem?_map, List.getElem?_eq_getElem hi]; rfl
      rw [e]; exact (h2 i hi).g
theorem OutF.setS {w : World} {lo S k : Nat} {v x : Value} {es : List (List EQ)} {cs : List Value} (h : OutF w lo v k es) (hS : Bx w S 30 cs) (hlo : S < lo) (j : Nat) : OutF (w.setCell ⟨S, j, none⟩ x) lo v k es := by
  obtain ⟨vs, h1, h2⟩ := h
  exact ⟨vs, ownsRow_setCell_low h1 (a := ⟨S, j, none⟩) hlo x, fun i hi => (h2 i hi).set hS j⟩
theorem OutF.start (w : World) (lo : Nat) (es : List (List EQ)) : OutF w lo (.slice none 0 0) 0 es := ⟨[], World.ownsRow_nil _ _ _ _, fun _ hi => absurd hi (Nat.not_lt_zero _)⟩
theorem OutF.shape {w : World} {lo k : Nat} {v : Value} {es : List (List EQ)} (h : OutF w lo v k es) : ∃ a c, v = .slice a k c := by
  obtain ⟨vs, h1, _⟩ := h
  rcases h1.2 with ⟨rfl, hn⟩ | ⟨g, c, _, rfl, _⟩
  · exact ⟨none, 0, by rw [hn]⟩
  · exact ⟨_, _, rfl⟩
theorem SpG.bad {w : World} {v : Value} {n m : Int} {rows : List (List EntI)} (h : SpG w v n m rows) (hr : rows.length ≤ 4096) (hl : ∀ i, (rows.getD i []).length ≤ 4096) {err : Int} (he : checkS n m rows = err) (h0 : err ≠ 0) : BadAt w v err :=
  ⟨by obtain ⟨a, cap, rfl, _⟩ := h; exact ⟨_, _, _, _, _, rfl⟩, fun W hb => by subst he; exact scheck_any W v n m rows (h.call hb) hr hl, h0⟩
theorem getD_map_eI (es : List (List EQ)) (i : Nat) : (es.map fun l => l.map eI).getD i [] = (es.getD i []).map eI := by
  simp only [List.getD_eq_getElem?_getD, List.getElem?_map]
  cases es[i]? <;> rfl
end Gus
end
