/- Proved: whatever the raw matrix, gussetlaw16.SparsesChecks returns true, and the arguments read as before. Conditions: the three listed tables hold what the program's text lays (the card ties them). -/
import Derived.Test.YtjiobckoldnonaaGreatDoorMtxQ
import Derived.Test.YtjiobckoldnonaaGreatDoorSameQ
import Derived.Test.YtjiobckoldnonaaGreatDoorVecQ
import Derived.Test.YtjiobckoldnonaaGreatDoorShelfVQ
import Derived.Test.YtjiobckoldnonaaGreatDoorRows
import Derived.Test.YtjiobckoldnonaaGreatDoorTie
import Derived.Test.YtjiobckoldnonaaGreatDoorCards
import Derived.WalkKit
import Derived.ProofKit
import Derived.OpenShut
import Derived.SevenTiedAt
import Derived.Below
import Derived.ChangeSame
import Derived.LaidLaws
import Derived.Lib.LaidTab
import Derived.Deep.DeepHandedRow
import Derived.Deep.SlicePairs
import Derived.Carry
import Derived.Deep.Slices
import Derived.Deep.Strs
section
/- sparses.At, mats.At. -/
namespace Gus
open Go Go.RowKit Go.Proofs
abbrev zeroFr : Value := .agg #[.int .u64 0, .string ⟨#[]⟩, .bool false, .int .u64 0, .string ⟨#[]⟩]
end Gus
end
section
/- sparses.Items. -/
namespace Gus
open Go Go.RowKit Go.Proofs
theorem ownsRow_below {w w' : World} {base : Nat} {e : TypeId} {size : Nat} {v : Value} {n : Nat} {xs : List Value} (h : w.ownsRow base e size v n xs) (hb : Below w.heap.size w w') : w'.ownsRow base e size v n xs :=
  h.kept (row := none) ⟨hb.os, hb.tape, hb.output, hb.size, fun k hk _ => hb.block k hk⟩ (by cases v.ownBlock <;> simp)
end Gus
end
section
/- What the functions of sparses answer for an invalid matrix. -/
namespace Gus
open Go Go.RowKit Go.Proofs
/-- a matrix that sparses.Check refuses with err, here and in every later world -/
def BadAt (w : World) (v : Value) (err : Int) : Prop := (∃ n m a l cap, v = .agg #[.int .i64 n, .int .i64 m, .slice a l cap]) ∧ (∀ W, Below w.heap.size w W → Calls Tryz.prog 19 #[v] W fun e w' => e = .returned (.int .i64 err) ∧ Below W.heap.size W w') ∧ err ≠ 0
theorem BadAt.call {w w' : World} {v : Value} {err : Int} (h : BadAt w v err) (hb : Below w.heap.size w w') : BadAt w' v err := ⟨h.1, fun W hW => h.2.1 W (hb.trans (hW.mono hb.size)), h.2.2⟩
set_option maxRecDepth 100000 in
set_option maxHeartbeats 2000000 in
theorem sturn_bad {w : World} {v : Value} {err : Int} (hbad : BadAt w v err) :
    Calls Tryz.prog 48 #[v] w fun e w' => e = .returned (.tuple #[zeroSp, .int .i64 err]) ∧ Below w.heap.size w w' := by
  obtain ⟨⟨n, m, a, l, cap, rfl⟩, hck, h0⟩ := hbad
  have hne : (err != 0) = true := by simpa using h0
  have heq : (err == 0) = false := by simpa using h0
  obtain ⟨X, hX⟩ : ∃ X, X = w.heap.size := ⟨_, rfl⟩
  have HX := Lib.hid hX
  go_enter Tryz.func48, Tryz.ntmps48
  go_wp2_with fail
  ((with_reducible refine (hck _ ?_).mono ?_))
  · exact (((In.self w).alloc _).alloc _).bel
  rintro e w2 ⟨rfl, hb⟩
  have hin := (((In.self w).alloc (.cells #[.int .i64 n, .int .i64 m, .slice a l cap] 63)).alloc (.cells #[.int .i64 0, .int .i64 0, .slice none 0 0] 63)).call hb
  have bq := (Bx.new_at (w.alloc (.cells #[.int .i64 n, .int .i64 m, .slice a l cap] 63)) #[.int .i64 0, .int .i64 0, .slice none 0 0] 63 (n := X + 1) (by simp [hX])).call hb
  have bx := hb
  rw [← hX]
  clear hX hck hb
  ((have r0 := bq.c0);
              (have r1 := bq.c1);
              (have r2 := bq.c2);
              (have f0 := bq.frozen 0);
              (have f1 := bq.frozen 1);
              (have f2 := bq.frozen 2);
              (have hrl := bq.lt);
              (have H1 := Lib.hid (((bq.set 0 (.int .i64 0)).set 1 (.int .i64 0)).set 2 (.slice none 0 0)));
              (have H2 := Lib.hid (((hin.setCell (p := ⟨(X + 1), 0, none⟩) (by have := HX.out; simp; omega) (.int .i64 0)).setCell (p := ⟨(X + 1), 1, none⟩) (by have := HX.out; simp; omega) (.int .i64 0)).setCell (p := ⟨(X + 1), 2, none⟩) (by have := HX.out; simp; omega) (.slice none 0 0)));
              (clear bq hin bx);
              (go_wp2_with fail);
              (have g1 := H1.out);
              (have g2 := H2.out);
              (clear H1 H2 r0 r1 r2 f0 f1 f2 hrl);
              (generalize ((w2.setCell ⟨(X + 1), 0, none⟩ (.int .i64 0)).setCell ⟨(X + 1), 1, none⟩ (.int .i64 0)).setCell ⟨(X + 1), 2, none⟩ (.slice none 0 0) = W5 at *);
              (have e0 : W5.cell? ⟨(X + 1), 0, none⟩ = some (.int .i64 0) := g1.cell 0);
              (have e1 : W5.cell? ⟨(X + 1), 1, none⟩ = some (.int .i64 0) := g1.cell 1);
              (have e2 : W5.cell? ⟨(X + 1), 2, none⟩ = some (.slice none 0 0) := g1.cell 2);
              (have hz := g2.bel);
              (refine bodyPost_ret (v := .tuple #[zeroSp, .int .i64 err]) ?_ rfl ⟨rfl, hz⟩);
              (simp [results, Tryz.results48, go_sem, e0, e1, e2]))
set_option maxRecDepth 100000 in
set_option maxHeartbeats 2000000 in
theorem sscale_bad {w : World} {v : Value} {err : Int} (hbad : BadAt w v err) (q : Rat) :
    Calls Tryz.prog 50 #[fracV q, v] w fun e w' => e = .returned (.tuple #[zeroSp, .int .i64 err]) ∧ Below w.heap.size w w' := by
  obtain ⟨⟨n, m, a, l, cap, rfl⟩, hck, h0⟩ := hbad
  have hne : (err != 0) = true := by simpa using h0
  have heq : (err == 0) = false := by simpa using h0
  obtain ⟨C1, C2, C3, C4, C5, hc1⟩ : ∃ A1 A2 A3 A4 A5, fracV q = .agg #[.int .u64 A1, .string A2, .bool A3, .int .u64 A4, .string A5] := ⟨_, _, _, _, _, rfl⟩
  rw [hc1]
  clear hc1
  obtain ⟨X, hX⟩ : ∃ X, X = w.heap.size := ⟨_, rfl⟩
  have HX := Lib.hid hX
  go_enter Tryz.func50, Tryz.ntmps50
  go_wp2_with fail
  ((with_reducible refine (hck _ ?_).mono ?_))
  · exact ((((In.self w).alloc _).alloc _).alloc _).bel
  rintro e w2 ⟨rfl, hb⟩
  have hin := ((((In.self w).alloc (.cells #[.int .u64 C1, .string C2, .bool C3, .int .u64 C4, .string C5] 56)).alloc (.cells #[.int .i64 n, .int .i64 m, .slice a l cap] 63)).alloc (.cells #[.int .i64 0, .int .i64 0, .slice none 0 0] 63)).call hb
  have bq := (Bx.new_at ((w.alloc (.cells #[.int .u64 C1, .string C2, .bool C3, .int .u64 C4, .string C5] 56)).alloc (.cells #[.int .i64 n, .int .i64 m, .slice a l cap] 63)) #[.int .i64 0, .int .i64 0, .slice none 0 0] 63 (n := X + 1 + 1) (by simp [hX])).call hb
  have bx := hb
  rw [← hX]
  clear hX hck hb
  ((have r0 := bq.c0);
              (have r1 := bq.c1);
              (have r2 := bq.c2);
              (have f0 := bq.frozen 0);
              (have f1 := bq.frozen 1);
              (have f2 := bq.frozen 2);
              (have hrl := bq.lt);
              (have H1 := Lib.hid (((bq.set 0 (.int .i64 0)).set 1 (.int .i64 0)).set 2 (.slice none 0 0)));
              (have H2 := Lib.hid (((hin.setCell (p := ⟨(X + 1 + 1), 0, none⟩) (by have := HX.out; simp; omega) (.int .i64 0)).setCell (p := ⟨(X + 1 + 1), 1, none⟩) (by have := HX.out; simp; omega) (.int .i64 0)).setCell (p := ⟨(X + 1 + 1), 2, none⟩) (by have := HX.out; simp; omega) (.slice none 0 0)));
              (clear bq hin bx);
              (go_wp2_with fail);
              (have g1 := H1.out);
              (have g2 := H2.out);
              (clear H1 H2 r0 r1 r2 f0 f1 f2 hrl);
              (generalize ((w2.setCell ⟨(X + 1 + 1), 0, none⟩ (.int .i64 0)).setCell ⟨(X + 1 + 1), 1, none⟩ (.int .i64 0)).setCell ⟨(X + 1 + 1), 2, none⟩ (.slice none 0 0) = W5 at *);
              (have e0 : W5.cell? ⟨(X + 1 + 1), 0, none⟩ = some (.int .i64 0) := g1.cell 0);
              (have e1 : W5.cell? ⟨(X + 1 + 1), 1, none⟩ = some (.int .i64 0) := g1.cell 1);
              (have e2 : W5.cell? ⟨(X + 1 + 1), 2, none⟩ = some (.slice none 0 0) := g1.cell 2);
              (have hz := g2.bel);
              (refine bodyPost_ret (v := .tuple #[zeroSp, .int .i64 err]) ?_ rfl ⟨rfl, hz⟩);
              (simp [results, Tryz.results50, go_sem, e0, e1, e2]))
set_option maxRecDepth 100000 in
set_option maxHeartbeats 2000000 in
theorem spart_inv {w : World} {v : Value} {err : Int} (hbad : BadAt w v err) (x y : Option Addr) (lx ly kx ky : Nat) :
    Calls Tryz.prog 35 #[v, .slice x lx kx, .slice y ly ky] w fun e w' => e = .returned (.tuple #[zeroSp, .int .i64 err]) ∧ Below w.heap.size w w' := by
  obtain ⟨⟨n, m, a, l, cap, rfl⟩, hck, h0⟩ := hbad
  have hne : (err != 0) = true := by simpa using h0
  have heq : (err == 0) = false := by simpa using h0
  obtain ⟨X, hX⟩ : ∃ X, X = w.heap.size := ⟨_, rfl⟩
  have HX := Lib.hid hX
  go_enter Tryz.func35, Tryz.ntmps35
  go_wp2_with fail
  ((with_reducible refine (hck _ ?_).mono ?_))
  · exact (((In.self w).alloc _).alloc _).bel
  rintro e w2 ⟨rfl, hb⟩
  have hin := (((In.self w).alloc (.cells #[.int .i64 n, .int .i64 m, .slice a l cap] 63)).alloc (.cells #[.int .i64 0, .int .i64 0, .slice none 0 0] 63)).call hb
  have bq := (Bx.new_at (w.alloc (.cells #[.int .i64 n, .int .i64 m, .slice a l cap] 63)) #[.int .i64 0, .int .i64 0, .slice none 0 0] 63 (n := X + 1) (by simp [hX])).call hb
  have bx := hb
  rw [← hX]
  clear hX hck hb
  ((have r0 := bq.c0);
              (have r1 := bq.c1);
              (have r2 := bq.c2);
              (have f0 := bq.frozen 0);
              (have f1 := bq.frozen 1);
              (have f2 := bq.frozen 2);
              (have hrl := bq.lt);
              (have H1 := Lib.hid (((bq.set 0 (.int .i64 0)).set 1 (.int .i64 0)).set 2 (.slice none 0 0)));
              (have H2 := Lib.hid (((hin.setCell (p := ⟨(X + 1), 0, none⟩) (by have := HX.out; simp; omega) (.int .i64 0)).setCell (p := ⟨(X + 1), 1, none⟩) (by have := HX.out; simp; omega) (.int .i64 0)).setCell (p := ⟨(X + 1), 2, none⟩) (by have := HX.out; simp; omega) (.slice none 0 0)));
              (clear bq hin bx);
              (go_wp2_with fail);
              (have g1 := H1.out);
              (have g2 := H2.out);
              (clear H1 H2 r0 r1 r2 f0 f1 f2 hrl);
              (generalize ((w2.setCell ⟨(X + 1), 0, none⟩ (.int .i64 0)).setCell ⟨(X + 1), 1, none⟩ (.int .i64 0)).setCell ⟨(X + 1), 2, none⟩ (.slice none 0 0) = W5 at *);
              (have e0 : W5.cell? ⟨(X + 1), 0, none⟩ = some (.int .i64 0) := g1.cell 0);
              (have e1 : W5.cell? ⟨(X + 1), 1, none⟩ = some (.int .i64 0) := g1.cell 1);
              (have e2 : W5.cell? ⟨(X + 1), 2, none⟩ = some (.slice none 0 0) := g1.cell 2);
              (have hz := g2.bel);
              (refine bodyPost_ret (v := .tuple #[zeroSp, .int .i64 err]) ?_ rfl ⟨rfl, hz⟩);
              (simp [results, Tryz.results35, go_sem, e0, e1, e2]))
set_option maxRecDepth 100000 in
set_option maxHeartbeats 2000000 in
theorem sdense_bad {w : World} {v : Value} {err : Int} (hbad : BadAt w v err) :
    Calls Tryz.prog 27 #[v] w fun e w' => e = .returned (.tuple #[zeroSp, .int .i64 err]) ∧ Below w.heap.size w w' := by
  obtain ⟨⟨n, m, a, l, cap, rfl⟩, hck, h0⟩ := hbad
  have hne : (err != 0) = true := by simpa using h0
  have heq : (err == 0) = false := by simpa using h0
  obtain ⟨X, hX⟩ : ∃ X, X = w.heap.size := ⟨_, rfl⟩
  have HX := Lib.hid hX
  go_enter Tryz.func27, Tryz.ntmps27
  go_wp2_with fail
  ((with_reducible refine (hck _ ?_).mono ?_))
  · exact (((In.self w).alloc _).alloc _).bel
  rintro e w2 ⟨rfl, hb⟩
  have hin := (((In.self w).alloc (.cells #[.int .i64 n, .int .i64 m, .slice a l cap] 63)).alloc (.cells #[.int .i64 0, .int .i64 0, .slice none 0 0] 78)).call hb
  have bq := (Bx.new_at (w.alloc (.cells #[.int .i64 n, .int .i64 m, .slice a l cap] 63)) #[.int .i64 0, .int .i64 0, .slice none 0 0] 78 (n := X + 1) (by simp [hX])).call hb
  have bx := hb
  rw [← hX]
  clear hX hck hb
  ((have r0 := bq.c0);
              (have r1 := bq.c1);
              (have r2 := bq.c2);
              (have f0 := bq.frozen 0);
              (have f1 := bq.frozen 1);
              (have f2 := bq.frozen 2);
              (have hrl := bq.lt);
              (have H1 := Lib.hid (((bq.set 0 (.int .i64 0)).set 1 (.int .i64 0)).set 2 (.slice none 0 0)));
              (have H2 := Lib.hid (((hin.setCell (p := ⟨(X + 1), 0, none⟩) (by have := HX.out; simp; omega) (.int .i64 0)).setCell (p := ⟨(X + 1), 1, none⟩) (by have := HX.out; simp; omega) (.int .i64 0)).setCell (p := ⟨(X + 1), 2, none⟩) (by have := HX.out; simp; omega) (.slice none 0 0)));
              (clear bq hin bx);
              (go_wp2_with fail);
              (have g1 := H1.out);
              (have g2 := H2.out);
              (clear H1 H2 r0 r1 r2 f0 f1 f2 hrl);
              (generalize ((w2.setCell ⟨(X + 1), 0, none⟩ (.int .i64 0)).setCell ⟨(X + 1), 1, none⟩ (.int .i64 0)).setCell ⟨(X + 1), 2, none⟩ (.slice none 0 0) = W5 at *);
              (have e0 : W5.cell? ⟨(X + 1), 0, none⟩ = some (.int .i64 0) := g1.cell 0);
              (have e1 : W5.cell? ⟨(X + 1), 1, none⟩ = some (.int .i64 0) := g1.cell 1);
              (have e2 : W5.cell? ⟨(X + 1), 2, none⟩ = some (.slice none 0 0) := g1.cell 2);
              (have hz := g2.bel);
              (refine bodyPost_ret (v := .tuple #[zeroSp, .int .i64 err]) ?_ rfl ⟨rfl, hz⟩);
              (simp [results, Tryz.results27, go_sem, e0, e1, e2]))
set_option maxRecDepth 100000 in
set_option maxHeartbeats 2000000 in
theorem sdiag_bad {w : World} {v : Value} {err : Int} (hbad : BadAt w v err) :
    Calls Tryz.prog 39 #[v] w fun e w' => e = .returned (.tuple #[.slice none 0 0, .int .i64 err]) ∧ Below w.heap.size w w' := by
  obtain ⟨⟨n, m, a, l, cap, rfl⟩, hck, h0⟩ := hbad
  have hne : (err != 0) = true := by simpa using h0
  have heq : (err == 0) = false := by simpa using h0
  obtain ⟨X, hX⟩ : ∃ X, X = w.heap.size := ⟨_, rfl⟩
  have HX := Lib.hid hX
  go_enter Tryz.func39, Tryz.ntmps39
  go_wp2_with fail
  ((with_reducible refine (hck _ ?_).mono ?_))
  · exact ((In.self w).alloc _).bel
  rintro e w2 ⟨rfl, hb⟩
  have hin := ((In.self w).alloc (.cells #[.int .i64 n, .int .i64 m, .slice a l cap] 63)).call hb
  have bx := hb
  rw [← hX]
  clear hX hck hb
  go_wp2_with fail
  go_ret2
  exact ⟨rfl, hin.bel⟩
set_option maxRecDepth 100000 in
set_option maxHeartbeats 2000000 in
theorem satt_bad {w : World} {v : Value} {err : Int} (hbad : BadAt w v err) (i k : Int) :
    Calls Tryz.prog 37 #[v, .int .i64 i, .int .i64 k] w fun e w' => e = .returned (.tuple #[zeroFr, .bool false]) ∧ Below w.heap.size w w' := by
  obtain ⟨⟨n, m, a, l, cap, rfl⟩, hck, h0⟩ := hbad
  have hne : (err != 0) = true := by simpa using h0
  have heq : (err == 0) = false := by simpa using h0
  obtain ⟨X, hX⟩ : ∃ X, X = w.heap.size := ⟨_, rfl⟩
  have HX := Lib.hid hX
  go_enter Tryz.func37, Tryz.ntmps37
  go_wp2_with fail
  ((with_reducible refine (hck _ ?_).mono ?_))
  · exact (((In.self w).alloc _).alloc _).bel
  rintro e w2 ⟨rfl, hb⟩
  have hin := (((In.self w).alloc (.cells #[.int .i64 n, .int .i64 m, .slice a l cap] 63)).alloc (.cells #[.int .u64 0, .string ⟨#[]⟩, .bool false, .int .u64 0, .string ⟨#[]⟩] 56)).call hb
  have bq := (Bx.new_at (w.alloc (.cells #[.int .i64 n, .int .i64 m, .slice a l cap] 63)) #[.int .u64 0, .string ⟨#[]⟩, .bool false, .int .u64 0, .string ⟨#[]⟩] 56 (n := X + 1) (by simp [hX])).call hb
  have bx := hb
  rw [← hX]
  clear hX hck hb
  clear bx
  ((have q0 := bq.c0);
              (have q1 := bq.c1);
              (have q2 := bq.c2);
              (have q3 := bq.c3);
              (have q4 := bq.c4);
              (have f0 := bq.frozen 0);
              (have f1 := bq.frozen 1);
              (have f2 := bq.frozen 2);
              (have f3 := bq.frozen 3);
              (have f4 := bq.frozen 4);
              (have ql := bq.lt);
              (have K1 := Lib.hid ((((((bq.set 0 (.int .u64 0)).set 1 (.string ⟨#[]⟩)).set 2 (.bool false)).set 3 (.int .u64 0)).set 4 (.string ⟨#[]⟩))));
              (have K2 := Lib.hid ((((((hin.setCell (p := ⟨(X + 1), 0, none⟩) (by have := HX.out; simp; omega) (.int .u64 0)).setCell (p := ⟨(X + 1), 1, none⟩) (by have := HX.out; simp; omega) (.string ⟨#[]⟩)).setCell (p := ⟨(X + 1), 2, none⟩) (by have := HX.out; simp; omega) (.bool false)).setCell (p := ⟨(X + 1), 3, none⟩) (by have := HX.out; simp; omega) (.int .u64 0)).setCell (p := ⟨(X + 1), 4, none⟩) (by have := HX.out; simp; omega) (.string ⟨#[]⟩))));
              (clear bq hin);
              (go_wp2_with fail);
              (have k1 := K1.out);
              (have k2 := K2.out);
              (clear q0 q1 q2 q3 q4 f0 f1 f2 f3 f4 ql K1 K2);
              (generalize (((((w2.setCell ⟨(X + 1), 0, none⟩ (.int .u64 0)).setCell ⟨(X + 1), 1, none⟩ (.string ⟨#[]⟩)).setCell ⟨(X + 1), 2, none⟩ (.bool false)).setCell ⟨(X + 1), 3, none⟩ (.int .u64 0)).setCell ⟨(X + 1), 4, none⟩ (.string ⟨#[]⟩)) = W5 at *);
              (have e0 : W5.cell? ⟨(X + 1), 0, none⟩ = some (.int .u64 0) := k1.cell 0);
              (have e1 : W5.cell? ⟨(X + 1), 1, none⟩ = some (.string ⟨#[]⟩) := k1.cell 1);
              (have e2 : W5.cell? ⟨(X + 1), 2, none⟩ = some (.bool false) := k1.cell 2);
              (have e3 : W5.cell? ⟨(X + 1), 3, none⟩ = some (.int .u64 0) := k1.cell 3);
              (have e4 : W5.cell? ⟨(X + 1), 4, none⟩ = some (.string ⟨#[]⟩) := k1.cell 4);
              (have hz := k2.bel);
              (refine bodyPost_ret (v := .tuple #[.agg #[.int .u64 0, .string ⟨#[]⟩, .bool false, .int .u64 0, .string ⟨#[]⟩], .bool false]) ?_ rfl ⟨rfl, hz⟩);
              (simp [results, Tryz.results37, go_sem, e0, e1, e2, e3, e4]))
set_option maxRecDepth 100000 in
set_option maxHeartbeats 2000000 in
theorem scount_bad {w : World} {v : Value} {err : Int} (hbad : BadAt w v err) :
    Calls Tryz.prog 32 #[v] w fun e w' => e = .returned (.int .i64 0) ∧ Below w.heap.size w w' := by
  obtain ⟨⟨n, m, a, l, cap, rfl⟩, hck, h0⟩ := hbad
  have hne : (err != 0) = true := by simpa using h0
  have heq : (err == 0) = false := by simpa using h0
  obtain ⟨X, hX⟩ : ∃ X, X = w.heap.size := ⟨_, rfl⟩
  have HX := Lib.hid hX
  go_enter Tryz.func32, Tryz.ntmps32
  go_wp2_with fail
  ((with_reducible refine (hck _ ?_).mono ?_))
  · exact (((In.self w).alloc _).alloc _).bel
  rintro e w2 ⟨rfl, hb⟩
  have hin := (((In.self w).alloc (.cells #[.int .i64 n, .int .i64 m, .slice a l cap] 63)).alloc (.cells #[.int .i64 0] 3)).call hb
  have bq := (Bx.new_at (w.alloc (.cells #[.int .i64 n, .int .i64 m, .slice a l cap] 63)) #[.int .i64 0] 3 (n := X + 1) (by simp [hX])).call hb
  have bx := hb
  rw [← hX]
  clear hX hck hb
  have r0 := bq.c0
  have f0 := bq.frozen 0
  have rl := bq.lt
  have K1 := Lib.hid (bq.set 0 (.int .i64 0))
  have K2 := Lib.hid (hin.setCell (p := ⟨X + 1, 0, none⟩) (by have := HX.out; simp; omega) (.int .i64 0))
  clear bq hin bx
  go_wp2_with fail
  have k1 := K1.out
  have k2 := K2.out
  clear r0 f0 rl K1 K2
  generalize w2.setCell ⟨X + 1, 0, none⟩ (.int .i64 0) = W5 at *
  have e0 : W5.cell? ⟨X + 1, 0, none⟩ = some (.int .i64 0) := k1.cell 0
  exact bodyPost_ret (v := .int .i64 0) (by simp [results, Tryz.results32, go_sem, e0]) rfl ⟨rfl, k2.bel⟩
set_option maxRecDepth 100000 in
set_option maxHeartbeats 2000000 in
theorem sitems_bad {w : World} {v : Value} {err : Int} (hbad : BadAt w v err) :
    Calls Tryz.prog 41 #[v] w fun e w' => e = .returned (.slice none 0 0) ∧ Below w.heap.size w w' := by
  obtain ⟨⟨n, m, a, l, cap, rfl⟩, hck, h0⟩ := hbad
  have hne : (err != 0) = true := by simpa using h0
  have heq : (err == 0) = false := by simpa using h0
  obtain ⟨X, hX⟩ : ∃ X, X = w.heap.size := ⟨_, rfl⟩
  have HX := Lib.hid hX
  go_enter Tryz.func41, Tryz.ntmps41
  go_wp2_with fail
  ((with_reducible refine (hck _ ?_).mono ?_))
  · exact (((In.self w).alloc _).alloc _).bel
  rintro e w2 ⟨rfl, hb⟩
  have hin := (((In.self w).alloc (.cells #[.int .i64 n, .int .i64 m, .slice a l cap] 63)).alloc (.cells #[.slice none 0 0] 32)).call hb
  have bq := (Bx.new_at (w.alloc (.cells #[.int .i64 n, .int .i64 m, .slice a l cap] 63)) #[.slice none 0 0] 32 (n := X + 1) (by simp [hX])).call hb
  have bx := hb
  rw [← hX]
  clear hX hck hb
  have r0 := bq.c0
  have f0 := bq.frozen 0
  have rl := bq.lt
  have K1 := Lib.hid (bq.set 0 (.slice none 0 0))
  have K2 := Lib.hid (hin.setCell (p := ⟨X + 1, 0, none⟩) (by have := HX.out; simp; omega) (.slice none 0 0))
  clear bq hin bx
  go_wp2_with fail
  have k1 := K1.out
  have k2 := K2.out
  clear r0 f0 rl K1 K2
  generalize w2.setCell ⟨X + 1, 0, none⟩ (.slice none 0 0) = W5 at *
  have e0 : W5.cell? ⟨X + 1, 0, none⟩ = some (.slice none 0 0) := k1.cell 0
  exact bodyPost_ret (v := .slice none 0 0) (by simp [results, Tryz.results41, go_sem, e0]) rfl ⟨rfl, k2.bel⟩
set_option maxRecDepth 100000 in
set_option maxHeartbeats 2000000 in
theorem stext_bad {w : World} {v : Value} {err : Int} (hbad : BadAt w v err) :
    Calls Tryz.prog 20 #[v] w fun e w' => e = .returned (.string ⟨#[]⟩) ∧ Below w.heap.size w w' := by
  obtain ⟨⟨n, m, a, l, cap, rfl⟩, hck, h0⟩ := hbad
  have hne : (err != 0) = true := by simpa using h0
  have heq : (err == 0) = false := by simpa using h0
  obtain ⟨X, hX⟩ : ∃ X, X = w.heap.size := ⟨_, rfl⟩
  have HX := Lib.hid hX
  go_enter Tryz.func20, Tryz.ntmps20
  go_wp2_with fail
  ((with_reducible refine (hck _ ?_).mono ?_))
  · exact ((In.self w).alloc _).bel
  rintro e w2 ⟨rfl, hb⟩
  have hin := ((In.self w).alloc (.cells #[.int .i64 n, .int .i64 m, .slice a l cap] 63)).call hb
  have bx := hb
  rw [← hX]
  clear hX hck hb
  go_wp2_with fail
  go_ret
  exact ⟨rfl, hin.bel⟩
set_option maxRecDepth 100000 in
set_option maxHeartbeats 2000000 in
theorem ssymm_bad {w : World} {v : Value} {err : Int} (hbad : BadAt w v err) :
    Calls Tryz.prog 33 #[v] w fun e w' => e = .returned (.bool false) ∧ Below w.heap.size w w' := by
  have ht := fun W (hb : Below w.heap.size w W) => sturn_bad (hbad.call hb)
  obtain ⟨⟨n, m, a, l, cap, rfl⟩, _, h0⟩ := hbad
  have hne : (err != 0) = true := by simpa using h0
  have heq : (err == 0) = false := by simpa using h0
  go_enter Tryz.func33, Tryz.ntmps33
  go_wp2_with fail
  ((with_reducible refine (ht _ ?_).mono ?_))
  · exact ((In.self w).alloc _).bel
  rintro e w2 ⟨rfl, hb⟩
  have hin := (((In.self w).alloc (.cells #[.int .i64 n, .int .i64 m, .slice a l cap] 63)).call hb).alloc (.cells #[.int .i64 0, .int .i64 0, .slice none 0 0] 63)
  clear ht hb
  go_wp2_with fail
  go_ret
  exact ⟨rfl, hin.bel⟩
set_option maxRecDepth 100000 in
set_option maxHeartbeats 2000000 in
theorem goes_bad {w : World} {v : Value} {err : Int} (hbad : BadAt w v err) (x : Option Addr) (lx kx : Nat) :
    Calls Tryz.prog 112 #[v, .slice x lx kx] w fun e w' => e = .returned (.int .i64 err) ∧ Below w.heap.size w w' := by
  obtain ⟨⟨n, m, a, l, cap, rfl⟩, hck, h0⟩ := hbad
  have hne : (err != 0) = true := by simpa using h0
  have heq : (err == 0) = false := by simpa using h0
  go_enter Tryz.func112, Tryz.ntmps112
  go_wp2_with fail
  ((with_reducible refine (hck _ ?_).mono ?_))
  · exact ((In.self w).alloc _).bel
  rintro e w2 ⟨rfl, hb⟩
  have hin := ((In.self w).alloc (.cells #[.int .i64 n, .int .i64 m, .slice a l cap] 63)).call hb
  clear hck hb
  go_wp2_with fail
  go_ret
  exact ⟨rfl, hin.bel⟩
theorem goes_bad2 {w : World} {v : Value} {err : Int} (hbad : BadAt w v err) (W : World) (hb : Below w.heap.size w W) (x : Option Addr) (lx kx : Nat) :
    Calls Tryz.prog 112 #[v, .slice x lx kx] W fun e w' => e = .returned (.int .i64 err) ∧ Below W.heap.size W w' := goes_bad (hbad.call hb) x lx kx
set_option maxRecDepth 100000 in
set_option maxHeartbeats 2000000 in
theorem sapp_bad {w : World} {v : Value} {err : Int} (hbad : BadAt w v err) (x : Option Addr) (lx kx : Nat) :
    Calls Tryz.prog 52 #[v, .slice x lx kx] w fun e w' => e = .returned (.tuple #[.slice none 0 0, .int .i64 err]) ∧ Below w.heap.size w w' := by
  obtain ⟨⟨n, m, a, l, cap, rfl⟩, hck, h0⟩ := hbad
  have hne : (err != 0) = true := by simpa using h0
  have heq : (err == 0) = false := by simpa using h0
  have hgo := fun W (hb : Below w.heap.size w W) x lx kx => goes_bad2 ⟨⟨n, m, a, l, cap, rfl⟩, hck, h0⟩ W hb x lx kx
  obtain ⟨X, hX⟩ : ∃ X, X = w.heap.size := ⟨_, rfl⟩
  have HX := Lib.hid hX
  go_enter Tryz.func52, Tryz.ntmps52
  go_wp2_with fail
  ((with_reducible refine (hgo _ ?_ _ _ _).mono ?_))
  · exact ((((In.self w).alloc _).alloc _).alloc _).bel
  rintro e w2 ⟨rfl, hb⟩
  have hin := ((((In.self w).alloc (.cells #[.int .i64 n, .int .i64 m, .slice a l cap] 63)).alloc (.cells #[.slice x lx kx] 97)).alloc (.cells #[.slice x lx kx] 97)).call hb
  have bx := hb
  rw [← hX]
  clear hX hck hb
  clear hgo
  go_wp2_with fail
  go_ret2
  exact ⟨rfl, hin.bel⟩
set_option maxRecDepth 100000 in
set_option maxHeartbeats 2000000 in
theorem sform_bad {w : World} {v : Value} {err : Int} (hbad : BadAt w v err) (x y : Option Addr) (lx kx ly ky : Nat) :
    Calls Tryz.prog 54 #[v, .slice x lx kx, .slice y ly ky] w fun e w' => e = .returned (.tuple #[zeroFr, .int .i64 err]) ∧ Below w.heap.size w w' := by
  obtain ⟨⟨n, m, a, l, cap, rfl⟩, hck, h0⟩ := hbad
  have hne : (err != 0) = true := by simpa using h0
  have heq : (err == 0) = false := by simpa using h0
  have hgo := fun W (hb : Below w.heap.size w W) x lx kx => goes_bad2 ⟨⟨n, m, a, l, cap, rfl⟩, hck, h0⟩ W hb x lx kx
  obtain ⟨X, hX⟩ : ∃ X, X = w.heap.size := ⟨_, rfl⟩
  have HX := Lib.hid hX
  go_enter Tryz.func54, Tryz.ntmps54
  go_wp2_with fail
  ((with_reducible refine (hgo _ ?_ _ _ _).mono ?_))
  · exact ((((In.self w).alloc _).alloc _).alloc _).bel
  rintro e w2 ⟨rfl, hb⟩
  have hin := ((((In.self w).alloc (.cells #[.int .i64 n, .int .i64 m, .slice a l cap] 63)).alloc (.cells #[.int .u64 0, .string ⟨#[]⟩, .bool false, .int .u64 0, .string ⟨#[]⟩] 56)).alloc (.cells #[.slice x lx kx, .slice y ly ky] 97)).call hb
  have bq := ((Bx.new_at (w.alloc (.cells #[.int .i64 n, .int .i64 m, .slice a l cap] 63)) #[.int .u64 0, .string ⟨#[]⟩, .bool false, .int .u64 0, .string ⟨#[]⟩] 56 (n := X + 1) (by simp [hX])).alloc (.cells #[.slice x lx kx, .slice y ly ky] 97)).call hb
  have bx := hb
  rw [← hX]
  clear hX hck hb
  clear bx hgo
  ((have q0 := bq.c0);
              (have q1 := bq.c1);
              (have q2 := bq.c2);
              (have q3 := bq.c3);
              (have q4 := bq.c4);
              (have f0 := bq.frozen 0);
              (have f1 := bq.frozen 1);
              (have f2 := bq.frozen 2);
              (have f3 := bq.frozen 3);
              (have f4 := bq.frozen 4);
              (have ql := bq.lt);
              (have K1 := Lib.hid ((((((bq.set 0 (.int .u64 0)).set 1 (.string ⟨#[]⟩)).set 2 (.bool false)).set 3 (.int .u64 0)).set 4 (.string ⟨#[]⟩))));
              (have K2 := Lib.hid ((((((hin.setCell (p := ⟨(X + 1), 0, none⟩) (by have := HX.out; simp; omega) (.int .u64 0)).setCell (p := ⟨(X + 1), 1, none⟩) (by have := HX.out; simp; omega) (.string ⟨#[]⟩)).setCell (p := ⟨(X + 1), 2, none⟩) (by have := HX.out; simp; omega) (.bool false)).setCell (p := ⟨(X + 1), 3, none⟩) (by have := HX.out; simp; omega) (.int .u64 0)).setCell (p := ⟨(X + 1), 4, none⟩) (by have := HX.out; simp; omega) (.string ⟨#[]⟩))));
              (clear bq hin);
              (go_wp2_with fail);
              (have k1 := K1.out);
              (have k2 := K2.out);
              (clear q0 q1 q2 q3 q4 f0 f1 f2 f3 f4 ql K1 K2);
              (generalize (((((w2.setCell ⟨(X + 1), 0, none⟩ (.int .u64 0)).setCell ⟨(X + 1), 1, none⟩ (.string ⟨#[]⟩)).setCell ⟨(X + 1), 2, none⟩ (.bool false)).setCell ⟨(X + 1), 3, none⟩ (.int .u64 0)).setCell ⟨(X + 1), 4, none⟩ (.string ⟨#[]⟩)) = W5 at *);
              (have e0 : W5.cell? ⟨(X + 1), 0, none⟩ = some (.int .u64 0) := k1.cell 0);
              (have e1 : W5.cell? ⟨(X + 1), 1, none⟩ = some (.string ⟨#[]⟩) := k1.cell 1);
              (have e2 : W5.cell? ⟨(X + 1), 2, none⟩ = some (.bool false) := k1.cell 2);
              (have e3 : W5.cell? ⟨(X + 1), 3, none⟩ = some (.int .u64 0) := k1.cell 3);
              (have e4 : W5.cell? ⟨(X + 1), 4, none⟩ = some (.string ⟨#[]⟩) := k1.cell 4);
              (have hz := k2.bel);
              (refine bodyPost_ret (v := .tuple #[.agg #[.int .u64 0, .string ⟨#[]⟩, .bool false, .int .u64 0, .string ⟨#[]⟩], .int .i64 err]) ?_ rfl ⟨rfl, hz⟩);
              (simp [results, Tryz.results54, go_sem, e0, e1, e2, e3, e4]))
set_option maxRecDepth 100000 in
set_option maxHeartbeats 2000000 in
theorem sall_bad1 {w : World} {err n m n2 m2 : Int} {a a2 : Option Addr} {l cap l2 cap2 : Nat} (hbad : BadAt w (.agg #[.int .i64 n, .int .i64 m, .slice a l cap]) err) (b : Nat) (hB : Bx w b 63 [.int .i64 n, .int .i64 m, .slice a l cap, .int .i64 n2, .int .i64 m2, .slice a2 l2 cap2]) :
    Calls Tryz.prog 101 #[.slice (some ⟨b, 0, none⟩) 2 2] w fun e w' => e = .returned (.int .i64 err) ∧ Below w.heap.size w w' := by
  obtain ⟨_, hck, h0⟩ := hbad
  have hne : (err != 0) = true := by simpa using h0
  have heq : (err == 0) = false := by simpa using h0
  have hbw := hB.lt
  have x0 := hB.c0
  have x1 := hB.c1
  have x2 := hB.c2
  clear hB
  go_enter Tryz.func101, Tryz.ntmps101
  go_wp2_with fail
  go_loopw [8] (fun v8 wr => v8 = .int .i64 0 ∧ wr = w) (fun v8 _ => 2 - (RowKit.intOf v8).toNat)
  case atStart => exact ⟨rfl, rfl⟩
  case round =>
    obtain ⟨rfl, rfl⟩ := hrel
    go_wp2_with fail
    ((with_reducible refine (hck _ ?_).mono ?_))
    · exact ((In.self _).alloc _).bel
    rintro e w2 ⟨rfl, hb⟩
    have hin := ((In.self wr).alloc (.cells #[.int .i64 n, .int .i64 m, .slice a l cap] 63)).call hb
    clear hb hck x0 x1 x2
    go_wp2_with fail
    go_ret
    exact ⟨rfl, hin.bel⟩
set_option maxRecDepth 100000 in
set_option maxHeartbeats 2000000 in
theorem sall_bad2 {w : World} {err n m n2 m2 : Int} {a a2 : Option Addr} {l cap l2 cap2 : Nat} (hbad : BadAt w (.agg #[.int .i64 n, .int .i64 m, .slice a l cap]) err) (hok : ∀ W, Below w.heap.size w W → Calls Tryz.prog 19 #[.agg #[.int .i64 n2, .int .i64 m2, .slice a2 l2 cap2]] W fun e w' => e = .returned (.int .i64 0) ∧ Below W.heap.size W w') (b : Nat) (hB : Bx w b 63 [.int .i64 n2, .int .i64 m2, .slice a2 l2 cap2, .int .i64 n, .int .i64 m, .slice a l cap]) :
    Calls Tryz.prog 101 #[.slice (some ⟨b, 0, none⟩) 2 2] w fun e w' => e = .returned (.int .i64 err) ∧ Below w.heap.size w w' := by
  obtain ⟨_, hck, h0⟩ := hbad
  have hne : (err != 0) = true := by simpa using h0
  have heq : (err == 0) = false := by simpa using h0
  have HB := Lib.hid hB
  have hbw := hB.lt
  clear hB
  go_enter Tryz.func101, Tryz.ntmps101
  go_wp2_with fail
  go_loopw [8] (fun v8 wr => ∃ p : Nat, p ≤ 1 ∧ v8 = .int .i64 p ∧ In w.heap.size w wr) (fun v8 _ => 2 - (RowKit.intOf v8).toNat)
  case atStart => exact ⟨0, by decide, rfl, In.self _⟩
  case round =>
    obtain ⟨p, hp, rfl, hin⟩ := hrel
    have hbr : b < wr.heap.size := by have := hin.siz; omega
    have x0 := hin.cell b 0 hbw
    have x1 := hin.cell b 1 hbw
    have x2 := hin.cell b 2 hbw
    have x3 := hin.cell b 3 hbw
    have x4 := hin.cell b 4 hbw
    have x5 := hin.cell b 5 hbw
    rw [HB.out.c0] at x0
    rw [HB.out.c1] at x1
    rw [HB.out.c2] at x2
    rw [HB.out.c3] at x3
    rw [HB.out.c4] at x4
    rw [HB.out.c5] at x5
    match p, hp with
    | 0, _ =>
      go_wp2_with fail
      ((with_reducible refine (hok _ ?_).mono ?_))
      · exact (hin.alloc _).bel
      rintro e w2 ⟨rfl, hb⟩
      have hin2 := (hin.alloc (.cells #[.int .i64 n2, .int .i64 m2, .slice a2 l2 cap2] 63)).call hb
      clear hb hin x0 x1 x2 x3 x4 x5
      go_wp2_with fail
      exact ⟨⟨1, by decide, rfl, hin2⟩, by simp [RowKit.intOf]⟩
    | 1, _ =>
      go_wp2_with fail
      ((with_reducible refine (hck _ ?_).mono ?_))
      · exact (hin.alloc _).bel
      rintro e w2 ⟨rfl, hb⟩
      have hin2 := (hin.alloc (.cells #[.int .i64 n, .int .i64 m, .slice a l cap] 63)).call hb
      clear hb hin hck x0 x1 x2 x3 x4 x5
      go_wp2_with fail
      go_ret
      exact ⟨rfl, hin2.bel⟩
set_option maxRecDepth 100000 in
set_option maxHeartbeats 2000000 in
theorem sadd_bad1 {w : World} {v : Value} {err : Int} (hbad : BadAt w v err) {n2 m2 : Int} {a2 : Option Addr} {l2 cap2 : Nat} :
    Calls Tryz.prog 44 #[v, .agg #[.int .i64 n2, .int .i64 m2, .slice a2 l2 cap2]] w fun e w' => e = .returned (.tuple #[zeroSp, .int .i64 err]) ∧ Below w.heap.size w w' := by
  obtain ⟨⟨n, m, a, l, cap, rfl⟩, hck, h0⟩ := hbad
  have hne : (err != 0) = true := by simpa using h0
  have heq : (err == 0) = false := by simpa using h0
  have hal := fun W (hb : Below w.heap.size w W) b hB => sall_bad1 (n := n) (m := m) (a := a) (l := l) (cap := cap) (n2 := n2) (m2 := m2) (a2 := a2) (l2 := l2) (cap2 := cap2) (w := W) (BadAt.call ⟨⟨n, m, a, l, cap, rfl⟩, hck, h0⟩ hb) b hB
  obtain ⟨X, hX⟩ : ∃ X, X = w.heap.size := ⟨_, rfl⟩
  have HX := Lib.hid hX
  go_enter Tryz.func44, Tryz.ntmps44
  go_wp2_with fail
  ((with_reducible refine (hal _ ?_ _ ?_).mono ?_))
  · exact (((((In.self w).alloc _).alloc _).alloc _).alloc _).bel
  · exact Bx.new_at _ _ _ (by simp)
  rintro e w2 ⟨rfl, hb⟩
  have hin := (((((In.self w).alloc (.cells #[.int .i64 n, .int .i64 m, .slice a l cap] 63)).alloc (.cells #[.int .i64 n2, .int .i64 m2, .slice a2 l2 cap2] 63)).alloc (.cells #[.int .i64 0, .int .i64 0, .slice none 0 0] 63)).alloc (.cells #[.int .i64 n, .int .i64 m, .slice a l cap, .int .i64 n2, .int .i64 m2, .slice a2 l2 cap2] 63)).call hb
  have bq := ((Bx.new_at ((w.alloc (.cells #[.int .i64 n, .int .i64 m, .slice a l cap] 63)).alloc (.cells #[.int .i64 n2, .int .i64 m2, .slice a2 l2 cap2] 63)) #[.int .i64 0, .int .i64 0, .slice none 0 0] 63 (n := X + 1 + 1) (by simp [hX])).alloc (.cells #[.int .i64 n, .int .i64 m, .slice a l cap, .int .i64 n2, .int .i64 m2, .slice a2 l2 cap2] 63)).call hb
  have bx := hb
  rw [← hX]
  clear hX hck hb
  clear hal
  ((have r0 := bq.c0);
              (have r1 := bq.c1);
              (have r2 := bq.c2);
              (have f0 := bq.frozen 0);
              (have f1 := bq.frozen 1);
              (have f2 := bq.frozen 2);
              (have hrl := bq.lt);
              (have H1 := Lib.hid (((bq.set 0 (.int .i64 0)).set 1 (.int .i64 0)).set 2 (.slice none 0 0)));
              (have H2 := Lib.hid (((hin.setCell (p := ⟨(X + 1 + 1), 0, none⟩) (by have := HX.out; simp; omega) (.int .i64 0)).setCell (p := ⟨(X + 1 + 1), 1, none⟩) (by have := HX.out; simp; omega) (.int .i64 0)).setCell (p := ⟨(X + 1 + 1), 2, none⟩) (by have := HX.out; simp; omega) (.slice none 0 0)));
              (clear bq hin bx);
              (go_wp2_with fail);
              (have g1 := H1.out);
              (have g2 := H2.out);
              (clear H1 H2 r0 r1 r2 f0 f1 f2 hrl);
              (generalize ((w2.setCell ⟨(X + 1 + 1), 0, none⟩ (.int .i64 0)).setCell ⟨(X + 1 + 1), 1, none⟩ (.int .i64 0)).setCell ⟨(X + 1 + 1), 2, none⟩ (.slice none 0 0) = W5 at *);
              (have e0 : W5.cell? ⟨(X + 1 + 1), 0, none⟩ = some (.int .i64 0) := g1.cell 0);
              (have e1 : W5.cell? ⟨(X + 1 + 1), 1, none⟩ = some (.int .i64 0) := g1.cell 1);
              (have e2 : W5.cell? ⟨(X + 1 + 1), 2, none⟩ = some (.slice none 0 0) := g1.cell 2);
              (have hz := g2.bel);
              (refine bodyPost_ret (v := .tuple #[zeroSp, .int .i64 err]) ?_ rfl ⟨rfl, hz⟩);
              (simp [results, Tryz.results44, go_sem, e0, e1, e2]))
set_option maxRecDepth 100000 in
set_option maxHeartbeats 2000000 in
theorem sadd_bad2 {w : World} {v : Value} {err : Int} (hbad : BadAt w v err) {n2 m2 : Int} {a2 : Option Addr} {l2 cap2 : Nat} (hok : ∀ W, Below w.heap.size w W → Calls Tryz.prog 19 #[.agg #[.int .i64 n2, .int .i64 m2, .slice a2 l2 cap2]] W fun e w' => e = .returned (.int .i64 0) ∧ Below W.heap.size W w') :
    Calls Tryz.prog 44 #[.agg #[.int .i64 n2, .int .i64 m2, .slice a2 l2 cap2], v] w fun e w' => e = .returned (.tuple #[zeroSp, .int .i64 err]) ∧ Below w.heap.size w w' := by
  obtain ⟨⟨n, m, a, l, cap, rfl⟩, hck, h0⟩ := hbad
  have hne : (err != 0) = true := by simpa using h0
  have heq : (err == 0) = false := by simpa using h0
  have hal := fun W (hb : Below w.heap.size w W) b hB => sall_bad2 (n := n) (m := m) (a := a) (l := l) (cap := cap) (n2 := n2) (m2 := m2) (a2 := a2) (l2 := l2) (cap2 := cap2) (w := W) (BadAt.call ⟨⟨n, m, a, l, cap, rfl⟩, hck, h0⟩ hb) (fun W2 h2 => hok W2 (hb.trans (h2.mono hb.size))) b hB
  obtain ⟨X, hX⟩ : ∃ X, X = w.heap.size := ⟨_, rfl⟩
  have HX := Lib.hid hX
  go_enter Tryz.func44, Tryz.ntmps44
  go_wp2_with fail
  ((with_reducible refine (hal _ ?_ _ ?_).mono ?_))
  · exact (((((In.self w).alloc _).alloc _).alloc _).alloc _).bel
  · exact Bx.new_at _ _ _ (by simp)
  rintro e w2 ⟨rfl, hb⟩
  have hin := (((((In.self w).alloc (.cells #[.int .i64 n2, .int .i64 m2, .slice a2 l2 cap2] 63)).alloc (.cells #[.int .i64 n, .int .i64 m, .slice a l cap] 63)).alloc (.cells #[.int .i64 0, .int .i64 0, .slice none 0 0] 63)).alloc (.cells #[.int .i64 n2, .int .i64 m2, .slice a2 l2 cap2, .int .i64 n, .int .i64 m, .slice a l cap] 63)).call hb
  have bq := ((Bx.new_at ((w.alloc (.cells #[.int .i64 n2, .int .i64 m2, .slice a2 l2 cap2] 63)).alloc (.cells #[.int .i64 n, .int .i64 m, .slice a l cap] 63)) #[.int .i64 0, .int .i64 0, .slice none 0 0] 63 (n := X + 1 + 1) (by simp [hX])).alloc (.cells #[.int .i64 n2, .int .i64 m2, .slice a2 l2 cap2, .int .i64 n, .int .i64 m, .slice a l cap] 63)).call hb
  have bx := hb
  rw [← hX]
  clear hX hck hb
  clear hal
  ((have r0 := bq.c0);
              (have r1 := bq.c1);
              (have r2 := bq.c2);
              (have f0 := bq.frozen 0);
              (have f1 := bq.frozen 1);
              (have f2 := bq.frozen 2);
              (have hrl := bq.lt);
              (have H1 := Lib.hid (((bq.set 0 (.int .i64 0)).set 1 (.int .i64 0)).set 2 (.slice none 0 0)));
              (have H2 := Lib.hid (((hin.setCell (p := ⟨(X + 1 + 1), 0, none⟩) (by have := HX.out; simp; omega) (.int .i64 0)).setCell (p := ⟨(X + 1 + 1), 1, none⟩) (by have := HX.out; simp; omega) (.int .i64 0)).setCell (p := ⟨(X + 1 + 1), 2, none⟩) (by have := HX.out; simp; omega) (.slice none 0 0)));
              (clear bq hin bx);
              (go_wp2_with fail);
              (have g1 := H1.out);
              (have g2 := H2.out);
              (clear H1 H2 r0 r1 r2 f0 f1 f2 hrl);
              (generalize ((w2.setCell ⟨(X + 1 + 1), 0, none⟩ (.int .i64 0)).setCell ⟨(X + 1 + 1), 1, none⟩ (.int .i64 0)).setCell ⟨(X + 1 + 1), 2, none⟩ (.slice none 0 0) = W5 at *);
              (have e0 : W5.cell? ⟨(X + 1 + 1), 0, none⟩ = some (.int .i64 0) := g1.cell 0);
              (have e1 : W5.cell? ⟨(X + 1 + 1), 1, none⟩ = some (.int .i64 0) := g1.cell 1);
              (have e2 : W5.cell? ⟨(X + 1 + 1), 2, none⟩ = some (.slice none 0 0) := g1.cell 2);
              (have hz := g2.bel);
              (refine bodyPost_ret (v := .tuple #[zeroSp, .int .i64 err]) ?_ rfl ⟨rfl, hz⟩);
              (simp [results, Tryz.results44, go_sem, e0, e1, e2]))
set_option maxRecDepth 100000 in
set_option maxHeartbeats 2000000 in
theorem smul_bad1 {w : World} {v : Value} {err : Int} (hbad : BadAt w v err) {n2 m2 : Int} {a2 : Option Addr} {l2 cap2 : Nat} :
    Calls Tryz.prog 46 #[v, .agg #[.int .i64 n2, .int .i64 m2, .slice a2 l2 cap2]] w fun e w' => e = .returned (.tuple #[zeroSp, .int .i64 err]) ∧ Below w.heap.size w w' := by
  obtain ⟨⟨n, m, a, l, cap, rfl⟩, hck, h0⟩ := hbad
  have hne : (err != 0) = true := by simpa using h0
  have heq : (err == 0) = false := by simpa using h0
  have hal := fun W (hb : Below w.heap.size w W) b hB => sall_bad1 (n := n) (m := m) (a := a) (l := l) (cap := cap) (n2 := n2) (m2 := m2) (a2 := a2) (l2 := l2) (cap2 := cap2) (w := W) (BadAt.call ⟨⟨n, m, a, l, cap, rfl⟩, hck, h0⟩ hb) b hB
  obtain ⟨X, hX⟩ : ∃ X, X = w.heap.size := ⟨_, rfl⟩
  have HX := Lib.hid hX
  go_enter Tryz.func46, Tryz.ntmps46
  go_wp2_with fail
  ((with_reducible refine (hal _ ?_ _ ?_).mono ?_))
  · exact (((((In.self w).alloc _).alloc _).alloc _).alloc _).bel
  · exact Bx.new_at _ _ _ (by simp)
  rintro e w2 ⟨rfl, hb⟩
  have hin := (((((In.self w).alloc (.cells #[.int .i64 n, .int .i64 m, .slice a l cap] 63)).alloc (.cells #[.int .i64 n2, .int .i64 m2, .slice a2 l2 cap2] 63)).alloc (.cells #[.int .i64 0, .int .i64 0, .slice none 0 0] 63)).alloc (.cells #[.int .i64 n, .int .i64 m, .slice a l cap, .int .i64 n2, .int .i64 m2, .slice a2 l2 cap2] 63)).call hb
  have bq := ((Bx.new_at ((w.alloc (.cells #[.int .i64 n, .int .i64 m, .slice a l cap] 63)).alloc (.cells #[.int .i64 n2, .int .i64 m2, .slice a2 l2 cap2] 63)) #[.int .i64 0, .int .i64 0, .slice none 0 0] 63 (n := X + 1 + 1) (by simp [hX])).alloc (.cells #[.int .i64 n, .int .i64 m, .slice a l cap, .int .i64 n2, .int .i64 m2, .slice a2 l2 cap2] 63)).call hb
  have bx := hb
  rw [← hX]
  clear hX hck hb
  clear hal
  ((have r0 := bq.c0);
              (have r1 := bq.c1);
              (have r2 := bq.c2);
              (have f0 := bq.frozen 0);
              (have f1 := bq.frozen 1);
              (have f2 := bq.frozen 2);
              (have hrl := bq.lt);
              (have H1 := Lib.hid (((bq.set 0 (.int .i64 0)).set 1 (.int .i64 0)).set 2 (.slice none 0 0)));
              (have H2 := Lib.hid (((hin.setCell (p := ⟨(X + 1 + 1), 0, none⟩) (by have := HX.out; simp; omega) (.int .i64 0)).setCell (p := ⟨(X + 1 + 1), 1, none⟩) (by have := HX.out; simp; omega) (.int .i64 0)).setCell (p := ⟨(X + 1 + 1), 2, none⟩) (by have := HX.out; simp; omega) (.slice none 0 0)));
              (clear bq hin bx);
              (go_wp2_with fail);
              (have g1 := H1.out);
              (have g2 := H2.out);
              (clear H1 H2 r0 r1 r2 f0 f1 f2 hrl);
              (generalize ((w2.setCell ⟨(X + 1 + 1), 0, none⟩ (.int .i64 0)).setCell ⟨(X + 1 + 1), 1, none⟩ (.int .i64 0)).setCell ⟨(X + 1 + 1), 2, none⟩ (.slice none 0 0) = W5 at *);
              (have e0 : W5.cell? ⟨(X + 1 + 1), 0, none⟩ = some (.int .i64 0) := g1.cell 0);
              (have e1 : W5.cell? ⟨(X + 1 + 1), 1, none⟩ = some (.int .i64 0) := g1.cell 1);
              (have e2 : W5.cell? ⟨(X + 1 + 1), 2, none⟩ = some (.slice none 0 0) := g1.cell 2);
              (have hz := g2.bel);
              (refine bodyPost_ret (v := .tuple #[zeroSp, .int .i64 err]) ?_ rfl ⟨rfl, hz⟩);
              (simp [results, Tryz.results46, go_sem, e0, e1, e2]))
end Gus
end
section
/- gussetlaw16.refused. -/
namespace Gus
open Go Go.RowKit Go.Proofs
set_option maxRecDepth 100000 in
set_option maxHeartbeats 8000000 in
theorem refused_any {w : World} {v : Value} {err : Int} (hbad : BadAt w v err) :
    Calls Tryz.prog 42 #[v, .int .i64 err] w fun e w' => e = .returned (.bool true) ∧ Below w.heap.size w w' := by
  have c1 : ∀ w : World, Calls Tryz.prog 31 #[.int .i64 1] w fun e w' => ∃ v, e = .returned (.tuple #[v, .int .i64 0]) ∧ SpN w' w.heap.size v 1 1 (dg 1) ∧ Below w.heap.size w w' := one_ok 1 (by decide)
  have c2 := fun W (x : Value) (h : SpM W x 1 1 (dg 1)) => scheck_ok h (by decide) (by decide)
  have cI := fracInt_any 1 (by decide) (by decide)
  have ceq : ∀ W, (binOp .eql 56 (.agg #[.int .u64 0, .string ⟨#[]⟩, .bool false, .int .u64 0, .string ⟨#[]⟩]) (.agg #[.int .u64 0, .string ⟨#[]⟩, .bool false, .int .u64 0, .string ⟨#[]⟩])).run Tryz.prog W = .ok (.bool true) W := fun W => by simp [go_sem]
  obtain ⟨n, m, a, l, cap, rfl⟩ := hbad.1
  obtain ⟨X, hX⟩ : ∃ X, X = w.heap.size := ⟨_, rfl⟩
  have HX := Lib.hid hX
  have hnf : (err != err) = false := by simp
  go_enter Tryz.func42, Tryz.ntmps42
  go_wp2_with fail
  ((with_reducible refine (c1 _).mono ?_))
  rintro e w1 ⟨o, rfl, ho, hb⟩
  have hin := ((In.self w).alloc (.cells #[.int .i64 n, .int .i64 m, .slice a l cap] 63)).call hb
  have bx := (Bx.new_at w #[.int .i64 n, .int .i64 m, .slice a l cap] 63 hX).call hb
  replace hbad := hbad.call hin.bel
  rw [← hX]
  clear hX hb c1
  replace ho := ho.m
  obtain ⟨oa, ok, rfl⟩ := ho.shape
  replace ho : SpM w1 (.agg #[.int .i64 1, .int .i64 1, .slice oa 1 ok]) 1 1 (dg 1) := ho
  go_upto_region 2 with fail
  obtain ⟨S1, hS1⟩ : ∃ z, z = w1.heap.size := ⟨_, rfl⟩
  have bS1 := Bx.new_at w1 #[.int .i64 1, .int .i64 1, .slice oa 1 ok] 63 hS1
  replace hin := hin.alloc (.cells #[.int .i64 1, .int .i64 1, .slice oa 1 ok] 63)
  replace bx := bx.alloc (.cells #[.int .i64 1, .int .i64 1, .slice oa 1 ok] 63)
  replace hbad := hbad.call ((Below.refl _ _).alloc (Nat.le_refl _) (.cells #[.int .i64 1, .int .i64 1, .slice oa 1 ok] 63))
  replace ho := ho.call ((Below.refl _ _).alloc (Nat.le_refl _) (.cells #[.int .i64 1, .int .i64 1, .slice oa 1 ok] 63))
  rw [← hS1]
  clear hS1
  generalize w1.alloc (.cells #[.int .i64 1, .int .i64 1, .slice oa 1 ok] 63) = W1 at *
  have x0 := bx.c0
  have x1 := bx.c1
  have x2 := bx.c2
  have xl := bx.lt
  have y0 := bS1.c0
  have y1 := bS1.c1
  have y2 := bS1.c2
  have yl := bS1.lt
  go_wp2_with fail
  ((with_reducible refine (sadd_bad1 hbad).mono ?_))
  rintro e w2 ⟨rfl, hb⟩
  replace hin := hin.call hb
  replace bx := bx.call hb
  replace hbad := hbad.call hb
  replace ho := ho.call hb
  replace bS1 := bS1.call hb
  clear hb x0 x1 x2 xl y0 y1 y2 yl
  go_upto_region 3 with fail
  obtain ⟨S2, hS2⟩ : ∃ z, z = w2.heap.size := ⟨_, rfl⟩
  have bS2 := Bx.new_at w2 #[.int .i64 0, .int .i64 0, .slice none 0 0] 63 hS2
  replace hin := hin.alloc (.cells #[.int .i64 0, .int .i64 0, .slice none 0 0] 63)
  replace bx := bx.alloc (.cells #[.int .i64 0, .int .i64 0, .slice none 0 0] 63)
  replace hbad := hbad.call ((Below.refl _ _).alloc (Nat.le_refl _) (.cells #[.int .i64 0, .int .i64 0, .slice none 0 0] 63))
  replace ho := ho.call ((Below.refl _ _).alloc (Nat.le_refl _) (.cells #[.int .i64 0, .int .i64 0, .slice none 0 0] 63))
  replace bS1 := bS1.alloc (.cells #[.int .i64 0, .int .i64 0, .slice none 0 0] 63)
  rw [← hS2]
  clear hS2
  generalize w2.alloc (.cells #[.int .i64 0, .int .i64 0, .slice none 0 0] 63) = W2 at *
  have x0 := bx.c0
  have x1 := bx.c1
  have x2 := bx.c2
  have xl := bx.lt
  have y0 := bS1.c0
  have y1 := bS1.c1
  have y2 := bS1.c2
  have yl := bS1.lt
  go_wp2_with fail
  ((with_reducible refine (sadd_bad2 hbad (fun W h => c2 W _ (ho.call h))).mono ?_))
  rintro e w3 ⟨rfl, hb⟩
  replace hin := hin.call hb
  replace bx := bx.call hb
  replace hbad := hbad.call hb
  replace ho := ho.call hb
  replace bS1 := bS1.call hb
  replace bS2 := bS2.call hb
  clear hb x0 x1 x2 xl y0 y1 y2 yl
  go_upto_region 4 with fail
  obtain ⟨S3, hS3⟩ : ∃ z, z = w3.heap.size := ⟨_, rfl⟩
  have bS3 := Bx.new_at w3 #[.int .i64 0, .int .i64 0, .slice none 0 0] 63 hS3
  replace hin := hin.alloc (.cells #[.int .i64 0, .int .i64 0, .slice none 0 0] 63)
  replace bx := bx.alloc (.cells #[.int .i64 0, .int .i64 0, .slice none 0 0] 63)
  replace hbad := hbad.call ((Below.refl _ _).alloc (Nat.le_refl _) (.cells #[.int .i64 0, .int .i64 0, .slice none 0 0] 63))
  replace ho := ho.call ((Below.refl _ _).alloc (Nat.le_refl _) (.cells #[.int .i64 0, .int .i64 0, .slice none 0 0] 63))
  replace bS1 := bS1.alloc (.cells #[.int .i64 0, .int .i64 0, .slice none 0 0] 63)
  replace bS2 := bS2.alloc (.cells #[.int .i64 0, .int .i64 0, .slice none 0 0] 63)
  rw [← hS3]
  clear hS3
  generalize w3.alloc (.cells #[.int .i64 0, .int .i64 0, .slice none 0 0] 63) = W3 at *
  clear ho bS1 c2
  have x0 := bx.c0
  have x1 := bx.c1
  have x2 := bx.c2
  have xl := bx.lt
  go_wp2_with fail
  ((with_reducible refine (smul_bad1 hbad).mono ?_))
  rintro e w4 ⟨rfl, hb⟩
  replace hin := hin.call hb
  replace bx := bx.call hb
  replace hbad := hbad.call hb
  replace bS2 := bS2.call hb
  replace bS3 := bS3.call hb
  clear hb x0 x1 x2 xl
  go_upto_region 5 with fail
  obtain ⟨S4, hS4⟩ : ∃ z, z = w4.heap.size := ⟨_, rfl⟩
  have bS4 := Bx.new_at w4 #[.int .i64 0, .int .i64 0, .slice none 0 0] 63 hS4
  replace hin := hin.alloc (.cells #[.int .i64 0, .int .i64 0, .slice none 0 0] 63)
  replace bx := bx.alloc (.cells #[.int .i64 0, .int .i64 0, .slice none 0 0] 63)
  replace hbad := hbad.call ((Below.refl _ _).alloc (Nat.le_refl _) (.cells #[.int .i64 0, .int .i64 0, .slice none 0 0] 63))
  replace bS2 := bS2.alloc (.cells #[.int .i64 0, .int .i64 0, .slice none 0 0] 63)
  replace bS3 := bS3.alloc (.cells #[.int .i64 0, .int .i64 0, .slice none 0 0] 63)
  rw [← hS4]
  clear hS4
  generalize w4.alloc (.cells #[.int .i64 0, .int .i64 0, .slice none 0 0] 63) = W4 at *
  have x0 := bx.c0
  have x1 := bx.c1
  have x2 := bx.c2
  have xl := bx.lt
  have h := In.self W4
  have hc := h.cell
  refine wp_region_flow 7 (by kernel_rfl) (by kernel_rfl) (fun _ _ d _ _ h => by cases d <;> exact h) ?_; simp only [List.take_succ_cons, List.take_zero, List.drop_succ_cons, List.drop_zero]; simp only [putAll, Act.put, List.setIfInBounds_toArray, List.set]; (try simp only [Nat.reduceAdd]); (try simp only [Nat.zero_add]); (repeat (first | ((with_reducible refine flow_float (v := ?_) ?_ ?_ ?_); rotate_left 1; (focus (with_reducible rfl)); (focus (intro u w1 hw hd w2; (try simp only [depH] at hd); (try simp only [ext] at hd); (try simp only [extU] at hd); (try simp only [Nat.reduceAdd] at hd); (try simp only [Nat.reduceEqDiff] at hd); (try simp only [reduceIte] at hd); (try simp only [if_true] at hd); (try simp only [if_false] at hd); (try simp only [and_true] at hd); (try simp only [true_and] at hd); go_simp; exact rfl))) | ((with_reducible refine flow_pure0 (v := ?_) ?_ ?_ ?_ ?_); rotate_left 1; (focus (with_reducible rfl)); (focus rfl); (focus (intro u w1 hw hd; (try simp only [depH] at hd); (try simp only [ext] at hd); (try simp only [extU] at hd); (try simp only [Nat.reduceAdd] at hd); (try simp only [Nat.reduceEqDiff] at hd); (try simp only [reduceIte] at hd); (try simp only [if_true] at hd); (try simp only [if_false] at hd); (try simp only [and_true] at hd); (try simp only [true_and] at hd); have hc' := hw.cell; go_simp; exact rfl))) | ((with_reducible refine flow_skipg (j := ?_) (b := ?_) ?_ ?_ ?_); rotate_left 2; (focus (with_reducible rfl)); (focus (intro u w1 hw hd; (try simp only [depH] at hd); (try simp only [ext] at hd); (try simp only [extU] at hd); (try simp only [Nat.reduceAdd] at hd); (try simp only [Nat.reduceEqDiff] at hd); (try simp only [reduceIte] at hd); (try simp only [if_true] at hd); (try simp only [if_false] at hd); (try simp only [and_true] at hd); (try simp only [true_and] at hd); simp [yielded, hd]; done))) | ((with_reducible refine flow_pureg (v := ?_) (j := ?_) (b := ?_) ?_ ?_ ?_ ?_); rotate_left 3; (focus (with_reducible rfl)); (focus (intro u w1 hw hd; (try simp only [depH] at hd); (try simp only [ext] at hd); (try simp only [extU] at hd); (try simp only [Nat.reduceAdd] at hd); (try simp only [Nat.reduceEqDiff] at hd); (try simp only [reduceIte] at hd); (try simp only [if_true] at hd); (try simp only [if_false] at hd); (try simp only [and_true] at hd); (try simp only [true_and] at hd); simp [yielded, hd]; done)); (focus (intro u w1 hw hd; (try simp only [depH] at hd); (try simp only [ext] at hd); (try simp only [extU] at hd); (try simp only [Nat.reduceAdd] at hd); (try simp only [Nat.reduceEqDiff] at hd); (try simp only [reduceIte] at hd); (try simp only [if_true] at hd); (try simp only [if_false] at hd); (try simp only [and_true] at hd); (try simp only [true_and] at hd); have hc' := hw.cell; go_simp; exact rfl))) | ((with_reducible refine flow_alloc (t := ?_) (zs := ?_) ?_ ?_ ?_ ?_); rotate_left 2; (focus (with_reducible rfl)); (focus rfl); (focus (intro u w1; go_simp; exact rfl))) | ((with_reducible refine flow_pure0 (v := ?_) ?_ ?_ ?_ ?_); rotate_left 1; (focus (with_reducible rfl)); (focus rfl); (focus (intro u w1 hw hd; (try simp only [depH] at hd); (try simp only [ext] at hd); (try simp only [extU] at hd); (try simp only [Nat.reduceAdd] at hd); (try simp only [Nat.reduceEqDiff] at hd); (try simp only [reduceIte] at hd); (try simp only [if_true] at hd); (try simp only [if_false] at hd); (try simp only [and_true] at hd); (try simp only [true_and] at hd); have hc' := hw.cell; go_simp; go_at_call 34; ((with_reducible refine (cI _).mono ?_)); rintro e w'' ⟨rfl, hb⟩; refine ⟨?_, hb⟩; exact rfl))) | ((with_reducible refine flow_pureg (v := ?_) (j := ?_) (b := ?_) ?_ ?_ ?_ ?_); rotate_left 3; (focus (with_reducible rfl)); (focus (intro u w1 hw hd; (try simp only [depH] at hd); (try simp only [ext] at hd); (try simp only [extU] at hd); (try simp only [Nat.reduceAdd] at hd); (try simp only [Nat.reduceEqDiff] at hd); (try simp only [reduceIte] at hd); (try simp only [if_true] at hd); (try simp only [if_false] at hd); (try simp only [and_true] at hd); (try simp only [true_and] at hd); simp [yielded, hd]; done)); (focus (intro u w1 hw hd; (try simp only [depH] at hd); (try simp only [ext] at hd); (try simp only [extU] at hd); (try simp only [Nat.reduceAdd] at hd); (try simp only [Nat.reduceEqDiff] at hd); (try simp only [reduceIte] at hd); (try simp only [if_true] at hd); (try simp only [if_false] at hd); (try simp only [and_true] at hd); (try simp only [true_and] at hd); have hc' := hw.cell; go_simp; go_at_call 34; ((with_reducible refine (cI _).mono ?_)); rintro e w'' ⟨rfl, hb⟩; refine ⟨?_, hb⟩; exact rfl))) | ((with_reducible refine flow_pure0 (v := ?_) ?_ ?_ ?_ ?_); rotate_left 1; (focus (with_reducible rfl)); (focus rfl); (focus (intro u w1 hw hd; (try simp only [depH] at hd); (try simp only [ext] at hd); (try simp only [extU] at hd); (try simp only [Nat.reduceAdd] at hd); (try simp only [Nat.reduceEqDiff] at hd); (try simp only [reduceIte] at hd); (try simp only [if_true] at hd); (try simp only [if_false] at hd); (try simp only [and_true] at hd); (try simp only [true_and] at hd); have hc' := hw.cell; go_simp; go_at_call 50; ((with_reducible refine (sscale_bad (hbad.call hw.ins.bel) _).mono ?_)); rintro e w'' ⟨rfl, hb⟩; refine ⟨?_, hb⟩; exact rfl))) | ((with_reducible refine flow_pureg (v := ?_) (j := ?_) (b := ?_) ?_ ?_ ?_ ?_); rotate_left 3; (focus (with_reducible rfl)); (focus (intro u w1 hw hd; (try simp only [depH] at hd); (try simp only [ext] at hd); (try simp only [extU] at hd); (try simp only [Nat.reduceAdd] at hd); (try simp only [Nat.reduceEqDiff] at hd); (try simp only [reduceIte] at hd); (try simp only [if_true] at hd); (try simp only [if_false] at hd); (try simp only [and_true] at hd); (try simp only [true_and] at hd); simp [yielded, hd]; done)); (focus (intro u w1 hw hd; (try simp only [depH] at hd); (try simp only [ext] at hd); (try simp only [extU] at hd); (try simp only [Nat.reduceAdd] at hd); (try simp only [Nat.reduceEqDiff] at hd); (try simp only [reduceIte] at hd); (try simp only [if_true] at hd); (try simp only [if_false] at hd); (try simp only [and_true] at hd); (try simp only [true_and] at hd); have hc' := hw.cell; go_simp; go_at_call 50; ((with_reducible refine (sscale_bad (hbad.call hw.ins.bel) _).mono ?_)); rintro e w'' ⟨rfl, hb⟩; refine ⟨?_, hb⟩; exact rfl)))))
  (try clear hc hf h); intro u w' h ha hdi; replace h := h.ins; (try simp only [World.size_alloc] at h); (try dsimp only at ha); (repeat rw [World.size_alloc] at ha); (try simp only [allH] at ha); (try simp only [ext] at ha); (try simp only [extU] at ha); (try simp only [Nat.reduceAdd] at ha); (try simp only [Nat.reduceEqDiff] at ha); (try simp only [reduceIte] at ha); (try simp only [if_true] at ha); (try simp only [if_false] at ha); (try simp only [and_true] at ha); (try simp only [true_and] at ha); have hc := h.cell; have hf := h.frozen
  obtain ⟨ha, S5, hu, hS, bS5⟩ := ha
  (try obtain ha := ha); (try dsimp only);  simp only [ha, hu]; clear ha hdi hu
  have p0 := bS5.c0
  have pf0 := bS5.frozen 0
  have p1 := bS5.c1
  have pf1 := bS5.frozen 1
  have p2 := bS5.c2
  have pf2 := bS5.frozen 2
  have pl := bS5.lt
  have KS := Lib.hid (((bS5.set 0 (.int .i64 0)).set 1 (.int .i64 0)).set 2 (.slice none 0 0))
  have KH := Lib.hid (((h.setCell (p := ⟨S5, 0, none⟩) (by simp; omega) (.int .i64 0)).setCell (p := ⟨S5, 1, none⟩) (by simp; omega) (.int .i64 0)).setCell (p := ⟨S5, 2, none⟩) (by simp; omega) (.slice none 0 0))
  clear hc hf h hS bS5 cI x0 x1 x2 xl
  go_upto_region 6 with fail
  have hb := KH.out.bel
  have bS5 := KS.out
  simp only [List.set] at bS5
  replace hin := hin.call hb
  replace bx := bx.call hb
  replace hbad := hbad.call hb
  replace bS2 := bS2.call hb
  replace bS3 := bS3.call hb
  replace bS4 := bS4.call hb
  clear KS KH hb p0 p1 p2 pf0 pf1 pf2 pl
  generalize ((w'.setCell ⟨S5, 0, none⟩ (.int .i64 0)).setCell ⟨S5, 1, none⟩ (.int .i64 0)).setCell ⟨S5, 2, none⟩ (.slice none 0 0) = W5 at *
  have x0 := bx.c0
  have x1 := bx.c1
  have x2 := bx.c2
  have xl := bx.lt
  go_wp2_with fail
  ((with_reducible refine (sturn_bad hbad).mono ?_))
  rintro e w6 ⟨rfl, hb⟩
  replace hin := hin.call hb
  replace bx := bx.call hb
  replace hbad := hbad.call hb
  replace bS2 := bS2.call hb
  replace bS3 := bS3.call hb
  replace bS4 := bS4.call hb
  replace bS5 := bS5.call hb
  clear hb x0 x1 x2 xl
  go_upto_region 7 with fail
  obtain ⟨S6, hS6⟩ : ∃ z, z = w6.heap.size := ⟨_, rfl⟩
  have bS6 := Bx.new_at w6 #[.int .i64 0, .int .i64 0, .slice none 0 0] 63 hS6
  replace hin := hin.alloc (.cells #[.int .i64 0, .int .i64 0, .slice none 0 0] 63)
  replace bx := bx.alloc (.cells #[.int .i64 0, .int .i64 0, .slice none 0 0] 63)
  replace hbad := hbad.call ((Below.refl _ _).alloc (Nat.le_refl _) (.cells #[.int .i64 0, .int .i64 0, .slice none 0 0] 63))
  replace bS2 := bS2.alloc (.cells #[.int .i64 0, .int .i64 0, .slice none 0 0] 63)
  replace bS3 := bS3.alloc (.cells #[.int .i64 0, .int .i64 0, .slice none 0 0] 63)
  replace bS4 := bS4.alloc (.cells #[.int .i64 0, .int .i64 0, .slice none 0 0] 63)
  replace bS5 := bS5.alloc (.cells #[.int .i64 0, .int .i64 0, .slice none 0 0] 63)
  rw [← hS6]
  clear hS6
  generalize w6.alloc (.cells #[.int .i64 0, .int .i64 0, .slice none 0 0] 63) = W6 at *
  have x0 := bx.c0
  have x1 := bx.c1
  have x2 := bx.c2
  have xl := bx.lt
  go_wp2_with fail
  ((with_reducible refine (spart_inv hbad none none 0 0 0 0).mono ?_))
  rintro e w7 ⟨rfl, hb⟩
  replace hin := hin.call hb
  replace bx := bx.call hb
  replace hbad := hbad.call hb
  replace bS2 := bS2.call hb
  replace bS3 := bS3.call hb
  replace bS4 := bS4.call hb
  replace bS5 := bS5.call hb
  replace bS6 := bS6.call hb
  clear hb x0 x1 x2 xl
  go_upto_region 8 with fail
  obtain ⟨S7, hS7⟩ : ∃ z, z = w7.heap.size := ⟨_, rfl⟩
  have bS7 := Bx.new_at w7 #[.int .i64 0, .int .i64 0, .slice none 0 0] 63 hS7
  replace hin := hin.alloc (.cells #[.int .i64 0, .int .i64 0, .slice none 0 0] 63)
  replace bx := bx.alloc (.cells #[.int .i64 0, .int .i64 0, .slice none 0 0] 63)
  replace hbad := hbad.call ((Below.refl _ _).alloc (Nat.le_refl _) (.cells #[.int .i64 0, .int .i64 0, .slice none 0 0] 63))
  replace bS2 := bS2.alloc (.cells #[.int .i64 0, .int .i64 0, .slice none 0 0] 63)
  replace bS3 := bS3.alloc (.cells #[.int .i64 0, .int .i64 0, .slice none 0 0] 63)
  replace bS4 := bS4.alloc (.cells #[.int .i64 0, .int .i64 0, .slice none 0 0] 63)
  replace bS5 := bS5.alloc (.cells #[.int .i64 0, .int .i64 0, .slice none 0 0] 63)
  replace bS6 := bS6.alloc (.cells #[.int .i64 0, .int .i64 0, .slice none 0 0] 63)
  rw [← hS7]
  clear hS7
  generalize w7.alloc (.cells #[.int .i64 0, .int .i64 0, .slice none 0 0] 63) = W7 at *
  have x0 := bx.c0
  have x1 := bx.c1
  have x2 := bx.c2
  have xl := bx.lt
  go_wp2_with fail
  ((with_reducible refine (sapp_bad hbad none 0 0).mono ?_))
  rintro e w8 ⟨rfl, hb⟩
  replace hin := hin.call hb
  replace bx := bx.call hb
  replace hbad := hbad.call hb
  replace bS2 := bS2.call hb
  replace bS3 := bS3.call hb
  replace bS4 := bS4.call hb
  replace bS5 := bS5.call hb
  replace bS6 := bS6.call hb
  replace bS7 := bS7.call hb
  clear hb x0 x1 x2 xl
  have x0 := bx.c0
  have x1 := bx.c1
  have x2 := bx.c2
  have xl := bx.lt
  go_wp2_with fail
  ((with_reducible refine (sform_bad hbad none none 0 0 0 0).mono ?_))
  rintro e w9 ⟨rfl, hb⟩
  replace hin := hin.call hb
  replace bx := bx.call hb
  replace hbad := hbad.call hb
  replace bS2 := bS2.call hb
  replace bS3 := bS3.call hb
  replace bS4 := bS4.call hb
  replace bS5 := bS5.call hb
  replace bS6 := bS6.call hb
  replace bS7 := bS7.call hb
  clear hb x0 x1 x2 xl
  go_upto_region 10 with fail
  obtain ⟨S9, hS9⟩ : ∃ z, z = w9.heap.size := ⟨_, rfl⟩
  have bS9 := Bx.new_at w9 #[.int .u64 0, .string ⟨#[]⟩, .bool false, .int .u64 0, .string ⟨#[]⟩] 56 hS9
  replace hin := hin.alloc (.cells #[.int .u64 0, .string ⟨#[]⟩, .bool false, .int .u64 0, .string ⟨#[]⟩] 56)
  replace bx := bx.alloc (.cells #[.int .u64 0, .string ⟨#[]⟩, .bool false, .int .u64 0, .string ⟨#[]⟩] 56)
  replace hbad := hbad.call ((Below.refl _ _).alloc (Nat.le_refl _) (.cells #[.int .u64 0, .string ⟨#[]⟩, .bool false, .int .u64 0, .string ⟨#[]⟩] 56))
  replace bS2 := bS2.alloc (.cells #[.int .u64 0, .string ⟨#[]⟩, .bool false, .int .u64 0, .string ⟨#[]⟩] 56)
  replace bS3 := bS3.alloc (.cells #[.int .u64 0, .string ⟨#[]⟩, .bool false, .int .u64 0, .string ⟨#[]⟩] 56)
  replace bS4 := bS4.alloc (.cells #[.int .u64 0, .string ⟨#[]⟩, .bool false, .int .u64 0, .string ⟨#[]⟩] 56)
  replace bS5 := bS5.alloc (.cells #[.int .u64 0, .string ⟨#[]⟩, .bool false, .int .u64 0, .string ⟨#[]⟩] 56)
  replace bS6 := bS6.alloc (.cells #[.int .u64 0, .string ⟨#[]⟩, .bool false, .int .u64 0, .string ⟨#[]⟩] 56)
  replace bS7 := bS7.alloc (.cells #[.int .u64 0, .string ⟨#[]⟩, .bool false, .int .u64 0, .string ⟨#[]⟩] 56)
  rw [← hS9]
  clear hS9
  generalize w9.alloc (.cells #[.int .u64 0, .string ⟨#[]⟩, .bool false, .int .u64 0, .string ⟨#[]⟩] 56) = W9 at *
  have x0 := bx.c0
  have x1 := bx.c1
  have x2 := bx.c2
  have xl := bx.lt
  go_wp2_with fail
  ((with_reducible refine (sdiag_bad hbad).mono ?_))
  rintro e w10 ⟨rfl, hb⟩
  replace hin := hin.call hb
  replace bx := bx.call hb
  replace hbad := hbad.call hb
  replace bS2 := bS2.call hb
  replace bS3 := bS3.call hb
  replace bS4 := bS4.call hb
  replace bS5 := bS5.call hb
  replace bS6 := bS6.call hb
  replace bS7 := bS7.call hb
  replace bS9 := bS9.call hb
  clear hb x0 x1 x2 xl
  have x0 := bx.c0
  have x1 := bx.c1
  have x2 := bx.c2
  have xl := bx.lt
  go_wp2_with fail
  ((with_reducible refine (sdense_bad hbad).mono ?_))
  rintro e w11 ⟨rfl, hb⟩
  replace hin := hin.call hb
  replace bx := bx.call hb
  replace hbad := hbad.call hb
  replace bS2 := bS2.call hb
  replace bS3 := bS3.call hb
  replace bS4 := bS4.call hb
  replace bS5 := bS5.call hb
  replace bS6 := bS6.call hb
  replace bS7 := bS7.call hb
  replace bS9 := bS9.call hb
  clear hb x0 x1 x2 xl
  go_upto_region 12 with fail
  obtain ⟨S11, hS11⟩ : ∃ z, z = w11.heap.size := ⟨_, rfl⟩
  have bS11 := Bx.new_at w11 #[.int .i64 0, .int .i64 0, .slice none 0 0] 78 hS11
  replace hin := hin.alloc (.cells #[.int .i64 0, .int .i64 0, .slice none 0 0] 78)
  replace bx := bx.alloc (.cells #[.int .i64 0, .int .i64 0, .slice none 0 0] 78)
  replace hbad := hbad.call ((Below.refl _ _).alloc (Nat.le_refl _) (.cells #[.int .i64 0, .int .i64 0, .slice none 0 0] 78))
  replace bS2 := bS2.alloc (.cells #[.int .i64 0, .int .i64 0, .slice none 0 0] 78)
  replace bS3 := bS3.alloc (.cells #[.int .i64 0, .int .i64 0, .slice none 0 0] 78)
  replace bS4 := bS4.alloc (.cells #[.int .i64 0, .int .i64 0, .slice none 0 0] 78)
  replace bS5 := bS5.alloc (.cells #[.int .i64 0, .int .i64 0, .slice none 0 0] 78)
  replace bS6 := bS6.alloc (.cells #[.int .i64 0, .int .i64 0, .slice none 0 0] 78)
  replace bS7 := bS7.alloc (.cells #[.int .i64 0, .int .i64 0, .slice none 0 0] 78)
  replace bS9 := bS9.alloc (.cells #[.int .i64 0, .int .i64 0, .slice none 0 0] 78)
  rw [← hS11]
  clear hS11
  generalize w11.alloc (.cells #[.int .i64 0, .int .i64 0, .slice none 0 0] 78) = W11 at *
  have x0 := bx.c0
  have x1 := bx.c1
  have x2 := bx.c2
  have xl := bx.lt
  go_wp2_with fail
  ((with_reducible refine (satt_bad hbad 0 0).mono ?_))
  rintro e w12 ⟨rfl, hb⟩
  replace hin := hin.call hb
  replace bx := bx.call hb
  replace hbad := hbad.call hb
  replace bS2 := bS2.call hb
  replace bS3 := bS3.call hb
  replace bS4 := bS4.call hb
  replace bS5 := bS5.call hb
  replace bS6 := bS6.call hb
  replace bS7 := bS7.call hb
  replace bS9 := bS9.call hb
  replace bS11 := bS11.call hb
  clear hb x0 x1 x2 xl
  go_upto_region 13 with fail
  obtain ⟨S12, hS12⟩ : ∃ z, z = w12.heap.size := ⟨_, rfl⟩
  have bS12 := Bx.new_at w12 #[.int .u64 0, .string ⟨#[]⟩, .bool false, .int .u64 0, .string ⟨#[]⟩] 56 hS12
  replace hin := hin.alloc (.cells #[.int .u64 0, .string ⟨#[]⟩, .bool false, .int .u64 0, .string ⟨#[]⟩] 56)
  replace bx := bx.alloc (.cells #[.int .u64 0, .string ⟨#[]⟩, .bool false, .int .u64 0, .string ⟨#[]⟩] 56)
  replace hbad := hbad.call ((Below.refl _ _).alloc (Nat.le_refl _) (.cells #[.int .u64 0, .string ⟨#[]⟩, .bool false, .int .u64 0, .string ⟨#[]⟩] 56))
  replace bS2 := bS2.alloc (.cells #[.int .u64 0, .string ⟨#[]⟩, .bool false, .int .u64 0, .string ⟨#[]⟩] 56)
  replace bS3 := bS3.alloc (.cells #[.int .u64 0, .string ⟨#[]⟩, .bool false, .int .u64 0, .string ⟨#[]⟩] 56)
  replace bS4 := bS4.alloc (.cells #[.int .u64 0, .string ⟨#[]⟩, .bool false, .int .u64 0, .string ⟨#[]⟩] 56)
  replace bS5 := bS5.alloc (.cells #[.int .u64 0, .string ⟨#[]⟩, .bool false, .int .u64 0, .string ⟨#[]⟩] 56)
  replace bS6 := bS6.alloc (.cells #[.int .u64 0, .string ⟨#[]⟩, .bool false, .int .u64 0, .string ⟨#[]⟩] 56)
  replace bS7 := bS7.alloc (.cells #[.int .u64 0, .string ⟨#[]⟩, .bool false, .int .u64 0, .string ⟨#[]⟩] 56)
  replace bS9 := bS9.alloc (.cells #[.int .u64 0, .string ⟨#[]⟩, .bool false, .int .u64 0, .string ⟨#[]⟩] 56)
  replace bS11 := bS11.alloc (.cells #[.int .u64 0, .string ⟨#[]⟩, .bool false, .int .u64 0, .string ⟨#[]⟩] 56)
  rw [← hS12]
  clear hS12
  generalize w12.alloc (.cells #[.int .u64 0, .string ⟨#[]⟩, .bool false, .int .u64 0, .string ⟨#[]⟩] 56) = W12 at *
  go_upto_region 15 with fail
  have a0 := bS2.c0
  have al := bS2.lt
  have b0 := bS3.c0
  have bl := bS3.lt
  have c0 := bS4.c0
  have cl := bS4.lt
  have d0 := bS5.c0
  have dl := bS5.lt
  have e0 := bS6.c0
  have el := bS6.lt
  have f0 := bS7.c0
  have fl := bS7.lt
  have g0 := bS11.c0
  have g1 := bS11.c1
  have g2 := bS11.c2
  have gl := bS11.lt
  have q0 := bS9.c0
  have q1 := bS9.c1
  have q2 := bS9.c2
  have q3 := bS9.c3
  have q4 := bS9.c4
  have ql := bS9.lt
  have r0 := bS12.c0
  have r1 := bS12.c1
  have r2 := bS12.c2
  have r3 := bS12.c3
  have r4 := bS12.c4
  have rl := bS12.lt
  have x0 := bx.c0
  have x1 := bx.c1
  have x2 := bx.c2
  have xl := bx.lt
  go_wp2_with fail
  ((with_reducible refine (ssymm_bad hbad).mono ?_))
  rintro e w13 ⟨rfl, hb⟩
  replace hin := hin.call hb
  replace bx := bx.call hb
  replace hbad := hbad.call hb
  replace bS2 := bS2.call hb
  replace bS3 := bS3.call hb
  replace bS4 := bS4.call hb
  replace bS5 := bS5.call hb
  replace bS6 := bS6.call hb
  replace bS7 := bS7.call hb
  replace bS9 := bS9.call hb
  replace bS11 := bS11.call hb
  replace bS12 := bS12.call hb
  clear hb ceq a0 al b0 bl c0 cl d0 dl e0 el f0 fl g0 g1 g2 gl q0 q1 q2 q3 q4 ql r0 r1 r2 r3 r4 rl x0 x1 x2 xl bS2 bS3 bS4 bS5 bS6 bS7 bS9 bS11 bS12
  have x0 := bx.c0
  have x1 := bx.c1
  have x2 := bx.c2
  have xl := bx.lt
  go_wp2_with fail
  ((with_reducible refine (scount_bad hbad).mono ?_))
  rintro e w14 ⟨rfl, hb⟩
  replace hin := hin.call hb
  replace bx := bx.call hb
  replace hbad := hbad.call hb
  clear hb x0 x1 x2 xl
  have x0 := bx.c0
  have x1 := bx.c1
  have x2 := bx.c2
  have xl := bx.lt
  go_wp2_with fail
  ((with_reducible refine (sitems_bad hbad).mono ?_))
  rintro e w15 ⟨rfl, hb⟩
  replace hin := hin.call hb
  replace bx := bx.call hb
  replace hbad := hbad.call hb
  clear hb x0 x1 x2 xl
  have x0 := bx.c0
  have x1 := bx.c1
  have x2 := bx.c2
  have xl := bx.lt
  go_wp2_with fail
  ((with_reducible refine (stext_bad hbad).mono ?_))
  rintro e w16 ⟨rfl, hb⟩
  replace hin := hin.call hb
  replace bx := bx.call hb
  replace hbad := hbad.call hb
  clear hb x0 x1 x2 xl
  go_wp2_with fail
  go_ret
  exact ⟨rfl, hin.bel⟩
end Gus
end
section
/- Values of type Sparse as gussetlaw16.SparsesChecks builds them. -/
namespace Gus
open Go Go.RowKit Go.Proofs
/-- an entry of a statement's raw matrix: column, numerator, denominator -/
abbrev EQ := Int × Int × Int
def eI (x : EQ) : EntI := (x.1, qOf x.2.1 x.2.2)
def EOk (l : List EQ) : Prop := ∀ x ∈ l, -9223372036854775808 ≤ x.2.1 ∧ x.2.1 < 9223372036854775808 ∧ 0 ≤ x.2.2 ∧ x.2.2 < 4294967296
def EAt (w : World) (v : Value) (l : List EQ) : Prop := ∃ a cap, v = .slice a l.length cap ∧ ∀ k, k < l.length → ∃ b off, a = some ⟨b, off, none⟩ ∧ b < w.heap.size ∧ w.cell? ⟨b, off + k * 3, none⟩ = some (.int .i64 (l.getD k (0, 0, 0)).1) ∧ w.cell? ⟨b, off + k * 3 + 1, none⟩ = some (.int .i64 (l.getD k (0, 0, 0)).2.1) ∧ w.cell? ⟨b, off + k * 3 + 2, none⟩ = some (.int .u32 (l.getD k (0, 0, 0)).2.2)
def RawAt (w : World) (a : Option Addr) (es : List (List EQ)) : Prop := ∀ i, i < es.length → ∃ b off x, a = some ⟨b, off, none⟩ ∧ b < w.heap.size ∧ w.cell? ⟨b, off + i, none⟩ = some x ∧ EAt w x (es.getD i [])
theorem qOf_zero (n d : Int) : qOf n d = 0 ↔ n = 0 := by
  unfold qOf
  constructor
  · intro h
    have hd : ((max d 1 : Int) : Rat) ≠ 0 := by
      intro h0
      have : max d 1 = 0 := by exact_mod_cast h0
      omega
    have h1 : (n : Rat) / ((max d 1 : Int) : Rat) * ((max d 1 : Int) : Rat) = n := Rat.div_mul_cancel hd
    rw [h, Rat.zero_mul] at h1
    exact_mod_cast h1.symm
  · rintro rfl
    rw [Rat.div_def]; exact Rat.zero_mul _
/-- the law's own test of a row -/
def stepB (m : Int) (s : Bool × Int) (x : EQ) : Bool × Int := (s.1 || decide (x.1 ≤ s.2) || decide (m ≤ x.1) || decide (x.2.1 = 0), x.1)
def foldB (m : Int) (b : Bool) (l : List EQ) : Bool × Int := l.foldl (stepB m) (b, -1)
theorem foldB_snoc (m : Int) (b : Bool) (l : List EQ) (x : EQ) : foldB m b (l ++ [x]) = stepB m (foldB m b l) x := by simp [foldB, List.foldl_append]
theorem fold_row (m : Int) : ∀ (l : List EQ) (b : Bool) (last : Int), (l.foldl (stepB m) (b, last)).1 = (b || !rowOk m last (l.map eI))
  | [], b, last => by simp [rowOk]
  | x :: l, b, last => by
    rw [List.foldl_cons, stepB, fold_row m l, List.map_cons, rowOk]
    have h1 : decide (last < (eI x).1) = !decide (x.1 ≤ last) := by
      rw [← decide_not]; exact decide_eq_decide.2 (show last < x.1 ↔ _ by omega)
    have h2 : decide ((eI x).1 < m) = !decide (m ≤ x.1) := by
      rw [← decide_not]; exact decide_eq_decide.2 (show x.1 < m ↔ _ by omega)
    have h3 : decide ((eI x).2 ≠ 0) = !decide (x.2.1 = 0) := by
      rw [← decide_not]; exact decide_eq_decide.2 (by show qOf _ _ ≠ 0 ↔ _; rw [ne_eq, qOf_zero])
    rw [h1, h2, h3]
    show (b || decide (x.1 ≤ last) || decide (m ≤ x.1) || decide (x.2.1 = 0) || !rowOk m x.1 (l.map eI)) = (b || !(!decide (x.1 ≤ last) && !decide (m ≤ x.1) && !decide (x.2.1 = 0) && rowOk m x.1 (l.map eI)))
    generalize decide (x.1 ≤ last) = p
    generalize decide (m ≤ x.1) = q
    generalize decide (x.2.1 = 0) = r
    generalize rowOk m x.1 (l.map eI) = s
    cases b <;> cases p <;> cases q <;> cases r <;> cases s <;> rfl
/-- whether a row so far is bad -/
def badTo (n m : Int) (es : List (List EQ)) (i : Nat) : Bool := !decide ((es.length : Int) = n) || (es.take i).any fun l => !rowOk m (-1) (l.map eI)
theorem badTo_succ (n m : Int) (es : List (List EQ)) {i : Nat} (hi : i < es.length) : (foldB m (badTo n m es i) (es.getD i [])).1 = badTo n m es (i + 1) := by
  unfold foldB badTo
  rw [fold_row, List.take_add_one, List.any_append, List.getElem?_eq_getElem hi, List.getD_eq_getElem?_getD, List.getElem?_eq_getElem hi]
  simp [Bool.or_assoc]
theorem checkS_bad (n m : Int) (es : List (List EQ)) : checkS n m (es.map fun l => l.map eI) = if sidesE n m ≠ 0 then sidesE n m else if badTo n m es es.length = true then 1 else 0 := by
  unfold checkS badTo
  rw [List.length_map, List.take_length]
  by_cases h0 : sidesE n m ≠ 0
  · rw [if_pos h0, if_pos h0]
  rw [if_neg h0, if_neg h0]
  by_cases h1 : (es.length : Int) = n
  · rw [if_neg (by simpa using h1), decide_eq_true h1, Bool.not_true, Bool.false_or, List.all_map]
    have e : (es.any fun l => !rowOk m (-1) (l.map eI)) = !(es.all fun l => rowOk m (-1) (l.map eI)) := by rw [List.not_all_eq_any_not]
    rw [e]
    have e2 : (es.all ((rowOk m (-1)) ∘ fun l => l.map eI)) = es.all fun l => rowOk m (-1) (l.map eI) := rfl
    rw [e2]
    cases es.all fun l => rowOk m (-1) (l.map eI) <;> rfl
  · rw [if_pos h1, decide_eq_false h1, if_pos (by simp)]
/-- a finished row: entries in a block of its own -/
def RowF (w : World) (x : Value) (es : List EntI) : Prop := (x = .slice none 0 0 ∧ es = []) ∨ ∃ g cap cur, x = .slice (some ⟨g, 0, none⟩) es.length cap ∧ w.heap[g]? = some (.cells cur 111 (0, 0)) ∧ cur.toList.take (es.length * 6) = es.flatMap ecsI
theorem ecsI_length (e : EntI) : (ecsI e).length = 6 := rfl
theorem flatI_at : ∀ (es : List EntI) (i j : Nat), i < es.length → j < 6 → (es.flatMap ecsI)[i * 6 + j]? = (ecsI (es.getD i (0, 0)))[j]?
  | [], i, j, h, _ => absurd h (Nat.not_lt_zero _)
  | e :: es, 0, j, _, hj => by
    rw [List.flatMap_cons, Nat.zero_mul, Nat.zero_add, List.getElem?_append_left (by rw [ecsI_length]; exact hj)]; rfl
  | e :: es, i + 1, j, h, hj => by
    rw [List.flatMap_cons, List.getElem?_append_right (by rw [ecsI_length]; omega), ecsI_length, show (i + 1) * 6 + j - 6 = i * 6 + j by omega, flatI_at es i j (by simpa using h) hj]
    rfl
theorem RowF.own {w : World} {base : Nat} {v : Value} {es : List EntI} (h : w.ownsRow base 111 6 v es.length (es.flatMap ecsI)) : RowF w v es := by
  rcases h.2 with ⟨rfl, hn⟩ | ⟨g, cap, cur, rfl, _, hg, _, _, _, h4⟩
  · exact .inl ⟨rfl, List.length_eq_zero_iff.1 hn⟩
  · exact .inr ⟨g, cap, cur, rfl, hg, h4⟩
theorem RowF.of_block {w w' : World} {v : Value} {es : List EntI} (h : RowF w v es) (hb : ∀ (g : Nat) (cur : Array Value), w.heap[g]? = some (Obj.cells cur 111 (0, 0)) → w'.heap[g]? = w.heap[g]?) : RowF w' v es := by
  rcases h with h | ⟨g, cap, cur, rfl, hg, h4⟩
  · exact .inl h
  · exact .inr ⟨g, cap, cur, rfl, (hb g cur hg).trans hg, h4⟩
theorem RowF.call {w w' : World} {v : Value} {es : List EntI} (h : RowF w v es) (hb : Below w.heap.size w w') : RowF w' v es := h.of_block fun g _ hg => hb.block g (Array.getElem?_eq_some_iff.1 hg).1
theorem RowF.g {w : World} {v : Value} {es : List EntI} (h : RowF w v es) : RowG w v es := by
  rcases h with ⟨rfl, rfl⟩ | ⟨g, cap, cur, rfl, hg, h4⟩
  · exact ⟨none, 0, rfl, fun i hi => absurd hi (Nat.not_lt_zero _)⟩
  · refine ⟨some ⟨g, 0, none⟩, cap, rfl, fun i hi => ⟨g, 0, rfl, (Array.getElem?_eq_some_iff.1 hg).1, fun j hj => ?_⟩⟩
    rw [← flatI_at es i j hi hj, cell_of_row w g _ _ _ _ hg, ← h4, List.getElem?_take, if_pos (by omega), Array.getElem?_toList, Nat.zero_add]
theorem RowF.set {w : World} {v x : Value} {es : List EntI} {S : Nat} {cs : List Value} (h : RowF w v es) (hS : Bx w S 63 cs) (j : Nat) : RowF (w.setCell ⟨S, j, none⟩ x) v es := h.of_block fun g cur hg => heap_setCell_other w ⟨S, j, none⟩ g x (by
  show g ≠ S
  rintro rfl
  have h6 : w.heap[g]? = some (Obj.cells cs.toArray 63 (0, 0)) := hS
  rw [h6] at hg
  injection hg with h7
  injection h7 with _ h8
  exact absurd h8 (by decide))
/-- the rows so far -/
def OutF (w : World) (lo : Nat) (v : Value) (k : Nat) (es : List (List EQ)) : Prop := ∃ vs, w.ownsRow lo 107 1 v k vs ∧ ∀ i, i < k → RowF w (vs.getD i undef) ((es.getD i []).map eI)
theorem OutF.call {w w' : World} {lo k : Nat} {v : Value} {es : List (List EQ)} (h : OutF w lo v k es) (hb : Below w.heap.size w w') : OutF w' lo v k es := by
  obtain ⟨vs, h1, h2⟩ := h
  exact ⟨vs, h1.kept (row := none) ⟨hb.os, hb.tape, hb.output, hb.size, fun k hk _ => hb.block k hk⟩ (by cases v.ownBlock <;> simp), fun i hi => (h2 i hi).call hb⟩
theorem OutF.snoc {w w' : World} {lo k : Nat} {v v' x : Value} {es : List (List EQ)} {vs : List Value} (h1 : w.ownsRow lo 107 1 v k vs) (h2 : ∀ i, i < k → RowF w (vs.getD i undef) ((es.getD i []).map eI)) (hx : RowF w x ((es.getD k []).map eI))
    (hown : w'.ownsRow lo 107 1 v' (k + 1) (vs ++ [x])) (hg : w.grownBy w' v.ownBlock) : OutF w' lo v' (k + 1) es := by
  have hvl : vs.length = k := by have := h1.1; omega
  have keep : ∀ y l, RowF w y l → RowF w' y l := fun y l hy => hy.of_block fun g cur hgc => hg.block g (Array.getElem?_eq_some_iff.1 hgc).1 (fun e => by
    rcases h1.2 with ⟨rfl, _⟩ | ⟨g2, cap2, cur2, rfl, _, hg2, _⟩
    · simp [Value.ownBlock] at e
    · simp [Value.ownBlock] at e
      subst e
      rw [hgc] at hg2
      injection hg2 with h7
      injection h7 with _ h8
      exact absurd h8 (by decide))
  refine ⟨_, hown, fun i hi => ?_⟩
  by_cases hik : i < k
  · rw [List.getD_eq_getElem?_getD, List.getElem?_append_left (by omega), ← List.getD_eq_getElem?_getD]
    exact keep _ _ (h2 i hik)
  · obtain rfl : i = k := by omega
    rw [List.getD_eq_getElem?_getD, List.getElem?_append_right (by omega), hvl, Nat.sub_self]
    exact keep _ _ hx
theorem OutF.spG {w : World} {lo : Nat} {v : Value} {n m : Int} {es : List (List EQ)} (h : OutF w lo v es.length es) (hL : es.length ≤ maxLen) : SpG w (.agg #[.int .i64 n, .int .i64 m, v]) n m (es.map fun l => l.map eI) := by
  obtain ⟨vs, h1, h2⟩ := h
  rcases h1.2 with ⟨rfl, hn⟩ | ⟨g, cap, cur, rfl, _, hg, hnc, _, _, h4⟩
  · have : es = [] := List.length_eq_zero_iff.1 hn
    subst this
    exact ⟨none, 0, rfl, fun i hi => absurd hi (Nat.not_lt_zero _)⟩
  · refine ⟨some ⟨g, 0, none⟩, cap, by rw [List.length_map], fun i hi => ?_⟩
    rw [List.length_map] at hi
    have hvl : vs.length = es.length := by have := h1.1; omega
    refine ⟨g, 0, vs.getD i undef, rfl, (Array.getElem?_eq_some_iff.1 hg).1, ?_, ?_⟩
    · rw [cell_of_row w g _ _ _ _ hg, Nat.zero_add]
      have h5 : (cur.toList.take (es.length * 1))[i]? = vs[i]? := by rw [h4]
      rw [List.getElem?_take, if_pos (by omega), Array.getElem?_toList] at h5
      rw [h5, List.getD_eq_getElem?_getD, List.getElem?_eq_getElem (by omega)]; rfl
    · have e : (es.map fun l => l.map eI).getD i [] = (es.getD i []).map eI := by
        simp only [List.getD_eq_getElem?_getD, List.getElem?_map, List.getElem?_eq_getElem hi]; rfl
      rw [e]; exact (h2 i hi).g
end Gus
end
section
/- gussetlaw16.SparsesChecks. -/
namespace Gus
open Go Go.RowKit Go.Proofs
theorem OutF.setS {w : World} {lo S k : Nat} {v x : Value} {es : List (List EQ)} {cs : List Value} (h : OutF w lo v k es) (hS : Bx w S 63 cs) (hlo : S < lo) (j : Nat) : OutF (w.setCell ⟨S, j, none⟩ x) lo v k es := by
  obtain ⟨vs, h1, h2⟩ := h
  exact ⟨vs, ownsRow_setCell_low h1 (a := ⟨S, j, none⟩) hlo x, fun i hi => (h2 i hi).set hS j⟩
theorem OutF.start (w : World) (lo : Nat) (es : List (List EQ)) : OutF w lo (.slice none 0 0) 0 es := ⟨[], World.ownsRow_nil _ _ _ _, fun _ hi => absurd hi (Nat.not_lt_zero _)⟩
theorem OutF.shape {w : World} {lo k : Nat} {v : Value} {es : List (List EQ)} (h : OutF w lo v k es) : ∃ a c, v = .slice a k c := by
  obtain ⟨vs, h1, _⟩ := h
  rcases h1.2 with ⟨rfl, hn⟩ | ⟨g, c, _, rfl, _⟩
  · exact ⟨none, 0, by rw [hn]⟩
  · exact ⟨_, _, rfl⟩
theorem SpG.bad {w : World} {v : Value} {n m : Int} {rows : List (List EntI)} (h : SpG w v n m rows) (hr : rows.length ≤ 4096) (hl : ∀ i, (rows.getD i []).length ≤ 4096) {err : Int} (he : checkS n m rows = err) (h0 : err ≠ 0) : BadAt w v err :=
  ⟨by obtain ⟨a, cap, rfl, _⟩ := h; exact ⟨_, _, _, _, _, rfl⟩, fun W hb => by subst he; exact scheck_any W v n m rows (h.call hb) hr hl, h0⟩
theorem getD_map_eI (es : List (List EQ)) (i : Nat) : (es.map fun l => l.map eI).getD i [] = (es.getD i []).map eI := by
  simp only [List.getD_eq_getElem?_getD, List.getElem?_map]
  cases es[i]? <;> rfl
set_option maxRecDepth 100000 in
set_option maxHeartbeats 16000000 in
theorem checks_any (w : World) (n m : Int) (a : Option Addr) (cap : Nat) (es : List (List EQ)) (hR : RawAt w a es) (hok : ∀ l ∈ es, EOk l) (hl : es.length ≤ maxLen) (hll : ∀ l ∈ es, l.length ≤ maxLen) :
    Calls Tryz.prog 7 #[.agg #[.int .i64 n, .int .i64 m, .slice a es.length cap]] w fun e w' => e = .returned (.bool true) ∧ Below w.heap.size w w' := by
  obtain ⟨i0, hi0, hi1, hi2, hi3⟩ := info_parts info_ent
  obtain ⟨j0, hj0, hj1, hj2, hj3⟩ := info_parts info_rows
  have cz := works_any
  obtain ⟨L, hL⟩ : ∃ L, L = es.length := ⟨_, rfl⟩
  have HR := Lib.hid hR
  have HOK := Lib.hid hok
  have HLL := Lib.hid hll
  rw [← hL] at hl ⊢
  have HL := Lib.hid hL
  simp only [maxLen] at hl
  obtain ⟨X, hX⟩ : ∃ X, X = w.heap.size := ⟨_, rfl⟩
  have HX := Lib.hid hX
  clear hR hok hll hL
  go_enter Tryz.func7, Tryz.ntmps7
  by_cases hL12 : L ≤ 12
  · have k1 : ¬ (12 : Int) < L := by omega
    go_upto_region 4 with fail
    have bx := (Bx.new_at w #[.int .i64 n, .int .i64 m, .slice a L cap] 105 hX).alloc (.cells #[.int .i64 n, .int .i64 m, .slice none 0 0] 63)
    have bs := Bx.new_at (w.alloc (.cells #[.int .i64 n, .int .i64 m, .slice a L cap] 105)) #[.int .i64 n, .int .i64 m, .slice none 0 0] 63 (n := X + 1) (by rw [World.size_alloc, hX])
    have hin := ((In.self w).alloc (.cells #[.int .i64 n, .int .i64 m, .slice a L cap] 105)).alloc (.cells #[.int .i64 n, .int .i64 m, .slice none 0 0] 63)
    rw [← hX] at hin ⊢
    clear hX
    generalize (w.alloc (.cells #[.int .i64 n, .int .i64 m, .slice a L cap] 105)).alloc (.cells #[.int .i64 n, .int .i64 m, .slice none 0 0] 63) = W1 at *
    have x0 := bx.c0
    have x1 := bx.c1
    have x2 := bx.c2
    have xl := bx.lt
    go_wp2_with fail
    clear x0 x1 x2 xl
    go_loopw [5, 6] (fun v5 v6 wr => ∃ (i : Nat) (v : Value), i ≤ L ∧ v6 = .int .i64 i ∧ v5 = .bool (badTo n m es i) ∧ In X w wr ∧ Bx wr X 105 [.int .i64 n, .int .i64 m, .slice a L cap] ∧ Bx wr (X + 1) 63 [.int .i64 n, .int .i64 m, v] ∧ OutF wr (X + 1 + 1) v i es ∧ Hid (∀ j, j < i → (es.getD j []).length ≤ 12)) (fun _ v6 _ => L - (RowKit.intOf v6).toNat)
    case atStart =>
      refine ⟨0, _, Nat.zero_le _, rfl, ?_, hin, bx, bs, OutF.start _ _ _, Lib.hid fun j h => absurd h (Nat.not_lt_zero _)⟩
      have := HL.out
      simp only [badTo, ← this, List.take_zero, List.any_nil, Bool.or_false]
      by_cases h : (L : Int) = n <;> simp [h]
    case round =>
      rename World => wo
      clear hin bx bs
      obtain ⟨i, v, hi, rfl, rfl, hin, bx, bs, hout, HSM⟩ := hrel
      by_cases hiL : i < L
      · have hiI : (i : Int) < L := by omega
        have hi0' : (0 : Int) ≤ i := by omega
        obtain ⟨b, off, x, rfl, hb, hx, hE⟩ := HR.out i (by rw [← HL.out]; exact hiL)
        have hmem : es.getD i [] ∈ es := by
          rw [List.getD_eq_getElem?_getD, List.getElem?_eq_getElem (by rw [← HL.out]; exact hiL)]
          exact List.getElem_mem _
        have hrl := HLL.out _ hmem
        have hrok := HOK.out _ hmem
        obtain ⟨b0, hb0⟩ : ∃ b0, b0 = badTo n m es i := ⟨_, rfl⟩
        have hbs := badTo_succ n m es (i := i) (by rw [← HL.out]; exact hiL)
        rw [← hb0] at hbs ⊢
        obtain ⟨row, hrow⟩ : ∃ row, row = es.getD i [] := ⟨_, rfl⟩
        rw [← hrow] at hE hrl hrok hbs
        have HBS := Lib.hid hbs
        have HROW := Lib.hid hrow
        have HROK := Lib.hid hrok
        clear hmem hb0 hrow hrok hbs
        obtain ⟨ra, rcap, rfl, hcells⟩ := hE
        obtain ⟨rl, hrle⟩ : ∃ rl, rl = row.length := ⟨_, rfl⟩
        rw [← hrle] at hrl hcells hx
        simp only [maxLen] at hrl
        have HRL := Lib.hid hrle
        clear hrle
        rw [← HX.out] at hb
        rw [← hin.cell b _ hb] at hx
        have hbw : b < wo.heap.size := by have := hin.siz; omega
        have HC := Lib.hid hcells
        clear hcells
        by_cases h12 : rl ≤ 12
        · have k2 : ¬ (12 : Int) < rl := by omega
          have HOUT := Lib.hid hout
          have HBX := Lib.hid bx
          have HBS2 := Lib.hid bs
          have HIN := Lib.hid hin
          have x2 := bx.c2
          have xl := bx.lt
          clear hout bx bs hin
          go_wp2_with fail
          clear x2 xl
          go_loopw [5, 7, 8, 9] (fun v5 v7 v8 v9 wq => ∃ (k : Nat) (vq : Value), k ≤ rl ∧ v7 = vq ∧ v9 = .int .i64 k ∧ v5 = .bool (foldB m b0 (row.take k)).1 ∧ v8 = .int .i64 (foldB m b0 (row.take k)).2 ∧ In wo.heap.size wo wq ∧ wq.ownsRow wo.heap.size 111 6 vq k (((row.take k).map eI).flatMap ecsI)) (fun _ _ _ v9 _ => rl - (RowKit.intOf v9).toNat)
          case atStart => exact ⟨0, _, Nat.zero_le _, rfl, rfl, rfl, rfl, In.self _, World.ownsRow_nil _ _ _ _⟩
          case round =>
            rename World => wq
            obtain ⟨k, v7, hk, hv7, rfl, rfl, rfl, hinq, hown⟩ := hrel
            obtain rfl := hv7.symm
            have HOWN := Lib.hid hown
            clear hown
            have x1 := (HBX.out.call hinq.bel).c1
            have x2 := (HBX.out.call hinq.bel).c2
            have xl := (HBX.out.call hinq.bel).lt
            rw [← hinq.cell b _ hbw] at hx
            have hbq : b < wq.heap.size := by have := hinq.siz; omega
            by_cases hkr : k < rl
            · have hkI : (k : Int) < rl := by omega
              have hk0 : (0 : Int) ≤ k := by omega
              obtain ⟨b2, off2, rfl, hb2, hc0, hc1, hc2⟩ := HC.out k hkr
              rw [← HX.out] at hb2
              rw [← HIN.out.cell b2 _ hb2, ← hinq.cell b2 _ (by have := HIN.out.siz; omega)] at hc0 hc1 hc2
              have hb2q : b2 < wq.heap.size := by have := HIN.out.siz; have := hinq.siz; omega
              have hyok := HROK.out (row.getD k (0, 0, 0)) (by rw [List.getD_eq_getElem?_getD, List.getElem?_eq_getElem (by rw [← HRL.out]; exact hkr)]; exact List.getElem_mem _)
              obtain ⟨y, hy⟩ : ∃ y, y = row.getD k (0, 0, 0) := ⟨_, rfl⟩
              rw [← hy] at hc0 hc1 hc2 hyok
              have HY := Lib.hid hy
              clear hy
              obtain ⟨col, nn, dd⟩ := y
              simp only at hc0 hc1 hc2 hyok
              have hcq := qOf_any nn dd hyok.1 hyok.2.1 hyok.2.2.1 hyok.2.2.2
              obtain ⟨A1, A2, A3, A4, A5, hA, hA2⟩ : ∃ A1 A2 A3 A4 A5, fracV (qOf nn dd) = .agg #[.int .u64 A1, .string A2, .bool A3, .int .u64 A4, .string A5] ∧ fcs (qOf nn dd) = [.int .u64 A1, .string A2, .bool A3, .int .u64 A4, .string A5] := ⟨_, _, _, _, _, rfl, rfl⟩
              rw [hA] at hcq
              have HA2 := Lib.hid hA2
              clear hA hA2 hyok
              obtain ⟨bb, hbb⟩ : ∃ bb, bb = (foldB m b0 (row.take k)).1 := ⟨_, rfl⟩
              obtain ⟨last, hlast⟩ : ∃ bb, bb = (foldB m b0 (row.take k)).2 := ⟨_, rfl⟩
              rw [← hbb, ← hlast]
              have HBB := Lib.hid hbb
              have HLA := Lib.hid hlast
              clear hbb hlast
              obtain ⟨z, hz⟩ : ∃ z, z = (stepB m (bb, last) (col, nn, dd)).1 := ⟨_, rfl⟩
              have HZ := Lib.hid hz
              clear hz
              go_upto_region 17 with fail
              obtain ⟨Y, hY⟩ : ∃ Y, Y = wq.heap.size := ⟨_, rfl⟩
              have bY := Bx.new_at wq #[.int .i64 col, .int .i64 nn, .int .u32 dd] 109 hY
              have hinY := hinq.alloc (.cells #[.int .i64 col, .int .i64 nn, .int .u32 dd] 109)
              have hownY := HOWN.out.alloc (.cells #[.int .i64 col, .int .i64 nn, .int .u32 dd] 109)
              have hYB : wo.heap.size ≤ Y := by have := hinq.siz; omega
              have x1Y := ((HBX.out.call hinq.bel).alloc (.cells #[.int .i64 col, .int .i64 nn, .int .u32 dd] 109)).c1
              have xlY := ((HBX.out.call hinq.bel).alloc (.cells #[.int .i64 col, .int .i64 nn, .int .u32 dd] 109)).lt
              rw [← hY]
              clear hY hinq x1 x2 xl hx hbq hc0 hc1 hc2 hb2q HOWN
              generalize wq.alloc (.cells #[.int .i64 col, .int .i64 nn, .int .u32 dd] 109) = V at *
              have y0 := bY.c0
              have y1 := bY.c1
              have y2 := bY.c2
              have yl := bY.lt
              have HOY := Lib.hid hownY
              have HBY := Lib.hid bY
              have HIY := Lib.hid hinY
              clear hownY bY hinY
              go_cut [5] from 60 to 79 (fun v5 wx => v5 = .bool z ∧ V = wx)
              case first =>
                rcases bb with _ | _
                · by_cases h1 : col ≤ last
                  · go_wp2_with fail
                    go_meet
                    exact ⟨by rw [HZ.out]; simp [stepB, h1], rfl⟩
                  · by_cases h2 : m ≤ col
                    · go_wp2_with fail
                      go_meet
                      exact ⟨by rw [HZ.out]; simp [stepB, h2], rfl⟩
                    · by_cases h3 : nn = 0
                      · have h4 : (nn == 0) = true := by simpa using h3
                        have h5 := Lib.hid h3
                        clear h3
                        go_wp2_with fail
                        go_meet
                        exact ⟨by rw [HZ.out]; simp [stepB, h5.out], rfl⟩
                      · have h4 : (nn == 0) = false := by simpa using h3
                        have h5 := Lib.hid h3
                        clear h3
                        go_wp2_with fail
                        go_meet
                        exact ⟨by rw [HZ.out]; simp [stepB, h1, h2, h5.out], rfl⟩
                · go_wp2_with fail
                  go_meet
                  exact ⟨by rw [HZ.out]; simp [stepB], rfl⟩
              case rest =>
                obtain ⟨rfl, rfl⟩ := hcut
                clear x1Y xlY
                go_upto_region 19 with fail
                have h := In.self V
                have hc := h.cell
                refine wp_region_flow 8 (by kernel_rfl) (by kernel_rfl) (fun _ _ d _ _ h => by cases d <;> exact h) ?_; simp only [List.take_succ_cons, List.take_zero, List.drop_succ_cons, List.drop_zero]; simp only [putAll, Act.put, List.setIfInBounds_toArray, List.set]; (try simp only [Nat.reduceAdd]); (try simp only [Nat.zero_add]); (repeat (first | ((with_reducible refine flow_float (v := ?_) ?_ ?_ ?_); rotate_left 1; (focus (with_reducible rfl)); (focus (intro u w1 hw hd w2; (try simp only [depH] at hd); (try simp only [ext] at hd); (try simp only [extU] at hd); (try simp only [Nat.reduceAdd] at hd); (try simp only [Nat.reduceEqDiff] at hd); (try simp only [reduceIte] at hd); (try simp only [if_true] at hd); (try simp only [if_false] at hd); (try simp only [and_true] at hd); (try simp only [true_and] at hd); go_simp; exact rfl))) | ((with_reducible refine flow_pure0 (v := ?_) ?_ ?_ ?_ ?_); rotate_left 1; (focus (with_reducible rfl)); (focus rfl); (focus (intro u w1 hw hd; (try simp only [depH] at hd); (try simp only [ext] at hd); (try simp only [extU] at hd); (try simp only [Nat.reduceAdd] at hd); (try simp only [Nat.reduceEqDiff] at hd); (try simp only [reduceIte] at hd); (try simp only [if_true] at hd); (try simp only [if_false] at hd); (try simp only [and_true] at hd); (try simp only [true_and] at hd); have hc' := hw.cell; go_simp; exact rfl))) | ((with_reducible refine flow_skipg (j := ?_) (b := ?_) ?_ ?_ ?_); rotate_left 2; (focus (with_reducible rfl)); (focus (intro u w1 hw hd; (try simp only [depH] at hd); (try simp only [ext] at hd); (try simp only [extU] at hd); (try simp only [Nat.reduceAdd] at hd); (try simp only [Nat.reduceEqDiff] at hd); (try simp only [reduceIte] at hd); (try simp only [if_true] at hd); (try simp only [if_false] at hd); (try simp only [and_true] at hd); (try simp only [true_and] at hd); simp [yielded, hd]; done))) | ((with_reducible refine flow_pureg (v := ?_) (j := ?_) (b := ?_) ?_ ?_ ?_ ?_); rotate_left 3; (focus (with_reducible rfl)); (focus (intro u w1 hw hd; (try simp only [depH] at hd); (try simp only [ext] at hd); (try simp only [extU] at hd); (try simp only [Nat.reduceAdd] at hd); (try simp only [Nat.reduceEqDiff] at hd); (try simp only [reduceIte] at hd); (try simp only [if_true] at hd); (try simp only [if_false] at hd); (try simp only [and_true] at hd); (try simp only [true_and] at hd); simp [yielded, hd]; done)); (focus (intro u w1 hw hd; (try simp only [depH] at hd); (try simp only [ext] at hd); (try simp only [extU] at hd); (try simp only [Nat.reduceAdd] at hd); (try simp only [Nat.reduceEqDiff] at hd); (try simp only [reduceIte] at hd); (try simp only [if_true] at hd); (try simp only [if_false] at hd); (try simp only [and_true] at hd); (try simp only [true_and] at hd); have hc' := hw.cell; go_simp; exact rfl))) | ((with_reducible refine flow_alloc (t := ?_) (zs := ?_) ?_ ?_ ?_ ?_); rotate_left 2; (focus (with_reducible rfl)); (focus rfl); (focus (intro u w1; go_simp; exact rfl))) | ((with_reducible refine flow_pure0 (v := ?_) ?_ ?_ ?_ ?_); rotate_left 1; (focus (with_reducible rfl)); (focus rfl); (focus (intro u w1 hw hd; (try simp only [depH] at hd); (try simp only [ext] at hd); (try simp only [extU] at hd); (try simp only [Nat.reduceAdd] at hd); (try simp only [Nat.reduceEqDiff] at hd); (try simp only [reduceIte] at hd); (try simp only [if_true] at hd); (try simp only [if_false] at hd); (try simp only [and_true] at hd); (try simp only [true_and] at hd); have hc' := hw.cell; go_simp; go_at_call 16; ((with_reducible refine (hcq _).mono ?_)); rintro e w'' ⟨rfl, hb⟩; refine ⟨?_, hb⟩; exact rfl))) | ((with_reducible refine flow_pureg (v := ?_) (j := ?_) (b := ?_) ?_ ?_ ?_ ?_); rotate_left 3; (focus (with_reducible rfl)); (focus (intro u w1 hw hd; (try simp only [depH] at hd); (try simp only [ext] at hd); (try simp only [extU] at hd); (try simp only [Nat.reduceAdd] at hd); (try simp only [Nat.reduceEqDiff] at hd); (try simp only [reduceIte] at hd); (try simp only [if_true] at hd); (try simp only [if_false] at hd); (try simp only [and_true] at hd); (try simp only [true_and] at hd); simp [yielded, hd]; done)); (focus (intro u w1 hw hd; (try simp only [depH] at hd); (try simp only [ext] at hd); (try simp only [extU] at hd); (try simp only [Nat.reduceAdd] at hd); (try simp only [Nat.reduceEqDiff] at hd); (try simp only [reduceIte] at hd); (try simp only [if_true] at hd); (try simp only [if_false] at hd); (try simp only [and_true] at hd); (try simp only [true_and] at hd); have hc' := hw.cell; go_simp; go_at_call 16; ((with_reducible refine (hcq _).mono ?_)); rintro e w'' ⟨rfl, hb⟩; refine ⟨?_, hb⟩; exact rfl)))))
                (with_reducible refine flow_slice (t := 111) (zs := #[.int .i64 col, .int .u64 A1, .string A2, .bool A3, .int .u64 A4, .string A5]) (n := 1) ?_ ?_ ?_ ?_); (focus (with_reducible rfl)); (focus rfl); (focus (intro u w1 hw hd; (try simp only [depH] at hd); (try simp only [ext] at hd); (try simp only [extU] at hd); (try simp only [Nat.reduceAdd] at hd); (try simp only [Nat.reduceEqDiff] at hd); (try simp only [reduceIte] at hd); (try simp only [if_true] at hd); (try simp only [if_false] at hd); (try simp only [and_true] at hd); (try simp only [true_and] at hd); (try go_simp); (try exact rfl)))
                (try clear hc hf h); intro u w' h ha hdi; replace h := h.ins; (try simp only [World.size_alloc] at h); (try dsimp only at ha); (repeat rw [World.size_alloc] at ha); (try simp only [allH] at ha); (try simp only [ext] at ha); (try simp only [extU] at ha); (try simp only [Nat.reduceAdd] at ha); (try simp only [Nat.reduceEqDiff] at ha); (try simp only [reduceIte] at ha); (try simp only [if_true] at ha); (try simp only [if_false] at ha); (try simp only [and_true] at ha); (try simp only [true_and] at ha); have hc := h.cell; have hf := h.frozen
                obtain ⟨ha, G, hu, hGV, bg1⟩ := ha
                (try obtain ha := ha); (try dsimp only);  simp only [ha, hu]; clear ha hdi hu
                have hin2 := HIY.out.call h.bel
                have hown2 := ownsRow_below HOY.out h.bel
                have hvlt := hown2.lt
                have hws := h.siz
                refine wpList_append_own _ rfl (.tmp 82) (.tmp 89) 107 rfl wo.heap.size 111 i0 (.agg #[.int .i64 0, .int .u64 0, .string ⟨#[]⟩, .bool false, .int .u64 0, .string ⟨#[]⟩]) 6 64 Tryz.underlying107 hi0 hi1 hi2 hi3 rfl (by decide) v7 k _ rfl hown2 ⟨G, 0, none⟩ 1 1 [.int .i64 col, .int .u64 A1, .string A2, .bool A3, .int .u64 A4, .string A5] rfl rfl ?c1 ?c2 ?c3 ?c4 ?c5 ?_
                case c1 =>
                  intro j u hj
                  have e : (⟨G, 0, none⟩ : Addr).add j = ⟨G, j, none⟩ := by unfold Addr.add; split <;> simp_all
                  rw [e, bg1.cell j]; exact hj
                case c2 => intro u hu; simp at hu; rcases hu with rfl | rfl | rfl | rfl | rfl | rfl <;> rfl
                case c3 => simp only [maxLen]; omega
                case c4 => have := HIY.out.siz; omega
                case c5 => omega
                intro v' w3 hown3 hgr hnil
                have hin3 : In wo.heap.size wo w3 := ⟨hin2.bel.grown hgr hin2.siz (fun k h => by have := (hvlt _ h).1; omega), Nat.le_trans hin2.siz hgr.size⟩
                clear hc hf h hin2 hown2 hvlt hws hgr hnil HOY HBY HIY y0 y1 y2 yl bg1 hGV
                obtain ⟨g9, c9, rfl⟩ : ∃ g9 c9, v' = .slice (some ⟨g9, 0, none⟩) (k + 1) c9 := by
                  rcases hown3.2 with ⟨_, hn⟩ | ⟨g9, c9, cur, h9, _⟩
                  · omega
                  · exact ⟨g9, c9, h9⟩
                have htk : row.take (k + 1) = row.take k ++ [(col, nn, dd)] := by
                  rw [List.take_add_one, List.getElem?_eq_getElem (by rw [← HRL.out]; exact hkr)]
                  congr 1
                  have := HY.out
                  rw [List.getD_eq_getElem?_getD, List.getElem?_eq_getElem (by rw [← HRL.out]; exact hkr)] at this
                  simp only [Option.getD_some] at this
                  rw [← this]; rfl
                have hfold : foldB m b0 (row.take (k + 1)) = (z, col) := by
                  rw [htk, foldB_snoc, show foldB m b0 (row.take k) = (bb, last) from Prod.ext HBB.out.symm HLA.out.symm, HZ.out]; rfl
                have HO3 : Hid (w3.ownsRow wo.heap.size 111 6 (.slice (some ⟨g9, 0, none⟩) (k + 1) c9) (k + 1) (((row.take (k + 1)).map eI).flatMap ecsI)) := Lib.hid (by
                  rw [htk, List.map_append, List.flatMap_append]
                  have e : List.flatMap ecsI (List.map eI [(col, nn, dd)]) = [.int .i64 col, .int .u64 A1, .string A2, .bool A3, .int .u64 A4, .string A5] := by
                    show (.int .i64 col :: fcs (qOf nn dd)) ++ [] = _
                    rw [HA2.out]; rfl
                  rw [e]; exact hown3)
                have HF := Lib.hid hfold
                have HI3 := Lib.hid hin3
                clear hown3 hfold hin3
                go_frame
                go_wp2_with fail
                exact ⟨⟨k + 1, _, by omega, rfl, by go_num, by rw [HF.out], by rw [HF.out], HI3.out, HO3.out⟩, by simp [RowKit.intOf]; omega⟩
            · obtain rfl : k = rl := by omega
              have hkI : ¬ (k : Int) < k := by omega
              have htake : row.take k = row := by rw [HRL.out, List.take_length]
              rw [htake, HBS.out]
              obtain ⟨bn, hbn⟩ : ∃ bn, bn = badTo n m es (i + 1) := ⟨_, rfl⟩
              rw [← hbn]
              have HBN := Lib.hid hbn
              have HOWN2 : Hid (wq.ownsRow wo.heap.size 111 6 v7 k ((row.map eI).flatMap ecsI)) := Lib.hid (by have := HOWN.out; rwa [htake] at this)
              clear hbn htake HOWN
              obtain ⟨va, vc, hvs⟩ := HOUT.out.shape
              subst hvs
              have bsq := HBS2.out.call hinq.bel
              have s2 := bsq.c2
              have sl := bsq.lt
              obtain ⟨a7, n7, c7, hv7⟩ : ∃ a n k, v7 = .slice a n k := by
                rcases HOWN2.out.2 with ⟨h, _⟩ | ⟨g, c, _, h, _⟩
                · exact ⟨_, _, _, h⟩
                · exact ⟨_, _, _, h⟩
              subst hv7
              obtain ⟨vs, hvs1, hvs2⟩ := HOUT.out
              have hownq := ownsRow_below hvs1 hinq.bel
              have hrows : ∀ i', i' < i → RowF wq (vs.getD i' undef) ((es.getD i' []).map eI) := fun i' h' => (hvs2 i' h').call hinq.bel
              have HOWNQ := Lib.hid hownq
              have HROWS := Lib.hid hrows
              have HNEW := Lib.hid (RowF.own (es := row.map eI) (by rw [List.length_map, ← HRL.out]; exact HOWN2.out))
              have HINQ := Lib.hid hinq
              have HBSQ := Lib.hid bsq
              have HXQ := Lib.hid (HBX.out.call hinq.bel)
              have hvlt := hownq.lt
              have HVLT := Lib.hid hvlt
              clear hownq hrows hvs1 hvs2 bsq hinq hvlt
              obtain ⟨W2, hW2⟩ : ∃ W2, W2 = wq.alloc (.cells #[.slice a7 n7 c7] 107) := ⟨_, rfl⟩
              have HW2 := Lib.hid hW2
              obtain ⟨Q, hQ⟩ : ∃ Q, Q = wq.heap.size := ⟨_, rfl⟩
              have HQ := Lib.hid hQ
              have HLO : Hid (X + 1 + 1 ≤ wq.heap.size) := Lib.hid (by have := HBS2.out.lt; have := HINQ.out.siz; omega)
              clear hW2
              go_wp2_with (at_builtin; refine wpList_append_own _ rfl (.tmp 92) (.tmp 94) 61 rfl (X + 1 + 1) 107 j0 (.slice none 0 0) 1 24 Tryz.underlying61 hj0 hj1 hj2 hj3 rfl (by decide) (.slice va i vc) i vs rfl (HOWNQ.out.alloc _) ⟨wq.heap.size, 0, none⟩ 1 1 [.slice a7 n7 c7] rfl rfl ?c1 ?c2 ?c3 ?c4 ?c5 ?_)
              case c2 => first | rfl | trivial
              case c3 => simp only [maxLen]; omega
              case c4 => have := HLO.out; omega
              case c5 => omega
              intro v' w3 hown3 hgr _
              have hal : Below wq.heap.size wq (wq.alloc (.cells #[.slice a7 n7 c7] 107)) := (Below.refl _ _).alloc (Nat.le_refl _) _
              have hout3 : OutF w3 (X + 1 + 1) v' (i + 1) es := OutF.snoc (HOWNQ.out.alloc _) (fun i' h' => (HROWS.out i' h').call hal) (by have := HNEW.out.call hal; rw [HROW.out] at this; exact this) hown3 hgr
              have bs3 := (HBSQ.out.alloc (.cells #[.slice a7 n7 c7] 107)).grown hgr (fun h => by have := (HVLT.out _ h.symm).1; omega)
              have bx3 := (HXQ.out.alloc (.cells #[.slice a7 n7 c7] 107)).grown hgr (fun h => by have := (HVLT.out _ h.symm).1; omega)
              have hin2 := (HIN.out.call HINQ.out.bel).alloc (.cells #[.slice a7 n7 c7] 107)
              have hin3 : In X w w3 := ⟨hin2.bel.grown hgr hin2.siz (fun k h => by have := (HVLT.out _ h).1; omega), Nat.le_trans hin2.siz hgr.size⟩
              obtain ⟨g9, c9, rfl⟩ : ∃ g9 c9, v' = .slice (some ⟨g9, 0, none⟩) (i + 1) c9 := by
                rcases hown3.2 with ⟨_, hn⟩ | ⟨g9, c9, cur, h9, _⟩
                · omega
                · exact ⟨g9, c9, h9⟩
              have s2 := bs3.c2
              have sf := bs3.frozen 2
              have sl := bs3.lt
              have K1 := Lib.hid (bs3.set 2 (.slice (some ⟨g9, 0, none⟩) (i + 1) c9))
              have K2 := Lib.hid (bx3.other (a := ⟨X + 1, 2, none⟩) (by simp) (.slice (some ⟨g9, 0, none⟩) (i + 1) c9))
              have K3 := Lib.hid (hin3.setCell (p := ⟨X + 1, 2, none⟩) (by simp) (.slice (some ⟨g9, 0, none⟩) (i + 1) c9))
              have K4 := Lib.hid (hout3.setS (x := .slice (some ⟨g9, 0, none⟩) (i + 1) c9) bs3 (Nat.lt_succ_self _) 2)
              have K5 : Hid (∀ j, j < i + 1 → (es.getD j []).length ≤ 12) := Lib.hid fun j hj => by
                by_cases hji : j < i
                · exact HSM.out j hji
                · obtain rfl : j = i := by omega
                  rw [← HROW.out, ← HRL.out]; omega
              clear hown3 hgr hal hout3 bs3 bx3 hin2 hin3 HOWNQ HROWS HNEW HBSQ HXQ HINQ HVLT
              go_wp2_with fail
              exact ⟨⟨i + 1, _, by omega, by go_num, by rw [HBN.out], K3.out, K2.out, K1.out, K4.out, K5⟩, by simp [RowKit.intOf]; omega⟩
        · have k2 : (12 : Int) < rl := by omega
          have x2 := bx.c2
          have xl := bx.lt
          have HIN := Lib.hid hin
          clear hout bs bx hin
          go_wp2_with fail
          ((with_reducible refine (cz _).mono ?_))
          rintro e w9 ⟨rfl, hb9⟩
          have hin9 := HIN.out.call hb9
          clear hb9
          go_wp2_with fail
          go_ret
          exact ⟨rfl, by rw [← HX.out]; exact hin9.bel⟩
      · obtain rfl : i = L := by omega
        have hiI : ¬ (i : Int) < i := by omega
        obtain ⟨va, vc, rfl⟩ := hout.shape
        have hout' : OutF wo (X + 1 + 1) (.slice va i vc) es.length es := by rw [← HL.out]; exact hout
        have hG := hout'.spG (n := n) (m := m) (by rw [← HL.out]; simp only [maxLen]; omega)
        have hr : (es.map fun l => l.map eI).length ≤ 4096 := by rw [List.length_map, ← HL.out]; omega
        have hrl : ∀ j, ((es.map fun l => l.map eI).getD j []).length ≤ 4096 := fun j => by
          rw [getD_map_eI, List.length_map]
          by_cases hj : j < i
          · have := HSM.out j hj; omega
          · rw [List.getD_eq_getElem?_getD, List.getElem?_eq_none (by rw [← HL.out]; omega)]; exact Nat.zero_le _
        have hchk := checkS_bad n m es
        rw [← HL.out] at hchk
        obtain ⟨bad, hbad⟩ : ∃ b, b = badTo n m es i := ⟨_, rfl⟩
        rw [← hbad] at hchk ⊢
        obtain ⟨rows, hrows⟩ : ∃ r, r = es.map fun l => l.map eI := ⟨_, rfl⟩
        rw [← hrows] at hG hr hrl hchk
        have hsame : sameS n m rows n m rows = true := by simp [sameS]
        clear hbad hrows hout hout' HSM HR HOK HLL HL hl
        have x0 := bx.c0
        have x1 := bx.c1
        have x2 := bx.c2
        have xl := bx.lt
        have HIN := Lib.hid hin
        clear hin
        by_cases h1 : n < 0
        · ((have hE : checkS n m rows = 1 := by rw [hchk]; simp [sidesE, h1]);
                              (have hck := fun W (h : In wo.heap.size wo W) => scheck_any W _ n m rows (hG.call h.bel) hr hrl);
                              (simp only [hE] at hck);
                              (have hsm := fun W (h : In wo.heap.size wo W) => ssame_any W _ _ n m n m rows rows (hG.call h.bel) (hG.call h.bel) hr hrl);
                              (simp only [hsame] at hsm);
                              (have hrf := fun W (h : In wo.heap.size wo W) => refused_any ((hG.bad hr hrl hE (by decide)).call h.bel));
                              (clear hchk hE hG hr hrl hsame);
                              (have HIN2 := In.self wo);
                              (have s0 := bs.c0);
                              (have s1 := bs.c1);
                              (have s2 := bs.c2);
                              (have sl := bs.lt);
                              (go_wp2_with fail);
                              (((with_reducible refine (hck _ HIN2).mono ?_)));
                              (rintro e w5 ⟨rfl, hb⟩);
                              (have HIN3 := HIN2.call hb);
                              (have bs5 := bs.call hb);
                              (clear s0 s1 s2 sl x0 x1 x2 xl hb hck bx);
                              (have s0 := bs5.c0);
                              (have s1 := bs5.c1);
                              (have s2 := bs5.c2);
                              (have sl := bs5.lt);
                              (go_wp2_with fail);
                              (((with_reducible refine (hsm _ HIN3).mono ?_)));
                              (rintro e w6 ⟨rfl, hb⟩);
                              (have HIN4 := HIN3.call hb);
                              (have bs6 := bs5.call hb);
                              (clear s0 s1 s2 sl hb hsm bs5);
                              (have s0 := bs6.c0);
                              (have s1 := bs6.c1);
                              (have s2 := bs6.c2);
                              (have sl := bs6.lt);
                              (go_wp2_with fail);
                              (((with_reducible refine (hrf _ HIN4).mono ?_)));
                              (rintro e w7 ⟨rfl, hb⟩);
                              (have HIN5 := HIN4.call hb);
                              (clear hb hrf);
                              (go_wp2_with fail);
                              (((with_reducible refine (cz _).mono ?_)));
                              (rintro e w9 ⟨rfl, hb⟩);
                              (have hin9 := HIN.out.call (HIN5.call hb).bel);
                              (clear hb);
                              (go_wp2_with fail);
                              (go_ret);
                              (exact ⟨rfl, by rw [← HX.out]; exact hin9.bel⟩))
        · by_cases h2 : m < 0
          · ((have hE : checkS n m rows = 1 := by rw [hchk]; simp [sidesE, h1, h2]);
                              (have hck := fun W (h : In wo.heap.size wo W) => scheck_any W _ n m rows (hG.call h.bel) hr hrl);
                              (simp only [hE] at hck);
                              (have hsm := fun W (h : In wo.heap.size wo W) => ssame_any W _ _ n m n m rows rows (hG.call h.bel) (hG.call h.bel) hr hrl);
                              (simp only [hsame] at hsm);
                              (have hrf := fun W (h : In wo.heap.size wo W) => refused_any ((hG.bad hr hrl hE (by decide)).call h.bel));
                              (clear hchk hE hG hr hrl hsame);
                              (have HIN2 := In.self wo);
                              (have s0 := bs.c0);
                              (have s1 := bs.c1);
                              (have s2 := bs.c2);
                              (have sl := bs.lt);
                              (go_wp2_with fail);
                              (((with_reducible refine (hck _ HIN2).mono ?_)));
                              (rintro e w5 ⟨rfl, hb⟩);
                              (have HIN3 := HIN2.call hb);
                              (have bs5 := bs.call hb);
                              (clear s0 s1 s2 sl x0 x1 x2 xl hb hck bx);
                              (have s0 := bs5.c0);
                              (have s1 := bs5.c1);
                              (have s2 := bs5.c2);
                              (have sl := bs5.lt);
                              (go_wp2_with fail);
                              (((with_reducible refine (hsm _ HIN3).mono ?_)));
                              (rintro e w6 ⟨rfl, hb⟩);
                              (have HIN4 := HIN3.call hb);
                              (have bs6 := bs5.call hb);
                              (clear s0 s1 s2 sl hb hsm bs5);
                              (have s0 := bs6.c0);
                              (have s1 := bs6.c1);
                              (have s2 := bs6.c2);
                              (have sl := bs6.lt);
                              (go_wp2_with fail);
                              (((with_reducible refine (hrf _ HIN4).mono ?_)));
                              (rintro e w7 ⟨rfl, hb⟩);
                              (have HIN5 := HIN4.call hb);
                              (clear hb hrf);
                              (go_wp2_with fail);
                              (((with_reducible refine (cz _).mono ?_)));
                              (rintro e w9 ⟨rfl, hb⟩);
                              (have hin9 := HIN.out.call (HIN5.call hb).bel);
                              (clear hb);
                              (go_wp2_with fail);
                              (go_ret);
                              (exact ⟨rfl, by rw [← HX.out]; exact hin9.bel⟩))
          · by_cases h3 : 2048 < n
            · ((have hE : checkS n m rows = 3 := by rw [hchk]; simp [sidesE, h1, h2, h3]);
                              (have hck := fun W (h : In wo.heap.size wo W) => scheck_any W _ n m rows (hG.call h.bel) hr hrl);
                              (simp only [hE] at hck);
                              (have hsm := fun W (h : In wo.heap.size wo W) => ssame_any W _ _ n m n m rows rows (hG.call h.bel) (hG.call h.bel) hr hrl);
                              (simp only [hsame] at hsm);
                              (have hrf := fun W (h : In wo.heap.size wo W) => refused_any ((hG.bad hr hrl hE (by decide)).call h.bel));
                              (clear hchk hE hG hr hrl hsame);
                              (have HIN2 := In.self wo);
                              (have s0 := bs.c0);
                              (have s1 := bs.c1);
                              (have s2 := bs.c2);
                              (have sl := bs.lt);
                              (go_wp2_with fail);
                              (((with_reducible refine (hck _ HIN2).mono ?_)));
                              (rintro e w5 ⟨rfl, hb⟩);
                              (have HIN3 := HIN2.call hb);
                              (have bs5 := bs.call hb);
                              (clear s0 s1 s2 sl x0 x1 x2 xl hb hck bx);
                              (have s0 := bs5.c0);
                              (have s1 := bs5.c1);
                              (have s2 := bs5.c2);
                              (have sl := bs5.lt);
                              (go_wp2_with fail);
                              (((with_reducible refine (hsm _ HIN3).mono ?_)));
                              (rintro e w6 ⟨rfl, hb⟩);
                              (have HIN4 := HIN3.call hb);
                              (have bs6 := bs5.call hb);
                              (clear s0 s1 s2 sl hb hsm bs5);
                              (have s0 := bs6.c0);
                              (have s1 := bs6.c1);
                              (have s2 := bs6.c2);
                              (have sl := bs6.lt);
                              (go_wp2_with fail);
                              (((with_reducible refine (hrf _ HIN4).mono ?_)));
                              (rintro e w7 ⟨rfl, hb⟩);
                              (have HIN5 := HIN4.call hb);
                              (clear hb hrf);
                              (go_wp2_with fail);
                              (((with_reducible refine (cz _).mono ?_)));
                              (rintro e w9 ⟨rfl, hb⟩);
                              (have hin9 := HIN.out.call (HIN5.call hb).bel);
                              (clear hb);
                              (go_wp2_with fail);
                              (go_ret);
                              (exact ⟨rfl, by rw [← HX.out]; exact hin9.bel⟩))
            · by_cases h4 : 2048 < m
              · ((have hE : checkS n m rows = 3 := by rw [hchk]; simp [sidesE, h1, h2, h3, h4]);
                              (have hck := fun W (h : In wo.heap.size wo W) => scheck_any W _ n m rows (hG.call h.bel) hr hrl);
                              (simp only [hE] at hck);
                              (have hsm := fun W (h : In wo.heap.size wo W) => ssame_any W _ _ n m n m rows rows (hG.call h.bel) (hG.call h.bel) hr hrl);
                              (simp only [hsame] at hsm);
                              (have hrf := fun W (h : In wo.heap.size wo W) => refused_any ((hG.bad hr hrl hE (by decide)).call h.bel));
                              (clear hchk hE hG hr hrl hsame);
                              (have HIN2 := In.self wo);
                              (have s0 := bs.c0);
                              (have s1 := bs.c1);
                              (have s2 := bs.c2);
                              (have sl := bs.lt);
                              (go_wp2_with fail);
                              (((with_reducible refine (hck _ HIN2).mono ?_)));
                              (rintro e w5 ⟨rfl, hb⟩);
                              (have HIN3 := HIN2.call hb);
                              (have bs5 := bs.call hb);
                              (clear s0 s1 s2 sl x0 x1 x2 xl hb hck bx);
                              (have s0 := bs5.c0);
                              (have s1 := bs5.c1);
                              (have s2 := bs5.c2);
                              (have sl := bs5.lt);
                              (go_wp2_with fail);
                              (((with_reducible refine (hsm _ HIN3).mono ?_)));
                              (rintro e w6 ⟨rfl, hb⟩);
                              (have HIN4 := HIN3.call hb);
                              (have bs6 := bs5.call hb);
                              (clear s0 s1 s2 sl hb hsm bs5);
                              (have s0 := bs6.c0);
                              (have s1 := bs6.c1);
                              (have s2 := bs6.c2);
                              (have sl := bs6.lt);
                              (go_wp2_with fail);
                              (((with_reducible refine (hrf _ HIN4).mono ?_)));
                              (rintro e w7 ⟨rfl, hb⟩);
                              (have HIN5 := HIN4.call hb);
                              (clear hb hrf);
                              (go_wp2_with fail);
                              (((with_reducible refine (cz _).mono ?_)));
                              (rintro e w9 ⟨rfl, hb⟩);
                              (have hin9 := HIN.out.call (HIN5.call hb).bel);
                              (clear hb);
                              (go_wp2_with fail);
                              (go_ret);
                              (exact ⟨rfl, by rw [← HX.out]; exact hin9.bel⟩))
              · rcases bad with _ | _
                · ((have hE : checkS n m rows = 0 := by rw [hchk]; simp [sidesE, h1, h2, h3, h4]);
                              (have hck := fun W (h : In wo.heap.size wo W) => scheck_any W _ n m rows (hG.call h.bel) hr hrl);
                              (simp only [hE] at hck);
                              (have hsm := fun W (h : In wo.heap.size wo W) => ssame_any W _ _ n m n m rows rows (hG.call h.bel) (hG.call h.bel) hr hrl);
                              (simp only [hsame] at hsm);
                              (clear hchk hE hG hr hrl hsame);
                              (have HIN2 := In.self wo);
                              (have s0 := bs.c0);
                              (have s1 := bs.c1);
                              (have s2 := bs.c2);
                              (have sl := bs.lt);
                              (go_wp2_with fail);
                              (((with_reducible refine (hck _ HIN2).mono ?_)));
                              (rintro e w5 ⟨rfl, hb⟩);
                              (have HIN3 := HIN2.call hb);
                              (have bs5 := bs.call hb);
                              (clear s0 s1 s2 sl x0 x1 x2 xl hb hck bx);
                              (have s0 := bs5.c0);
                              (have s1 := bs5.c1);
                              (have s2 := bs5.c2);
                              (have sl := bs5.lt);
                              (go_wp2_with fail);
                              (((with_reducible refine (hsm _ HIN3).mono ?_)));
                              (rintro e w6 ⟨rfl, hb⟩);
                              (have HIN4 := HIN3.call hb);
                              (have bs6 := bs5.call hb);
                              (clear s0 s1 s2 sl hb hsm bs5);
                              (have s0 := bs6.c0);
                              (have s1 := bs6.c1);
                              (have s2 := bs6.c2);
                              (have sl := bs6.lt);
                              (go_wp2_with fail);
                              (((with_reducible refine (cz _).mono ?_)));
                              (rintro e w9 ⟨rfl, hb⟩);
                              (have hin9 := HIN.out.call (HIN4.call hb).bel);
                              (clear hb);
                              (go_wp2_with fail);
                              (go_ret);
                              (exact ⟨rfl, by rw [← HX.out]; exact hin9.bel⟩))
                · ((have hE : checkS n m rows = 1 := by rw [hchk]; simp [sidesE, h1, h2, h3, h4]);
                              (have hck := fun W (h : In wo.heap.size wo W) => scheck_any W _ n m rows (hG.call h.bel) hr hrl);
                              (simp only [hE] at hck);
                              (have hsm := fun W (h : In wo.heap.size wo W) => ssame_any W _ _ n m n m rows rows (hG.call h.bel) (hG.call h.bel) hr hrl);
                              (simp only [hsame] at hsm);
                              (have hrf := fun W (h : In wo.heap.size wo W) => refused_any ((hG.bad hr hrl hE (by decide)).call h.bel));
                              (clear hchk hE hG hr hrl hsame);
                              (have HIN2 := In.self wo);
                              (have s0 := bs.c0);
                              (have s1 := bs.c1);
                              (have s2 := bs.c2);
                              (have sl := bs.lt);
                              (go_wp2_with fail);
                              (((with_reducible refine (hck _ HIN2).mono ?_)));
                              (rintro e w5 ⟨rfl, hb⟩);
                              (have HIN3 := HIN2.call hb);
                              (have bs5 := bs.call hb);
                              (clear s0 s1 s2 sl x0 x1 x2 xl hb hck bx);
                              (have s0 := bs5.c0);
                              (have s1 := bs5.c1);
                              (have s2 := bs5.c2);
                              (have sl := bs5.lt);
                              (go_wp2_with fail);
                              (((with_reducible refine (hsm _ HIN3).mono ?_)));
                              (rintro e w6 ⟨rfl, hb⟩);
                              (have HIN4 := HIN3.call hb);
                              (have bs6 := bs5.call hb);
                              (clear s0 s1 s2 sl hb hsm bs5);
                              (have s0 := bs6.c0);
                              (have s1 := bs6.c1);
                              (have s2 := bs6.c2);
                              (have sl := bs6.lt);
                              (go_wp2_with fail);
                              (((with_reducible refine (hrf _ HIN4).mono ?_)));
                              (rintro e w7 ⟨rfl, hb⟩);
                              (have HIN5 := HIN4.call hb);
                              (clear hb hrf);
                              (go_wp2_with fail);
                              (((with_reducible refine (cz _).mono ?_)));
                              (rintro e w9 ⟨rfl, hb⟩);
                              (have hin9 := HIN.out.call (HIN5.call hb).bel);
                              (clear hb);
                              (go_wp2_with fail);
                              (go_ret);
                              (exact ⟨rfl, by rw [← HX.out]; exact hin9.bel⟩))
  · have k1 : (12 : Int) < L := by omega
    have hin := (In.self w).alloc (.cells #[.int .i64 n, .int .i64 m, .slice a L cap] 105)
    have HIN := Lib.hid hin
    clear hin hX
    go_wp2_with fail
    ((with_reducible refine (cz _).mono ?_))
    rintro e w9 ⟨rfl, hb9⟩
    have hin9 := HIN.out.call hb9
    clear hb9
    go_wp2_with fail
    go_ret
    exact ⟨rfl, hin9.bel⟩
end Gus
end
section
/- What all cards of this seat share: a world that holds the listed tables; the last step of a row whose call only makes memory. -/
namespace Gus
open Go Go.RowKit Go.Proofs Go.ChangeShapes Go.WideShapes Go.ChangeAt
theorem ownK : ownKnob Tryz.prog.godebug = none := by kernel_rfl
def tabP : Obj → Obj
  | .cells _ t frozen => .cells #[.int .u64 1, .int .u64 10, .int .u64 100, .int .u64 1000, .int .u64 10000, .int .u64 100000, .int .u64 1000000, .int .u64 10000000, .int .u64 100000000, .int .u64 1000000000, .int .u64 10000000000, .int .u64 100000000000, .int .u64 1000000000000, .int .u64 10000000000000, .int .u64 100000000000000, .int .u64 1000000000000000, .int .u64 10000000000000000, .int .u64 100000000000000000, .int .u64 1000000000000000000, .int .u64 10000000000000000000] t frozen
  | o => o
def tabA : Obj → Obj
  | .cells _ t frozen => .cells #[.int .u8 0, .int .u8 1, .int .u8 28, .int .u8 2, .int .u8 29, .int .u8 14, .int .u8 24, .int .u8 3, .int .u8 30, .int .u8 22, .int .u8 20, .int .u8 15, .int .u8 25, .int .u8 17, .int .u8 4, .int .u8 8, .int .u8 31, .int .u8 27, .int .u8 13, .int .u8 23, .int .u8 21, .int .u8 19, .int .u8 16, .int .u8 7, .int .u8 26, .int .u8 12, .int .u8 18, .int .u8 6, .int .u8 11, .int .u8 5, .int .u8 10, .int .u8 9] t frozen
  | o => o
def tabB : Obj → Obj
  | .cells _ t frozen => .cells #[.int .u8 0, .int .u8 1, .int .u8 56, .int .u8 2, .int .u8 57, .int .u8 49, .int .u8 28, .int .u8 3, .int .u8 61, .int .u8 58, .int .u8 42, .int .u8 50, .int .u8 38, .int .u8 29, .int .u8 17, .int .u8 4, .int .u8 62, .int .u8 47, .int .u8 59, .int .u8 36, .int .u8 45, .int .u8 43, .int .u8 51, .int .u8 22, .int .u8 53, .int .u8 39, .int .u8 33, .int .u8 30, .int .u8 24, .int .u8 18, .int .u8 12, .int .u8 5, .int .u8 63, .int .u8 55, .int .u8 48, .int .u8 27, .int .u8 60, .int .u8 41, .int .u8 37, .int .u8 16, .int .u8 46, .int .u8 35, .int .u8 44, .int .u8 21, .int .u8 52, .int .u8 32, .int .u8 23, .int .u8 11, .int .u8 54, .int .u8 26, .int .u8 40, .int .u8 15, .int .u8 34, .int .u8 20, .int .u8 31, .int .u8 10, .int .u8 25, .int .u8 14, .int .u8 19, .int .u8 9, .int .u8 13, .int .u8 8, .int .u8 7, .int .u8 6] t frozen
  | o => o
noncomputable def laidW (os : Os) : World :=
  { World.holding Tryz.prog os ⟨#[], #[], []⟩ with heap := (((World.holding Tryz.prog os ⟨#[], #[], []⟩).heap.modify 0 tabP).modify 3 tabA).modify 4 tabB }
section
variable {H : Type} {enc : TypeId × Value → H} {P : Program}
/-- a call behind which nothing that was there has turned: its row's last condition -/
theorem row_end {f : Func} {s : ChangeSpec} {apart fresh handsOn again : Bool} {W W' : World} {args : Array Value} {v : Value} {ds gs : List (DataW H)} {before pa pv : List MemPlace}
    (hb : Below W.heap.size W W') (hW : DataW.Whole enc P f.params.toList s.vars apart W args.toList ds gs before) (hps : before = pa ++ pv)
    (hargs : ∀ sp : Nat → Bool, (∀ p ∈ before, sp p.block = true) → DataW.TrodAll enc P W' 0 sp true f.params.toList args.toList (s.fn H (ds ++ gs)).args pa)
    (hvars : ∀ sp : Nat → Bool, (∀ p ∈ before, sp p.block = true) → DataW.TrodVars enc P W' sp s.vars (s.fn H (ds ++ gs)).vars pv)
    (hres : ∀ (b : Nat) (sp : Nat → Bool) (hd : Bool), DataW.TrodAll enc P W' b sp hd f.resultTypes.toList (v.resultList f.resultTypes.size) (s.fn H (ds ++ gs)).results [])
    (hok : ∀ (j : Nat) (t : TypeId) (r : Value), f.resultTypes[j]? = some t → (v.resultList f.resultTypes.size)[j]? = some r → Value.okWide P W' .any 0 t r) :
    s.post enc P f apart fresh handsOn again W args v W' := by
  have hin : ∀ p ∈ before, decide (p.block < W.heap.size) = true := fun p hp => decide_eq_true (hW.lt p hp)
  have hkept : W.keptBut W' (fun p => p ∈ before ∧ p ∈ pa ++ pv) := World.keptBut_mono (fun p hp => ⟨hp, hps ▸ hp⟩) (hb.frame (· ∈ before))
  refine ⟨ds, gs, before, [], pa, pv, hW, hres _ _ _, hargs _ hin, hvars _ hin, World.keptBut_mono (fun p hp => ⟨hp.1, ?_⟩) hkept, fun _ => ?_⟩
  · exact .inr (List.mem_append.1 hp.2)
  · have hlt := hW.lt
    obtain ⟨_, _, _, _, _, hz, hn⟩ := hW
    refine ⟨hok, _, _, ([] ++ pa) ++ pv, ⟨[] ++ pa, pv, trodAll_append (hargs _ (fun _ _ => rfl)) (hres _ _ _), hvars _ (fun _ _ => rfl), rfl, ?_, ?_⟩, ?_⟩
    · intro b off hp
      have hq : MemPlace.cell b off ∈ before := by rw [hps]; simpa using hp
      exact (hb.frozen (hlt _ hq)).trans (hz b off hq)
    · intro ha
      have h2 := hn ha
      rw [hps] at h2
      simpa using h2
    · intro p hp _
      rw [hps]
      simpa using hp
end
end Gus
end
section
/- Arguments of the laws as they are read: fractions, slices of fractions, matrices; they read as before where nothing has turned. -/
namespace Gus
open Go Go.RowKit Go.Proofs Go.ChangeShapes Go.WideShapes Go.ChangeAt Go.Deep
section
variable {H : Type} {enc : TypeId × Value → H} {W : World} {base : Nat} {sp : Nat → Bool} {held : Bool}
theorem laidOut : laidOutB Tryz.prog = true := by kernel_rfl
theorem args_stay {W' : World} {sp' : Nat → Bool} (hb : Below W.heap.size W W') : ∀ {ts : List TypeId} {vs : List Value} {ds : List (DataW H)} {p : List MemPlace}, (∀ t ∈ ts, Tryz.prog.readableRec t = true ∧ t < Tryz.prog.types.size) → DataW.TrodAll enc Tryz.prog W 0 (fun _ => true) true ts vs ds p → (∀ x ∈ p, x.block < W.heap.size) → (∀ x ∈ p, sp' x.block = true) → DataW.TrodAll enc Tryz.prog W' 0 sp' true ts vs ds p
  | [], _, _, _, _, h, _, _ => by
    obtain ⟨rfl, rfl, rfl⟩ := trodAll_nil h
    exact trodAll_mk0
  | t :: ts, _, _, _, hts, h, hlt, hsp => by
    obtain ⟨v, vs, d, ds, p, q, rfl, rfl, rfl, h0, h1⟩ := trodAll_cons h
    exact trodAll_cons_mk (WideElems.Trod_stays laidOut (hts t (.head _)).1 (hts t (.head _)).2 h0 (fun x hx => hb.same (hlt x (List.mem_append.2 (.inl hx)))) (fun x hx => hsp x (List.mem_append.2 (.inl hx))))
      (args_stay hb (fun t ht => hts t (List.mem_cons_of_mem _ ht)) h1 (fun x hx => hlt x (List.mem_append.2 (.inr hx))) (fun x hx => hsp x (List.mem_append.2 (.inr hx))))
theorem cell_in {w : World} {a : Addr} {v : Value} (h : w.cell? a = some v) : a.block < w.heap.size := by
  rcases Nat.lt_or_ge a.block w.heap.size with h1 | h1
  · exact h1
  · have : w.heap[a.block]? = none := by simp [h1]
    simp [World.cell?, this] at h
end
end Gus
end
section
/- Arguments: raw matrices of the statements. -/
namespace Gus
open Go Go.RowKit Go.Proofs Go.ChangeShapes Go.WideShapes Go.ChangeAt Go.Deep
section
variable {H : Type} {enc : TypeId × Value → H} {W : World} {base : Nat} {sp : Nat → Bool} {held : Bool}
set_option maxRecDepth 100000 in
theorem open_es {fuel : Nat} {cs : List Value} {x : DataW H × List MemPlace} (h : DataW.trod enc Tryz.prog W base sp held fuel 106 cs = some x) :
    ∃ v l, cs = [v] ∧ EAt W v l ∧ EOk l ∧ l.length ≤ maxLen := by
  rcases open_slice Tryz.underlying106 h with ⟨rfl, _⟩ | ⟨a, len, cap, m, n, D, Pl, rfl, hb, hlc, hcm, hm, _, hx⟩
  · exact ⟨_, [], rfl, ⟨none, 0, rfl, fun i hi => absurd hi (Nat.not_lt_zero _)⟩, fun p hp => by (cases hp), Nat.zero_le _⟩
  · have hlm : len ≤ m := by rw [hm]; split <;> omega
    have each : ∀ i, i < len → ∃ q : EQ, W.cell? (a.add (i * 3)) = some (.int .i64 q.1) ∧ W.cell? (a.add (i * 3 + 1)) = some (.int .i64 q.2.1) ∧ W.cell? (a.add (i * 3 + 2)) = some (.int .u32 q.2.2) ∧
        -9223372036854775808 ≤ q.2.1 ∧ q.2.1 < 9223372036854775808 ∧ 0 ≤ q.2.2 ∧ q.2.2 < 4294967296 := by
      intro i hi
      obtain ⟨cs', h1, h2⟩ := hx i (by omega)
      rw [show Tryz.prog.cellsOf 109 = 3 by kernel_rfl] at h1
      obtain ⟨_, hlen, hcell⟩ := World.cells?_some h1
      obtain ⟨y0, y1, k, _, _, g0, g1⟩ := trod_struct2 Tryz.underlying109 h2
      match cs', hlen with
      | [v0, v1, v2], _ =>
        obtain ⟨z0, e0, _, w0⟩ := DataW.trod_int Tryz.underlying3 g0
        obtain ⟨u0, u1, _, _, _, g2, g3⟩ := trod_struct2 Tryz.underlying35 g1
        obtain ⟨z1, e1, _, w1⟩ := DataW.trod_int Tryz.underlying2 g2
        obtain ⟨z2, e2, _, w2⟩ := DataW.trod_int Tryz.underlying33 g3
        simp [show Tryz.prog.cellsOf 3 = 1 by kernel_rfl, show Tryz.prog.cellsOf 2 = 1 by kernel_rfl, show Tryz.prog.cellsOf 33 = 1 by kernel_rfl, show Tryz.prog.cellsOf 35 = 2 by kernel_rfl] at e0 e1 e2
        subst e0 e1 e2
        have b1 := bounds_i64 w1
        have b2 := bounds_u32 w2
        have f0 := hcell 0 (by omega)
        have f1 := hcell 1 (by omega)
        have f2 := hcell 2 (by omega)
        rw [add_add] at f0 f1 f2
        exact ⟨(z0, z1, z2), by simpa using f0, by simpa using f1, by simpa using f2, b1.1, (by show z1 < _; omega), b2.1, (by show z2 < _; omega)⟩
    obtain ⟨q, hq⟩ := choose_lt each
    have hlen : ((List.range len).map q).length = len := by simp
    refine ⟨_, (List.range len).map q, rfl, ⟨some a, cap, by rw [hlen], fun k hk => ?_⟩, fun p hp => ?_, by rw [hlen]; omega⟩
    · rw [hlen] at hk
      obtain ⟨c0, c1, c2, _⟩ := hq k hk
      obtain ⟨b, off, spot⟩ := a
      obtain rfl : spot = none := by
        have hs := World.cell?_spot (hq 0 (by omega)).1
        simpa [Addr.add] using hs
      rw [add_plain] at c0 c1 c2
      have e : ((List.range len).map q).getD k (0, 0, 0) = q k := by simp [hk]
      rw [e]
      exact ⟨b, off, rfl, cell_in c0, c0, by rw [Nat.add_assoc]; exact c1, by rw [Nat.add_assoc]; exact c2⟩
    · obtain ⟨i, hi, rfl⟩ := List.mem_map.1 hp
      exact (hq i (List.mem_range.1 hi)).2.2.2
set_option maxRecDepth 100000 in
theorem open_ess {fuel : Nat} {cs : List Value} {x : DataW H × List MemPlace} (h : DataW.trod enc Tryz.prog W base sp held fuel 103 cs = some x) :
    ∃ a es cap, cs = [.slice a (List.length es) cap] ∧ RawAt W a es ∧ (∀ l ∈ es, EOk l) ∧ (∀ l ∈ es, l.length ≤ maxLen) ∧ es.length ≤ maxLen := by
  rcases open_slice1 Tryz.underlying103 (by kernel_rfl) h with ⟨rfl, _⟩ | ⟨a, len, cap, m, n, V, D, Pl, rfl, hb, hlc, hcm, hm, _, hx⟩
  · exact ⟨none, [], 0, rfl, fun i hi => absurd hi (Nat.not_lt_zero _), fun p hp => by (cases hp), fun p hp => by (cases hp), Nat.zero_le _⟩
  · have hlm : len ≤ m := by rw [hm]; split <;> omega
    have each : ∀ i, i < len → ∃ l : List EQ, W.cell? (a.add i) = some (V i) ∧ EAt W (V i) l ∧ EOk l ∧ l.length ≤ maxLen := by
      intro i hi
      obtain ⟨h1, h2⟩ := hx i (by omega)
      obtain ⟨v, l, e, k1, k2, k3⟩ := open_es h2
      simp only [List.cons.injEq, and_true] at e
      subst e
      exact ⟨l, h1, k1, k2, k3⟩
    obtain ⟨q, hq⟩ := choose_lt each
    have hlen : ((List.range len).map q).length = len := by simp
    refine ⟨some a, (List.range len).map q, cap, by rw [hlen], fun k hk => ?_, fun p hp => ?_, fun p hp => ?_, by rw [hlen]; omega⟩
    · rw [hlen] at hk
      obtain ⟨c0, c1, _⟩ := hq k hk
      obtain ⟨b, off, spot⟩ := a
      obtain rfl : spot = none := by
        have hs := World.cell?_spot (hq 0 (by omega)).1
        simpa [Addr.add] using hs
      rw [add_plain] at c0
      have e : ((List.range len).map q).getD k [] = q k := by simp [hk]
      rw [e]
      exact ⟨b, off, V k, rfl, cell_in c0, c0, c1⟩
    · obtain ⟨i, hi, rfl⟩ := List.mem_map.1 hp
      exact (hq i (List.mem_range.1 hi)).2.2.1
    · obtain ⟨i, hi, rfl⟩ := List.mem_map.1 hp
      exact (hq i (List.mem_range.1 hi)).2.2.2
set_option maxRecDepth 100000 in
theorem open_raw {b0 : Nat} {v : Value} {d : DataW H} {ps : List MemPlace} (hval : Value.okWide Tryz.prog W .any b0 105 v) (hd : DataW.Trod enc Tryz.prog W base sp held 105 v d ps) :
    ∃ (n m : Int) (a : Option Addr) (es : List (List EQ)) (cap : Nat), v = .agg #[.int .i64 n, .int .i64 m, .slice a es.length cap] ∧ RawAt W a es ∧ (∀ l ∈ es, EOk l) ∧ (∀ l ∈ es, l.length ≤ maxLen) ∧ es.length ≤ maxLen := by
  obtain ⟨cs, rfl, hs⟩ := okWide_struct Tryz.underlying105 hval
  obtain ⟨fuel, hf⟩ := hd
  rw [show Tryz.prog.cellsOf 105 = 3 by kernel_rfl] at hs
  obtain ⟨x, y, z, rfl⟩ : ∃ x y z, cs = #[x, y, z] := by
    rcases cs with ⟨l⟩
    match l, hs with
    | [x, y, z], _ => exact ⟨x, y, z, rfl⟩
  obtain ⟨xs, m, _, _, _, hxl, hf⟩ := DataW.trod_struct Tryz.underlying105 hf
  match xs, hxl with
  | [y0, y1, y2], _ =>
    have h0 := hf 0 _ rfl
    have h1 := hf 1 _ rfl
    have h2 := hf 2 _ rfl
    obtain ⟨n, g0, _, w0⟩ := DataW.trod_int Tryz.underlying3 h0
    obtain ⟨e, g1, _, w1⟩ := DataW.trod_int Tryz.underlying3 h1
    obtain ⟨a, es, cap, g2, k1, k2, k3, k4⟩ := open_ess h2
    simp [Value.cells, show Tryz.prog.cellsOf 3 = 1 by kernel_rfl, show Tryz.prog.cellsOf 103 = 1 by kernel_rfl] at g0 g1 g2
    subst g0 g1 g2
    exact ⟨n, e, a, es, cap, rfl, k1, k2, k3, k4⟩
end
end Gus
end
section
/- Proved: whatever the raw matrix, gussetlaw16.SparsesChecks returns true, and the arguments read as before. Conditions: the three listed tables hold what the program's text lays (the card ties them). -/
namespace Go.Proofs.YtjiobckoldnonaaGreatDoor
open Go Go.RowKit Go.ChangeShapes Go.WideShapes Go.ChangeAt Gus
namespace Chk
theorem params_ok : ∀ t ∈ Tryz.f7.params.toList, Tryz.prog.readableRec t = true ∧ t < Tryz.prog.types.size := by
  rw [Tryz.params7]
  intro t ht
  simp only [List.mem_cons, List.not_mem_nil, or_false] at ht
  subst ht; exact ⟨by kernel_rfl, of_decide_eq_true (by kernel_rfl)⟩
set_option maxRecDepth 100000 in
theorem contract (H : Type) (enc : TypeId × Value → H) (W : World) (base : Nat) (args : Array Value) (ds gs : List (DataW H)) (before : List MemPlace)
    (hval : ∀ (j : Nat) t v, Tryz.f7.params[j]? = some t → args[j]? = some v → Value.okWide Tryz.prog W .any base t v)
    (hW : DataW.Whole enc Tryz.prog Tryz.f7.params.toList Rows.sparsesChecksSpec.vars false W args.toList ds gs before) :
    Calls Tryz.prog 7 args W fun e W' => ∃ v, e = .returned v ∧ Rows.sparsesChecksSpec.post enc Tryz.prog Tryz.f7 false true false false W args v W' := by
  have hW' := hW
  have hlt := hW.lt
  obtain ⟨p, q, hA0, hV, rfl, hfz, hnd⟩ := hW
  have hA1 : DataW.TrodAll enc Tryz.prog W 0 (fun _ => true) true Tryz.f7.params.toList args.toList ds p := hA0
  have hA := hA1
  rw [Tryz.params7] at hA hval
  obtain ⟨v0, vs0, d0, ds0, p0, q0, hargs, rfl, rfl, h0, r0⟩ := trodAll_cons hA
  obtain ⟨rfl, rfl, rfl⟩ := trodAll_nil r0
  obtain rfl : args = #[v0] := by cases args; simp_all
  obtain ⟨rfl, rfl⟩ := trodVars_none hV
  obtain ⟨n0, m0, a0, es0, k0, rfl, hq0, ho0, hll0, hl0⟩ := open_raw (hval 0 105 v0 (by rfl) (by rfl)) h0
  refine (checks_any W n0 m0 a0 k0 es0 hq0 ho0 hl0 hll0).mono fun e W' ⟨he, hb⟩ => ?_
  subst he
  exact ⟨_, rfl, row_end (pv := []) hb hW' rfl (fun sp hsp => args_stay hb params_ok hA1 (fun x hx => hlt x (List.mem_append.2 (.inl hx))) (fun x hx => hsp x (List.mem_append.2 (.inl hx)))) (fun _ _ => rfl)
    (fun _ _ _ => trodAll_cons_mk (shut_bool Tryz.underlying4 _) trodAll_mk0) (ok_one (by kernel_rfl) rfl (okWide_bool_mk Tryz.underlying4 _))⟩
abbrev input : Array Value := #[.agg #[.int .i64 0, .int .i64 0, .slice none 0 0]]
theorem laid_met (os : Os) : laidMet Tryz.prog Rows.sparsesChecksRow.laid ((laidW os).forCall (fun _ _ => 0) ⟨#[], input, []⟩).memory :=
  laidMet_of_run' 8 (by kernel_rfl) (by kernel_rfl)
theorem reads (os : Os) {H : Type} (enc : TypeId × Value → H) : ∃ places, DataW.whole enc Tryz.prog ((laidW os).forCall (fun _ _ => 0) ⟨#[], input, []⟩).memory Tryz.f7.params.toList Rows.sparsesChecksSpec.vars false input.toList 8 = some ([.agg [.lit (.int .i64 0), .lit (.int .i64 0), .nil]], [], places) :=
  ⟨[], by kernel_rfl⟩
set_option maxRecDepth 100000 in
theorem lifted (os : Os) (started : os.Started) (H : Type) (enc : TypeId × Value → H) (F : Stop.Interp) :
    ReturnsInHanded {} Tryz.checked os 7 .any ((OpenSpec.ofChange Rows.sparsesChecksSpec).preRow enc Tryz.prog Tryz.f7 Rows.sparsesChecksRow.domain false Rows.sparsesChecksRow.laid) (((OpenSpec.ofChange Rows.sparsesChecksSpec).at F).post enc Tryz.prog Tryz.f7 false true false false) := by
  obtain ⟨places, hx⟩ := reads os enc
  refine returnsInHanded_of_row (C := Tryz.checked) (s := OpenSpec.ofChange Rows.sparsesChecksSpec) ownK started (by kernel_rfl) Tryz.func7
    (witness_row_at (enc := enc) (C := Tryz.checked) false (laidW os) input rfl (by kernel_rfl) (by kernel_rfl) (by kernel_rfl)
      (OpenSpec.preRow_of_cond 8 hx (by kernel_rfl) (fun k hk => by cases hk) (by kernel_rfl) (laid_met os))) ?_
  intro W base args ds gs before hval hW _ _ _ _ _ _
  exact contract H enc W base args ds gs before hval hW
theorem said : Rows.SparsesChecksSaid :=
  OpenClaim.holds_of_cond 7 Tryz.f7 rfl rfl rfl rfl rfl rfl rfl ⟨rfl, rfl, rfl, rfl, rfl⟩ rfl rfl rfl rfl rfl (by kernel_rfl) Tryz.func7 (by kernel_rfl)
    (of_decide_eq_true (by kernel_rfl)) (by unfold Func.isWrapper; first | (rw [if_pos (by decide +kernel)]; kernel_rfl) | (rw [if_neg (by decide +kernel)]; exact ⟨rfl, rfl⟩))
    (fun os started H enc _ F => by rw [OpenClaim.pre_eq_preRow]; exact lifted os started H enc F)
theorem plain (f : FuncId) (fn : Func) (hf : Tryz.pinned.checked.prog.funcNamed "gusset/gussetlaw16.SparsesChecks" = some f) (hfn : Tryz.pinned.checked.prog.funcs[f]? = some fn) :
    false = Tryz.pinned.checked.prog.looks [] ∧ ∀ (j : Nat) t, fn.params[j]? = some t → Tryz.pinned.checked.prog.wantsStandIn t = false := by
  obtain rfl : f = 7 := Option.some.inj ((show Tryz.prog.funcNamed "gusset/gussetlaw16.SparsesChecks" = some 7 by kernel_rfl).symm.trans hf) |>.symm
  obtain rfl : fn = Tryz.f7 := (Option.some.inj (Tryz.func7.symm.trans hfn)).symm
  refine ⟨by kernel_rfl, fun j t ht => ?_⟩
  have hm := Array.mem_of_getElem? ht
  rw [Tryz.params7] at hm
  simp only [List.mem_toArray, List.mem_cons, List.not_mem_nil, or_false] at hm
  subst hm
  exact (show Tryz.prog.wantsStandIn 105 = false by kernel_rfl)
end Chk
/-- the card -/
theorem checks_card : Rows.SparsesChecksCardSaid :=
  Claim7.holds_tied_plain_at .later [] _ _ _ _ Chk.said (fun _ h => by cases h) (by kernel_rfl) (fun _ h => by cases h) sparsesChecks_row_tie rfl ⟨rfl, rfl⟩ (by kernel_rfl) rfl Chk.plain (by kernel_rfl)
end Go.Proofs.YtjiobckoldnonaaGreatDoor
end
