/- Proved here: parts of the proof: Mro Mpp Pdn Sbl ArgD. Conditions: those that each theorem states. -/
import Derived.Test.YtakblfhmllgepaaGreatDoorVdtQ
import Derived.Test.YtakblfhmllgepaaGreatDoorItmQ
import Derived.Test.YtakblfhmllgepaaGreatDoorVecQ
import Derived.Test.YtakblfhmllgepaaGreatDoorCntQ
import Derived.Test.YtakblfhmllgepaaGreatDoorSmaQ
import Derived.Deep.Slices
import Derived.Deep.Strs
section
/- mats.Apply. -/
namespace Gus
open Go Go.RowKit Go.Proofs
def VRes (bad : Bool) (L : List Rat) (w : World) (v : Value) (e : Int) : Prop := (bad = true ∧ e = 1 ∧ v = .slice none 0 0) ∨ (bad = false ∧ e = 0 ∧ VecAt w v L)
theorem VRes.call {bad : Bool} {L : List Rat} {w w' : World} {v : Value} {e : Int} (h : VRes bad L w v e) (hb : Below w.heap.size w w') : VRes bad L w' v e := h.imp id fun h => ⟨h.1, h.2.1, h.2.2.call hb⟩
end Gus
end
section
/- sparses.all of two valid matrices; builders filled by several values for every entry. -/
namespace Gus
open Go Go.RowKit Go.Proofs
theorem SzK_foldAs {j : Nat} : ∀ (L : List (Nat × Nat × Rat)) {s : Nat} {f : Nat → Nat → Rat}, (∀ a c, SzK s (f a c)) → (∀ x ∈ L, SzK j x.2.2) → ∀ a c, SzK (s + L.length * (j + 1)) (foldA f L a c)
  | [], s, f, hf, _, a, c => (hf a c).mono (by simp)
  | x :: L, s, f, hf, hx, a, c => by
    refine (SzK_foldAs L (f := addF f x) (SzK_foldA hf (hx _ (.head _))) (fun y hy => hx y (List.mem_cons_of_mem _ hy)) a c).mono ?_
    rw [List.length_cons, Nat.succ_mul]; omega
end Gus
end
section
/- Arguments: additions of the statements (positions and fractions), and matrices of them. -/
namespace Gus
open Go Go.RowKit Go.Proofs Go.ChangeShapes Go.WideShapes Go.ChangeAt Go.Deep
/-- a value at a position: row, column, numerator, denominator -/
abbrev TQ := Nat × Nat × Int × Int
def TOk (l : List TQ) : Prop := ∀ x ∈ l, x.1 < 256 ∧ x.2.1 < 256 ∧ -9223372036854775808 ≤ x.2.2.1 ∧ x.2.2.1 < 9223372036854775808 ∧ 0 ≤ x.2.2.2 ∧ x.2.2.2 < 4294967296
def TAt (w : World) (a : Option Addr) (l : List TQ) : Prop := ∀ k, k < l.length → ∃ b off, a = some ⟨b, off, none⟩ ∧ b < w.heap.size ∧ w.cell? ⟨b, off + k * 4, none⟩ = some (.int .u8 (l.getD k (0, 0, 0, 0)).1) ∧ w.cell? ⟨b, off + k * 4 + 1, none⟩ = some (.int .u8 (l.getD k (0, 0, 0, 0)).2.1) ∧
  w.cell? ⟨b, off + k * 4 + 2, none⟩ = some (.int .i64 (l.getD k (0, 0, 0, 0)).2.2.1) ∧ w.cell? ⟨b, off + k * 4 + 3, none⟩ = some (.int .u32 (l.getD k (0, 0, 0, 0)).2.2.2)
theorem TAt.call {w w' : World} {a : Option Addr} {l : List TQ} (h : TAt w a l) (hb : Below w.heap.size w w') : TAt w' a l := fun k hk => by
  obtain ⟨b, off, h1, h2, c0, c1, c2, c3⟩ := h k hk
  exact ⟨b, off, h1, Nat.lt_of_lt_of_le h2 hb.size, by rw [hb.cell (p := ⟨b, off + k * 4, none⟩) h2]; exact c0, by rw [hb.cell (p := ⟨b, off + k * 4 + 1, none⟩) h2]; exact c1,
    by rw [hb.cell (p := ⟨b, off + k * 4 + 2, none⟩) h2]; exact c2, by rw [hb.cell (p := ⟨b, off + k * 4 + 3, none⟩) h2]; exact c3⟩
section
variable {H : Type} {enc : TypeId × Value → H} {W : World} {base : Nat} {sp : Nat → Bool} {held : Bool}
set_option maxRecDepth 100000 in
theorem open_ts {fuel : Nat} {cs : List Value} {x : DataW H × List MemPlace} (h : DataW.trod enc Tryz.prog W base sp held fuel 22 cs = some x) :
    ∃ a l cap, cs = [.slice a (List.length l) cap] ∧ TAt W a l ∧ TOk l ∧ l.length ≤ maxLen := by
  rcases open_slice Tryz.underlying22 h with ⟨rfl, _⟩ | ⟨a, len, cap, m, n, D, Pl, rfl, hb, hlc, hcm, hm, _, hx⟩
  · exact ⟨none, [], 0, rfl, fun i hi => absurd hi (Nat.not_lt_zero _), fun p hp => by (cases hp), Nat.zero_le _⟩
  · have hlm : len ≤ m := by rw [hm]; split <;> omega
    have each : ∀ i, i < len → ∃ q : TQ, W.cell? (a.add (i * 4)) = some (.int .u8 q.1) ∧ W.cell? (a.add (i * 4 + 1)) = some (.int .u8 q.2.1) ∧ W.cell? (a.add (i * 4 + 2)) = some (.int .i64 q.2.2.1) ∧ W.cell? (a.add (i * 4 + 3)) = some (.int .u32 q.2.2.2) ∧
        q.1 < 256 ∧ q.2.1 < 256 ∧ -9223372036854775808 ≤ q.2.2.1 ∧ q.2.2.1 < 9223372036854775808 ∧ 0 ≤ q.2.2.2 ∧ q.2.2.2 < 4294967296 := by
      intro i hi
      obtain ⟨cs', h1, h2⟩ := hx i (by omega)
      rw [show Tryz.prog.cellsOf 37 = 4 by kernel_rfl] at h1
      obtain ⟨_, hlen, hcell⟩ := World.cells?_some h1
      obtain ⟨y0, y1, y2, k, _, _, g0, g1, g2⟩ := trod_struct3 Tryz.underlying37 h2
      match cs', hlen with
      | [v0, v1, v2, v3], _ =>
        obtain ⟨z0, e0, _, w0⟩ := DataW.trod_int Tryz.underlying5 g0
        obtain ⟨z1, e1, _, w1⟩ := DataW.trod_int Tryz.underlying5 g1
        obtain ⟨u0, u1, _, _, _, g3, g4⟩ := trod_struct2 Tryz.underlying35 g2
        obtain ⟨z2, e2, _, w2⟩ := DataW.trod_int Tryz.underlying2 g3
        obtain ⟨z3, e3, _, w3⟩ := DataW.trod_int Tryz.underlying33 g4
        simp [show Tryz.prog.cellsOf 5 = 1 by kernel_rfl, show Tryz.prog.cellsOf 2 = 1 by kernel_rfl, show Tryz.prog.cellsOf 33 = 1 by kernel_rfl, show Tryz.prog.cellsOf 35 = 2 by kernel_rfl] at e0 e1 e2 e3
        subst e0 e1 e2 e3
        have b0 := bounds_u8 w0
        have b1 := bounds_u8 w1
        have b2 := bounds_i64 w2
        have b3 := bounds_u32 w3
        have f0 := hcell 0 (by omega)
        have f1 := hcell 1 (by omega)
        have f2 := hcell 2 (by omega)
        have f3 := hcell 3 (by omega)
        rw [add_add] at f0 f1 f2 f3
        obtain ⟨z0, rfl⟩ := Int.eq_ofNat_of_zero_le b0.1
        obtain ⟨z1, rfl⟩ := Int.eq_ofNat_of_zero_le b1.1
        exact ⟨(z0, z1, z2, z3), by simpa using f0, by simpa using f1, by simpa using f2, by simpa using f3, (by show z0 < _; omega), (by show z1 < _; omega), b2.1, (by show z2 < _; omega), b3.1, (by show z3 < _; omega)⟩
    obtain ⟨q, hq⟩ := choose_lt each
    have hlen : ((List.range len).map q).length = len := by simp
    refine ⟨some a, (List.range len).map q, cap, by rw [hlen], fun k hk => ?_, fun p hp => ?_, by rw [hlen]; omega⟩
    · rw [hlen] at hk
      obtain ⟨c0, c1, c2, c3, _⟩ := hq k hk
      obtain ⟨b, off, spot⟩ := a
      obtain rfl : spot = none := by
        have hs := World.cell?_spot (hq 0 (by omega)).1
        simpa [Addr.add] using hs
      rw [add_plain] at c0 c1 c2 c3
      have e : ((List.range len).map q).getD k (0, 0, 0, 0) = q k := by simp [hk]
      rw [e]
      exact ⟨b, off, rfl, cell_in c0, c0, by rw [Nat.add_assoc]; exact c1, by rw [Nat.add_assoc]; exact c2, by rw [Nat.add_assoc]; exact c3⟩
    · obtain ⟨i, hi, rfl⟩ := List.mem_map.1 hp
      exact (hq i (List.mem_range.1 hi)).2.2.2.2
set_option maxRecDepth 100000 in
theorem open_tl {b0 : Nat} {v : Value} {d : DataW H} {ps : List MemPlace} (hval : Value.okWide Tryz.prog W .any b0 22 v) (hd : DataW.Trod enc Tryz.prog W base sp held 22 v d ps) :
    ∃ a l cap, v = .slice a (List.length l) cap ∧ TAt W a l ∧ TOk l ∧ l.length ≤ maxLen := by
  obtain ⟨a, len, cap, rfl⟩ := okWide_slice Tryz.underlying22 hval
  obtain ⟨fuel, hf⟩ := hd
  obtain ⟨a', l, cap', e, h1, h2, h3⟩ := open_ts hf
  simp [Value.cells] at e
  obtain ⟨rfl, rfl, rfl⟩ := e
  exact ⟨a, l, cap, rfl, h1, h2, h3⟩
end
end Gus
end
