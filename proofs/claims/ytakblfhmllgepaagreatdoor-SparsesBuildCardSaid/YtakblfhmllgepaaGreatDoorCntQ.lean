/- Proved here: parts of the proof: Cnt Of One CrdA Mtx Sml Ofd. Conditions: those that each theorem states. -/
import Derived.Test.YtakblfhmllgepaaGreatDoorWrkQ
import Derived.Test.YtakblfhmllgepaaGreatDoorRows
import Derived.Test.YtakblfhmllgepaaGreatDoorTie
import Derived.Test.YtakblfhmllgepaaGreatDoorCards
import Derived.WalkKit
import Derived.ProofKit
import Derived.OpenShut
import Derived.SevenTiedAt
import Derived.Below
import Derived.ChangeSame
import Derived.LaidLaws
import Derived.Lib.LaidTab
import Derived.Deep.DeepHandedRow
import Derived.Handy
section
/- sparses.Symmetric, sparses.Count, a nil builder's matrix. -/
namespace Gus
open Go Go.RowKit Go.Proofs
def gRows (r c : Nat) (f : Nat → Nat → Rat) : List (List EntI) := (mrows r c f).map fun es => es.map cI
theorem gRows_length (r c : Nat) (f : Nat → Nat → Rat) : (gRows r c f).length = r := by unfold gRows; rw [List.length_map, mrows_length]
theorem gRows_row {r c : Nat} (f : Nat → Nat → Rat) (i : Nat) : ((gRows r c f).getD i []).length ≤ c := by
  unfold gRows
  by_cases hi : i < r
  · have e : ((mrows r c f).map fun es => es.map cI).getD i [] = ((mrows r c f).getD i []).map cI := by
      simp only [List.getD_eq_getElem?_getD, List.getElem?_map, List.getElem?_eq_getElem (show i < (mrows r c f).length by rw [mrows_length]; exact hi)]; rfl
    rw [e, List.length_map]
    exact mrows_row r c f i
  · rw [List.getD_eq_getElem?_getD, List.getElem?_eq_none (by rw [List.length_map, mrows_length]; omega)]; exact Nat.zero_le _
/-- whether two matrices are the same -/
def sameM (r c : Nat) (f : Nat → Nat → Rat) (r' c' : Nat) (g : Nat → Nat → Rat) : Bool := sameS r c (gRows r c f) r' c' (gRows r' c' g)
theorem ssame_ok {w : World} {v1 v2 : Value} {r c r' c' : Nat} {f g : Nat → Nat → Rat} (h1 : SpM w v1 r c f) (h2 : SpM w v2 r' c' g) (hr : r ≤ 2048) (hc : c ≤ 2048) :
    Calls Tryz.prog 17 #[v1, v2] w fun e w' => e = .returned (.bool (sameM r c f r' c' g)) ∧ Below w.heap.size w w' :=
  ssame_any w v1 v2 r c r' c' (gRows r c f) (gRows r' c' g) h1.g h2.g (by rw [gRows_length]; omega) (fun i => Nat.le_trans (gRows_row f i) (by omega))
theorem sameM_self {r c : Nat} {f g : Nat → Nat → Rat} (h : ∀ i k, i < r → k < c → f i k = g i k) : sameM r c f r c g = true := by
  unfold sameM sameS gRows
  rw [mrows_congr h]; simp
end Gus
end
section
/- sparses.Of. -/
namespace Gus
open Go Go.RowKit Go.Proofs
abbrev Itm := Int × Int × Rat
def ics (x : Itm) : List Value := .int .i64 x.1 :: .int .i64 x.2.1 :: fcs x.2.2
/-- a slice of items as it is read -/
def ItsAt (w : World) (a : Option Addr) (its : List Itm) : Prop := ∀ i, i < its.length → ∃ b off, a = some ⟨b, off, none⟩ ∧ b < w.heap.size ∧ ∀ j, j < 7 → w.cell? ⟨b, off + i * 7 + j, none⟩ = (ics (its.getD i (0, 0, 0)))[j]?
theorem ItsAt.call {w w' : World} {a : Option Addr} {its : List Itm} (h : ItsAt w a its) (hb : Below w.heap.size w w') : ItsAt w' a its := fun i hi => by
  obtain ⟨b, off, h1, h2, h3⟩ := h i hi
  exact ⟨b, off, h1, Nat.lt_of_lt_of_le h2 hb.size, fun j hj => by rw [hb.cell (p := ⟨b, off + i * 7 + j, none⟩) h2]; exact h3 j hj⟩
def okI (n m : Nat) (x : Itm) : Bool := decide (0 ≤ x.1) && decide (x.1 < n) && decide (0 ≤ x.2.1) && decide (x.2.1 < m)
def toN (x : Itm) : Nat × Nat × Rat := (x.1.toNat, x.2.1.toNat, x.2.2)
abbrev zeroSp : Value := .agg #[.int .i64 0, .int .i64 0, .slice none 0 0]
theorem SpOwn.mono {w : World} {lo lo' : Nat} {v : Value} {r c : Nat} {Ls : Nat → List Ent} (h : SpOwn w lo v r c Ls) (hl : lo' ≤ lo) : SpOwn w lo' v r c Ls := by
  obtain ⟨R, vs, h1, h2, h3⟩ := h
  exact ⟨R, vs, h1, by omega, h3⟩
def OfPost (w : World) (n m : Nat) (its : List Itm) (e : Ending) (w' : World) : Prop :=
  ((its.all (okI n m) = true ∧ ∃ v, e = .returned (.tuple #[v, .int .i64 0]) ∧ SpN w' w.heap.size v n m (foldA (fun _ _ => 0) (its.map toN))) ∨ (its.all (okI n m) = false ∧ e = .returned (.tuple #[zeroSp, .int .i64 1]))) ∧ Below w.heap.size w w'
theorem foldA_snoc (f : Nat → Nat → Rat) (L : List (Nat × Nat × Rat)) (x : Nat × Nat × Rat) : foldA f (L ++ [x]) = addF (foldA f L) x := by
  unfold foldA; rw [List.foldl_append]; rfl
theorem take_getD {α : Type} (l : List α) (d : α) {i : Nat} (hi : i < l.length) : l.take (i + 1) = l.take i ++ [l.getD i d] := by
  rw [List.take_succ_eq_append_getElem hi, List.getD_eq_getElem?_getD, List.getElem?_eq_getElem hi]; rfl
theorem all_take {α : Type} (l : List α) (d : α) (p : α → Bool) {i : Nat} (hi : i < l.length) (h : (l.take i).all p = true) (h2 : p (l.getD i d) = true) : (l.take (i + 1)).all p = true := by
  rw [take_getD l d hi, List.all_append, h, List.all_cons, h2, List.all_nil]; rfl
theorem all_false {α : Type} (l : List α) (d : α) (p : α → Bool) {i : Nat} (hi : i < l.length) (h2 : p (l.getD i d) = false) : l.all p = false := by
  rw [List.all_eq_false]
  exact ⟨l.getD i d, by rw [List.getD_eq_getElem?_getD, List.getElem?_eq_getElem hi]; exact List.getElem_mem hi, by rw [h2]; decide⟩
set_option maxRecDepth 100000 in
set_option maxHeartbeats 4000000 in
theorem of_ok {j : Nat} (w : World) (n m : Nat) (a : Option Addr) (cap : Nat) (its : List Itm) (hI : ItsAt w a its) (hn : n ≤ 2048) (hm : m ≤ 2048) (hl : its.length ≤ 1048576) (hz : ∀ i, SzK j (its.getD i (0, 0, 0)).2.2) (hcap : its.length * (j + 1) + 1 < 17592186044416) :
    Calls Tryz.prog 16 #[.int .i64 n, .int .i64 m, .slice a its.length cap] w (OfPost w n m its) := by
  have h1 := new_ok n m hn hm
  obtain ⟨L, hL⟩ : ∃ L, L = its.length := ⟨_, rfl⟩
  unfold ItsAt at hI
  rw [← hL] at hI hl hcap ⊢
  obtain ⟨X, hX⟩ : ∃ X, X = w.heap.size := ⟨_, rfl⟩
  have HX := Lib.hid hX
  have HI := Lib.hid hI
  have HL := Lib.hid hL
  have HZ := Lib.hid hz
  have HC := Lib.hid hcap
  clear hI hL hz hcap
  go_enter Tryz.func16, Tryz.ntmps16
  go_wp2_with fail
  ((with_reducible refine (h1 _).mono ?_))
  rintro e w2 ⟨b, rfl, hb, hB, hbel⟩
  have hin : In X w w2 := by rw [hX]; exact ((In.self w).alloc _).call hbel
  have br := (Bx.new_at w #[.int .i64 0, .int .i64 0, .slice none 0 0] 63 hX).call hbel
  rw [World.size_alloc, ← hX] at hb
  rw [← hX]
  clear hX hbel h1
  go_wp2_with fail
  go_loopw [25] (fun v25 wr => ∃ k : Nat, k ≤ L ∧ v25 = .int .i64 k ∧ In X w wr ∧ Bx wr X 63 [.int .i64 0, .int .i64 0, .slice none 0 0] ∧ BB wr (b + 1) b k n m (foldA (fun _ _ => 0) ((its.take k).map toN)) ∧ (∀ x y, SzK (1 + k * (j + 1)) (foldA (fun _ _ => 0) ((its.take k).map toN) x y)) ∧ Hid ((its.take k).all (okI n m) = true)) (fun v25 _ => L - (RowKit.intOf v25).toNat)
  case atStart => exact ⟨0, Nat.zero_le _, rfl, hin, br, hB, fun _ _ => (show SzK _ 0 from SzK.zero.mono (by omega)), Lib.hid rfl⟩
  case round =>
    clear hin br hB
    obtain ⟨k, hk, rfl, hin, br, hB, hsz, HA⟩ := hrel
    by_cases hkL : k < L
    · obtain ⟨b2, off, rfl, hb2, hc⟩ := HI.out k hkL
      obtain ⟨x, hx⟩ : ∃ x, x = its.getD k (0, 0, 0) := ⟨_, rfl⟩
      rw [← hx] at hc
      have hzx := HZ.out k
      rw [← hx] at hzx
      obtain ⟨A1, A2, A3, A4, A5, hA, hA2⟩ : ∃ A1 A2 A3 A4 A5, fcs x.2.2 = [.int .u64 A1, .string A2, .bool A3, .int .u64 A4, .string A5] ∧ fracV x.2.2 = .agg #[.int .u64 A1, .string A2, .bool A3, .int .u64 A4, .string A5] := ⟨_, _, _, _, _, rfl, rfl⟩
      have hics : ics x = [.int .i64 x.1, .int .i64 x.2.1, .int .u64 A1, .string A2, .bool A3, .int .u64 A4, .string A5] := by unfold ics; rw [hA]
      rw [hics] at hc
      rw [← HX.out] at hb2
      have d0 := (hin.cell b2 (off + k * 7) hb2).trans (hc 0 (by decide))
      have d1 := (hin.cell b2 (off + k * 7 + 1) hb2).trans (hc 1 (by decide))
      have d2 := (hin.cell b2 (off + k * 7 + 2) hb2).trans (hc 2 (by decide))
      have d3 := (hin.cell b2 (off + k * 7 + 3) hb2).trans (hc 3 (by decide))
      have d4 := (hin.cell b2 (off + k * 7 + 4) hb2).trans (hc 4 (by decide))
      have d5 := (hin.cell b2 (off + k * 7 + 5) hb2).trans (hc 5 (by decide))
      have d6 := (hin.cell b2 (off + k * 7 + 6) hb2).trans (hc 6 (by decide))
      simp only [List.getElem?_cons_zero, List.getElem?_cons_succ] at d0 d1 d2 d3 d4 d5 d6
      have hbw : b2 < wr.heap.size := by have := hin.siz; omega
      have hkI : (k : Int) < L := by omega
      have hk0 : (0 : Int) ≤ k := by omega
      have hkw : IntKind.i64.wrap ((k : Int) + 1) = ((k + 1 : Nat) : Int) := IntWalk.i64_in _ (by omega)
      have hkj : (k + 1) * (j + 1) ≤ L * (j + 1) := Nat.mul_le_mul_right _ (by omega)
      have hcl := HC.out
      obtain ⟨y, hy⟩ : ∃ y, y = x.1 := ⟨_, rfl⟩
      obtain ⟨z, hz⟩ : ∃ z, z = x.2.1 := ⟨_, rfl⟩
      obtain ⟨q, hq⟩ : ∃ q, q = x.2.2 := ⟨_, rfl⟩
      rw [← hy] at d0
      rw [← hz] at d1
      rw [← hq] at hzx hA2
      by_cases hok : 0 ≤ y ∧ y < n ∧ 0 ≤ z ∧ z < m
      · obtain ⟨y', rfl⟩ := Int.eq_ofNat_of_zero_le hok.1
        obtain ⟨z', rfl⟩ := Int.eq_ofNat_of_zero_le hok.2.2.1
        have hx2 : toN x = (y', z', q) := by unfold toN; rw [← hy, ← hz, ← hq]; rfl
        have hxo : okI n m x = true := by unfold okI; rw [← hy, ← hz]; simp; omega
        have ha := fun o => badd_in (s := 1 + k * (j + 1)) (j := j) (wr.alloc o) (b + 1) b k n m _ y' z' q (hB.alloc o) (by omega) (by omega) hn hm (by simp only [maxLen]; omega) (by omega) (hsz _ _) hzx (by rw [Nat.add_mul, Nat.one_mul] at hkj; omega)
        have e1 : setF (foldA (fun _ _ => 0) ((its.take k).map toN)) y' z' (foldA (fun _ _ => 0) ((its.take k).map toN) y' z' + q) = foldA (fun _ _ => 0) ((its.take (k + 1)).map toN) := by
          rw [take_getD its (0, 0, 0) (by rw [← HL.out]; exact hkL), ← hx, List.map_append, List.map_singleton, foldA_snoc, hx2]; rfl
        have hsz2 := SzK_foldA (x := (y', z', q)) hsz hzx
        rw [show addF (foldA (fun _ _ => 0) ((its.take k).map toN)) (y', z', q) = foldA (fun _ _ => 0) ((its.take (k + 1)).map toN) from e1] at hsz2
        rw [e1] at ha
        have HA2 : Hid ((its.take (k + 1)).all (okI n m) = true) := Lib.hid (all_take its (0, 0, 0) _ (by rw [← HL.out]; exact hkL) HA.out (by rw [← hx]; exact hxo))
        rw [hA2] at ha
        have HZ2 := Lib.hid hsz2
        clear hsz2 hx2 hxo e1 HA hx hy hz hq hics hc hA hA2 hzx hok hsz
        go_wp2_with fail
        ((with_reducible refine (ha _).mono ?_))
        rintro e w4 ⟨rfl, hB4, hg⟩
        have hin4 := (hin.alloc _).grown hg (by omega)
        have br4 := (br.alloc _).grown hg (by simp; omega)
        clear ha hg hin br hB d0 d1 d2 d3 d4 d5 d6 hbw
        go_wp2_with fail
        exact ⟨⟨k + 1, by omega, by go_num, hin4, br4, hB4, fun x y => (HZ2.out x y).mono (by rw [Nat.add_mul]; omega), HA2⟩, by simp [RowKit.intOf]; omega⟩
      · have ha := fun o => badd_out (wr.alloc o) (b + 1) b k n m _ y z q (hB.alloc o) (fun h => hok ⟨h.1, h.2.1, h.2.2.1, h.2.2.2⟩)
        have hxo : okI n m x = false := by
          unfold okI
          rw [← hy, ← hz]
          simp
          omega
        have HAF := Lib.hid (all_false its (0, 0, 0) (okI n m) (by rw [← HL.out]; exact hkL) (by rw [← hx]; exact hxo))
        rw [hA2] at ha
        clear hxo HA hx hy hz hq hics hc hA hA2 hzx hok hsz hB
        go_wp2_with fail
        ((with_reducible refine (ha _).mono ?_))
        rintro e w4 ⟨rfl, hbel⟩
        have hin4 := (hin.alloc _).call hbel
        have br4 := (br.alloc _).call hbel
        have r0 := br4.c0
        have r1 := br4.c1
        have r2 := br4.c2
        have f0 := br4.frozen 0
        have f1 := br4.frozen 1
        have f2 := br4.frozen 2
        have hrl := br4.lt
        have H1 := Lib.hid (((br4.set 0 (.int .i64 0)).set 1 (.int .i64 0)).set 2 (.slice none 0 0))
        have H2 := Lib.hid (((hin4.setCell (p := ⟨X, 0, none⟩) (Nat.le_refl _) (.int .i64 0)).setCell (p := ⟨X, 1, none⟩) (Nat.le_refl _) (.int .i64 0)).setCell (p := ⟨X, 2, none⟩) (Nat.le_refl _) (.slice none 0 0))
        clear ha hbel hin br hin4 br4 d0 d1 d2 d3 d4 d5 d6 hbw
        go_wp2_with fail
        have g1 := H1.out
        have g2 := H2.out
        clear H1 H2 r0 r1 r2 f0 f1 f2 hrl
        generalize ((w4.setCell ⟨X, 0, none⟩ (.int .i64 0)).setCell ⟨X, 1, none⟩ (.int .i64 0)).setCell ⟨X, 2, none⟩ (.slice none 0 0) = W5 at *
        have e0 : W5.cell? ⟨X, 0, none⟩ = some (.int .i64 0) := g1.cell 0
        have e1 : W5.cell? ⟨X, 1, none⟩ = some (.int .i64 0) := g1.cell 1
        have e2 : W5.cell? ⟨X, 2, none⟩ = some (.slice none 0 0) := g1.cell 2
        refine bodyPost_ret (v := .tuple #[zeroSp, .int .i64 1]) ?_ rfl ⟨.inr ⟨HAF.out, rfl⟩, by rw [← HX.out]; exact g2.bel⟩
        simp [results, Tryz.results16, go_sem, e0, e1, e2]
    · have hkI : ¬ (k : Int) < L := by omega
      have hkL' : k = L := by omega
      have hall := HA.out
      rw [List.take_of_length_le (by rw [← HL.out]; omega)] at hall hB
      have hsp := bsparse_any wr (b + 1) b k n m _ hB hn hm
      have HALL := Lib.hid hall
      have hXw := hin.siz
      clear hall hB hsz HA hkL'
      go_wp2_with fail
      ((with_reducible refine hsp.mono ?_))
      rintro e w5 ⟨v5, rfl, hv5, hb5⟩
      ((obtain ⟨R, h5⟩ : ∃ R, v5 = .agg #[(.int .i64 ((n : Nat) : Int)), (.int .i64 ((m : Nat) : Int)), (.slice (some ⟨R, 0, none⟩) (n) (n))] := by (obtain ⟨R, _, h, _⟩ := hv5; exact ⟨R, h⟩)); (have br5 := br.call hb5); (have hin5 := hin.call hb5); (have hXl := br.lt); (have hv7 := ((SpOwn.other (a := ⟨X, 0, none⟩) hv5 hXl (.int .i64 ((n : Nat) : Int))).other (a := ⟨X, 1, none⟩) hXl (.int .i64 ((m : Nat) : Int))).other (a := ⟨X, 2, none⟩) hXl (.slice (some ⟨R, 0, none⟩) (n) (n))); (have br6 := ((br5.set 0 (.int .i64 ((n : Nat) : Int))).set 1 (.int .i64 ((m : Nat) : Int))).set 2 (.slice (some ⟨R, 0, none⟩) (n) (n))); (have hin6 := ((hin5.setCell (p := ⟨X, 0, none⟩) (by first | (simp; done) | (simp; omega)) (.int .i64 ((n : Nat) : Int))).setCell (p := ⟨X, 1, none⟩) (by first | (simp; done) | (simp; omega)) (.int .i64 ((m : Nat) : Int))).setCell (p := ⟨X, 2, none⟩) (by first | (simp; done) | (simp; omega)) (.slice (some ⟨R, 0, none⟩) (n) (n))); (have f0 := br5.frozen 0); (have f1 := br5.frozen 1); (have f2 := br5.frozen 2); (have b0 := br5.c0); (have b1 := br5.c1); (have b2 := br5.c2); (have hl5 := br5.lt); (subst h5); (have H1 := Lib.hid hv7); (have H2 := Lib.hid br6); (have H3 := Lib.hid hin6); (clear hv7 br6 hin6 hv5 hb5 br br5 hin hin5); (go_wp2_with fail); (have h1 := H1.out); (have h2 := H2.out); (have h3 := H3.out); (clear H1 H2 H3 f0 f1 f2 b0 b1 b2 hl5); (generalize ((w5.setCell ⟨X, 0, none⟩ (.int .i64 ((n : Nat) : Int))).setCell ⟨X, 1, none⟩ (.int .i64 ((m : Nat) : Int))).setCell ⟨X, 2, none⟩ (.slice (some ⟨R, 0, none⟩) (n) (n)) = W6 at *); (have e0 : W6.cell? ⟨X, 0, none⟩ = some (.int .i64 ((n : Nat) : Int)) := h2.cell 0); (have e1 : W6.cell? ⟨X, 1, none⟩ = some (.int .i64 ((m : Nat) : Int)) := h2.cell 1); (have e2 : W6.cell? ⟨X, 2, none⟩ = some (.slice (some ⟨R, 0, none⟩) (n) (n)) := h2.cell 2); (have hfin := SpOwn.mono h1 (show w.heap.size ≤ (World.heap wr).size by rw [← HX.out]; omega)); (have hbelow : Below w.heap.size w W6 := h3.bel.mono (by have := HX.out; omega)); (refine bodyPost_ret (v := .tuple #[.agg #[(.int .i64 ((n : Nat) : Int)), (.int .i64 ((m : Nat) : Int)), (.slice (some ⟨R, 0, none⟩) (n) (n))], .int .i64 0]) ?_ rfl ⟨.inl ⟨HALL.out, _, rfl, hfin⟩, hbelow⟩); (simp [results, Tryz.results16, go_sem, e0, e1, e2]))
end Gus
end
section
/- sparses.One. -/
namespace Gus
open Go Go.RowKit Go.Proofs
def dg (n : Nat) (i k : Nat) : Rat := if i = k ∧ i < n then 1 else 0
end Gus
end
section
/- What all cards of this seat share: a world that holds the listed tables; the last step of a row whose call only makes memory. -/
namespace Gus
open Go Go.RowKit Go.Proofs Go.ChangeShapes Go.WideShapes Go.ChangeAt
theorem ownK : ownKnob Tryz.prog.godebug = none := by kernel_rfl
def tabP : Obj → Obj
  | .cells _ t frozen => .cells #[.int .u64 1, .int .u64 10, .int .u64 100, .int .u64 1000, .int .u64 10000, .int .u64 100000, .int .u64 1000000, .int .u64 10000000, .int .u64 100000000, .int .u64 1000000000, .int .u64 10000000000, .int .u64 100000000000, .int .u64 1000000000000, .int .u64 10000000000000, .int .u64 100000000000000, .int .u64 1000000000000000, .int .u64 10000000000000000, .int .u64 100000000000000000, .int .u64 1000000000000000000, .int .u64 10000000000000000000] t frozen
  | o => o
def tabA : Obj → Obj
  | .cells _ t frozen => .cells #[.int .u8 0, .int .u8 1, .int .u8 28, .int .u8 2, .int .u8 29, .int .u8 14, .int .u8 24, .int .u8 3, .int .u8 30, .int .u8 22, .int .u8 20, .int .u8 15, .int .u8 25, .int .u8 17, .int .u8 4, .int .u8 8, .int .u8 31, .int .u8 27, .int .u8 13, .int .u8 23, .int .u8 21, .int .u8 19, .int .u8 16, .int .u8 7, .int .u8 26, .int .u8 12, .int .u8 18, .int .u8 6, .int .u8 11, .int .u8 5, .int .u8 10, .int .u8 9] t frozen
  | o => o
def tabB : Obj → Obj
  | .cells _ t frozen => .cells #[.int .u8 0, .int .u8 1, .int .u8 56, .int .u8 2, .int .u8 57, .int .u8 49, .int .u8 28, .int .u8 3, .int .u8 61, .int .u8 58, .int .u8 42, .int .u8 50, .int .u8 38, .int .u8 29, .int .u8 17, .int .u8 4, .int .u8 62, .int .u8 47, .int .u8 59, .int .u8 36, .int .u8 45, .int .u8 43, .int .u8 51, .int .u8 22, .int .u8 53, .int .u8 39, .int .u8 33, .int .u8 30, .int .u8 24, .int .u8 18, .int .u8 12, .int .u8 5, .int .u8 63, .int .u8 55, .int .u8 48, .int .u8 27, .int .u8 60, .int .u8 41, .int .u8 37, .int .u8 16, .int .u8 46, .int .u8 35, .int .u8 44, .int .u8 21, .int .u8 52, .int .u8 32, .int .u8 23, .int .u8 11, .int .u8 54, .int .u8 26, .int .u8 40, .int .u8 15, .int .u8 34, .int .u8 20, .int .u8 31, .int .u8 10, .int .u8 25, .int .u8 14, .int .u8 19, .int .u8 9, .int .u8 13, .int .u8 8, .int .u8 7, .int .u8 6] t frozen
  | o => o
noncomputable def laidW (os : Os) : World :=
  { World.holding Tryz.prog os ⟨#[], #[], []⟩ with heap := (((World.holding Tryz.prog os ⟨#[], #[], []⟩).heap.modify 0 tabP).modify 3 tabA).modify 4 tabB }
section
variable {H : Type} {enc : TypeId × Value → H} {P : Program}
/-- a call behind which nothing that was there has turned: its row's last condition -/
theorem row_end {f : Func} {s : ChangeSpec} {apart fresh handsOn again : Bool} {W W' : World} {args : Array Value} {v : Value} {ds gs : List (DataW H)} {before pa pv : List MemPlace}
    (hb : Below W.heap.size W W') (hW : DataW.Whole enc P f.params.toList s.vars apart W args.toList ds gs before) (hps : before = pa ++ pv)
    (hargs : ∀ sp : Nat → Bool, (∀ p ∈ before, sp p.block = true) → DataW.TrodAll enc P W' 0 sp true f.params.toList args.toList (s.fn H (ds ++ gs)).args pa)
    (hvars : ∀ sp : Nat → Bool, (∀ p ∈ before, sp p.block = true) → DataW.TrodVars enc P W' sp s.vars (s.fn H (ds ++ gs)).vars pv)
    (hres : ∀ (b : Nat) (sp : Nat → Bool) (hd : Bool), DataW.TrodAll enc P W' b sp hd f.resultTypes.toList (v.resultList f.resultTypes.size) (s.fn H (ds ++ gs)).results [])
    (hok : ∀ (j : Nat) (t : TypeId) (r : Value), f.resultTypes[j]? = some t → (v.resultList f.resultTypes.size)[j]? = some r → Value.okWide P W' .any 0 t r) :
    s.post enc P f apart fresh handsOn again W args v W' := by
  have hin : ∀ p ∈ before, decide (p.block < W.heap.size) = true := fun p hp => decide_eq_true (hW.lt p hp)
  have hkept : W.keptBut W' (fun p => p ∈ before ∧ p ∈ pa ++ pv) := World.keptBut_mono (fun p hp => ⟨hp, hps ▸ hp⟩) (hb.frame (· ∈ before))
  refine ⟨ds, gs, before, [], pa, pv, hW, hres _ _ _, hargs _ hin, hvars _ hin, World.keptBut_mono (fun p hp => ⟨hp.1, ?_⟩) hkept, fun _ => ?_⟩
  · exact .inr (List.mem_append.1 hp.2)
  · have hlt := hW.lt
    obtain ⟨_, _, _, _, _, hz, hn⟩ := hW
    refine ⟨hok, _, _, ([] ++ pa) ++ pv, ⟨[] ++ pa, pv, trodAll_append (hargs _ (fun _ _ => rfl)) (hres _ _ _), hvars _ (fun _ _ => rfl), rfl, ?_, ?_⟩, ?_⟩
    · intro b off hp
      have hq : MemPlace.cell b off ∈ before := by rw [hps]; simpa using hp
      exact (hb.frozen (hlt _ hq)).trans (hz b off hq)
    · intro ha
      have h2 := hn ha
      rw [hps] at h2
      simpa using h2
    · intro p hp _
      rw [hps]
      simpa using hp
end
end Gus
end
section
/- The laws' matrices: (gussetlaw13.M).Of; a dense matrix as it is read. -/
namespace Gus
open Go Go.RowKit Go.Proofs
theorem VecAt.own {w : World} {base : Nat} {v : Value} {qs : List Rat} (h : w.ownsRow base 56 5 v qs.length (fcl qs)) : VecAt w v qs := by
  rcases h.2 with ⟨rfl, hn⟩ | ⟨g, cap, cur, rfl, hb, hg, hrest⟩
  · rw [List.length_eq_zero_iff] at hn
    subst hn
    exact VecAt.nil w none 0
  · refine ⟨some ⟨g, 0, none⟩, cap, rfl, fun i hi => ⟨g, 0, rfl, (Array.getElem?_eq_some_iff.1 hg).1, fun j hj => ?_, _, _, hg⟩⟩
    have hk := fcl_at qs i j hi hj
    have hj5 : j < (fcs (qs.getD i 0)).length := hj
    rw [List.getElem?_eq_getElem hj5] at hk ⊢
    have := h.cells (g := g) rfl (i * 5 + j) _ hk
    rw [Nat.zero_add, ← this]
    unfold Addr.add
    split <;> simp_all
/-- a dense matrix: its sides, its elements row by row -/
def MatAt (w : World) (v : Value) (r c : Nat) (qs : List Rat) : Prop := ∃ x, v = .agg #[.int .i64 r, .int .i64 c, x] ∧ qs.length = r * c ∧ VecAt w x qs
theorem MatAt.call {w w' : World} {v : Value} {r c : Nat} {qs : List Rat} (h : MatAt w v r c qs) (hb : Below w.heap.size w w') : MatAt w' v r c qs :=
  let ⟨x, h1, h2, h3⟩ := h; ⟨x, h1, h2, h3.call hb⟩
theorem MatAt.shape {w : World} {v : Value} {r c : Nat} {qs : List Rat} (h : MatAt w v r c qs) : ∃ a cap, v = .agg #[.int .i64 r, .int .i64 c, .slice a qs.length cap] := by
  obtain ⟨x, rfl, _, h3⟩ := h
  obtain ⟨a, cap, rfl⟩ := h3.shape
  exact ⟨a, cap, rfl⟩
/-- a matrix's slice is not longer than its room -/
def CapOk (v : Value) : Prop := ∃ p q a n k, v = .agg #[p, q, .slice a n k] ∧ n ≤ k
end Gus
end
