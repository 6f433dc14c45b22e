/- Proved here: parts of the proof: Erp Erq Ers Err. Conditions: those that each theorem states. -/
import Derived.Test.YtjbclomfocnplaaGreatDoorCgcR
import Derived.Test.YtjbclomfocnplaaGreatDoorRvlR
import Derived.Test.YtjbclomfocnplaaGreatDoorIvaR
import Derived.Test.YtjbclomfocnplaaGreatDoorCgoR
import Derived.Test.YtjbclomfocnplaaGreatDoorKeep
section
/- The systems of gussetlaw19.CgsErrors: the sizes of any matrix of small values. -/
namespace Gus
open Go Go.RowKit Go.Proofs
def rowI (A : Nat → Nat → Rat) (i m : Nat) : List Trp := (List.range m).map fun k => (i, k, A i k)
theorem rowI_at (A : Nat → Nat → Rat) (i a c : Nat) : ∀ m, sumAt (rowI A i m) a c = if i = a ∧ c < m then A a c else 0
  | 0 => by simp [rowI, sumAt]
  | m + 1 => by
    have e : rowI A i (m + 1) = rowI A i m ++ [(i, m, A i m)] := by simp [rowI, List.range_succ]
    rw [e, sumAt_append, rowI_at A i a c m]
    simp only [sumAt, Rat.add_zero]
    by_cases h1 : i = a
    · subst h1
      by_cases h2 : m = c
      · subst h2
        rw [if_neg (by omega), if_pos ⟨rfl, rfl⟩, if_pos ⟨rfl, by omega⟩, Rat.zero_add]
      · by_cases h3 : c < m
        · rw [if_pos ⟨rfl, h3⟩, if_neg (fun h => h2 h.2), if_pos ⟨rfl, by omega⟩, Rat.add_zero]
        · rw [if_neg (by omega), if_neg (fun h => h2 h.2), if_neg (by omega), Rat.add_zero]
    · rw [if_neg (fun h => h1 h.1), if_neg (fun h => h1 h.1), if_neg (fun h => h1 h.1), Rat.add_zero]
def allI (A : Nat → Nat → Rat) (m : Nat) : Nat → List Trp
  | 0 => []
  | n + 1 => allI A m n ++ rowI A n m
theorem allI_at (A : Nat → Nat → Rat) (m a c : Nat) (hc : c < m) : ∀ n, sumAt (allI A m n) a c = if a < n then A a c else 0
  | 0 => by simp [allI, sumAt]
  | n + 1 => by
    unfold allI
    rw [sumAt_append, allI_at A m a c hc n, rowI_at]
    by_cases h1 : a < n
    · rw [if_pos h1, if_neg (by omega), if_pos (by omega), Rat.add_zero]
    · by_cases h2 : n = a
      · subst h2; rw [if_neg h1, if_pos ⟨rfl, hc⟩, if_pos (by omega), Rat.zero_add]
      · rw [if_neg h1, if_neg (fun h => h2 h.1), if_neg (by omega), Rat.add_zero]
theorem allI_length (A : Nat → Nat → Rat) (m : Nat) : ∀ n, (allI A m n).length = n * m
  | 0 => by simp [allI]
  | n + 1 => by unfold allI; rw [List.length_append, allI_length A m n, rowI, List.length_map, List.length_range, Nat.succ_mul]
theorem allI_ss {A : Nat → Nat → Rat} {m : Nat} (h : ∀ i k, SS 10 10 (A i k)) : ∀ n, ∀ x ∈ allI A m n, SS 10 10 x.2.2
  | 0, x, hx => by cases hx
  | n + 1, x, hx => by
    unfold allI at hx
    rcases List.mem_append.1 hx with hx | hx
    · exact allI_ss h n x hx
    · obtain ⟨k, _, rfl⟩ := List.mem_map.1 hx
      exact h n k
/-- any matrix of at most six rows of small values -/
theorem all_cmE {n E : Nat} (hE : 11 * 36 + 1 = E) {A : Nat → Nat → Rat} (hn : n ≤ 6) (h : ∀ i k, SS 10 10 (A i k)) : CM n E E A := by
  have hc := sumAt_cm n (allI_ss h n) (m := 36) (by rw [allI_length]; exact Nat.mul_le_mul hn hn)
  rw [hE] at hc
  obtain ⟨D, z, h0, hD, h2⟩ := hc
  exact ⟨D, z, h0, hD, fun i j hi hj => ⟨(h2 i j hi hj).1, by have := (h2 i j hi hj).2; rwa [allI_at A n i j hj, if_pos hi] at this⟩⟩
theorem all_cm {n : Nat} {A : Nat → Nat → Rat} (hn : n ≤ 6) (h : ∀ i k, SS 10 10 (A i k)) : CM n 397 397 A := all_cmE rfl hn h
theorem szN_cap2 {n : Nat} (hn : n ≤ 6) : szN 397 n 530 n ≤ 150000000000 := by
  have : n = 0 ∨ n = 1 ∨ n = 2 ∨ n = 3 ∨ n = 4 ∨ n = 5 ∨ n = 6 := by omega
  rcases this with rfl | rfl | rfl | rfl | rfl | rfl | rfl <;> decide
theorem err_runS {n : Nat} {A : Nat → Nat → Rat} {qb qx : List (Int × Int)} (hn : n ≤ 6) (hA : CM n 397 397 A) (hb : qb.all nearQ = true) (hbo : QOk qb) (hx : qx.all nearQ = true) (hxo : QOk qx) : RunS n 150000000000 A (mEl qb) (startC n A (mEl qb) (mEl qx)) :=
  runS_of (a := 397) (s := 530) (c := 61) (by omega) hA ((mEl_cs hb hbo n).mono (by omega) (by omega)) (start_size (c := 61) hA ((mEl_cs hb hbo n).mono (by omega) (by omega)) ((mEl_cs hx hxo n).mono (by omega) (by omega)) (by omega)) (szN_cap2 hn) (by decide) (by decide)
theorem err_run0 {n : Nat} {A : Nat → Nat → Rat} {qb : List (Int × Int)} (hn : n ≤ 6) (hA : CM n 397 397 A) (hb : qb.all nearQ = true) (hbo : QOk qb) : RunS n 150000000000 A (mEl qb) (startC n A (mEl qb) fun _ => 0) :=
  runS_of (a := 397) (s := 530) (c := 61) (by omega) hA ((mEl_cs hb hbo n).mono (by omega) (by omega)) ((start_sizeb (c := 61) ((mEl_cs hb hbo n).mono (by omega) (by omega)) hA).mono (by decide)) (szN_cap2 hn) (by decide) (by decide)
theorem ss_zero : SS 10 10 0 := ⟨1, 0, by decide, by decide, by decide, by decide +kernel⟩
theorem colF_ss : ∀ {es : List EntI} (_ : ∀ e ∈ es, SS 10 10 e.2) (k : Nat), SS 10 10 (colF es k)
  | [], _, k => by unfold colF; exact ss_zero
  | e :: es, h, k => by
    unfold colF
    split
    · exact h e (.head _)
    · exact colF_ss (fun x hx => h x (.tail _ hx)) k
/-- the values of rows that gussetlaw19.CgsErrors admits -/
def NearR (es : List (List EQ)) : Prop := ∀ l ∈ es, l.length ≤ 6 ∧ l.all (fun e => nearQ e.2) = true
theorem rawA_ss {es : List (List EQ)} (hn : NearR es) (hok : ∀ l ∈ es, EOk l) (i k : Nat) : SS 10 10 (colF ((es.map fun l => l.map eI).getD i []) k) := by
  refine colF_ss (fun e he => ?_) k
  rw [List.getD_eq_getElem?_getD, List.getElem?_map] at he
  by_cases hi : i < es.length
  · rw [List.getElem?_eq_getElem hi] at he
    obtain ⟨x, hx, rfl⟩ := List.mem_map.1 (show e ∈ es[i].map eI from he)
    have hm := List.getElem_mem hi
    exact qOf_ss (List.all_eq_true.1 (hn _ hm).2 x hx) (hok _ hm x hx).2.2.1
  · rw [List.getElem?_eq_none (by omega)] at he
    cases he
theorem sameM_sym {r c : Nat} {f : Nat → Nat → Rat} (h : sameM r c f c r (fun k i => f i k) = true) : r = c ∧ Sym r f := by
  unfold sameM sameS at h
  simp only [Bool.and_eq_true, decide_eq_true_eq] at h
  obtain ⟨h1, _, h3⟩ := h
  obtain rfl : r = c := by omega
  exact ⟨rfl, fun i k hi hk => gRows_inj h3 hi hk⟩
end Gus
end
section
/- cgs: what its functions answer on any raw matrix, as gussetlaw19.CgsErrors asks. -/
namespace Gus
open Go Go.RowKit Go.Proofs
/-- Run and Solve -/
def RunC (w : World) (S bv : Value) (c : Int) : Prop :=
  (∀ W, In w.heap.size w W → Calls Tryz.prog 34 #[S, bv] W fun e w' => (∃ a l k, e = .returned (.tuple #[.slice a l k, .int .i64 c]) ∧ (c = 0 ↔ 0 < l)) ∧ Below W.heap.size W w') ∧
  (∀ W, In w.heap.size w W → Calls Tryz.prog 39 #[S, bv] W fun e w' => (∃ a l k, e = .returned (.tuple #[.slice a l k, .int .i64 c]) ∧ (c ≠ 0 → l = 0)) ∧ Below W.heap.size W w')
/-- From, Energy, Left -/
def FromC (w : World) (S bv xv : Value) (c d : Int) : Prop :=
  (∀ W, In w.heap.size w W → Calls Tryz.prog 16 #[S, bv, xv] W fun e w' => (∃ a l k, e = .returned (.tuple #[.slice a l k, .int .i64 c]) ∧ (c = 0 ↔ 0 < l)) ∧ Below W.heap.size W w') ∧
  (∃ q, (d ≠ 0 → q = 0) ∧ ∀ W, In w.heap.size w W → Calls Tryz.prog 22 #[S, bv, xv] W fun e w' => e = .returned (.tuple #[fracV q, .int .i64 d]) ∧ Below W.heap.size W w') ∧
  (∀ W, In w.heap.size w W → Calls Tryz.prog 17 #[S, bv, xv] W fun e w' => (∃ a l k, e = .returned (.tuple #[.slice a l k, .int .i64 d]) ∧ (d ≠ 0 → l = 0)) ∧ Below W.heap.size W w')
theorem runC_bad {w : World} {n m : Int} {ra : Option Addr} {rl rc : Nat} {ba : Option Addr} {bn bc : Nat} {chk : Int} {sy : Bool} (hk : RawK w (.agg #[.int .i64 n, .int .i64 m, .slice ra rl rc]) chk sy) {E : Int} (hE : beginE chk sy [bn] n = E) (h0 : E ≠ 0) : RunC w (.agg #[.int .i64 n, .int .i64 m, .slice ra rl rc]) (.slice ba bn bc) E := by
  have h1 := fun W (hW : In w.heap.size w W) => run_bad W n m ra rl rc ba bn bc chk sy (hk.in hW) hE h0
  refine ⟨fun W hW => (h1 W hW).mono ?_, fun W hW => (solve_bad W n m ra rl rc _ h0 fun V hV => h1 V (hW.call hV.bel)).mono ?_⟩
  · rintro e w' ⟨rfl, hb⟩; exact ⟨⟨none, 0, 0, rfl, by omega⟩, hb⟩
  · rintro e w' ⟨rfl, hb⟩; exact ⟨⟨none, 0, 0, rfl, fun _ => rfl⟩, hb⟩
theorem fromC_bad {w : World} {n m : Int} {ra : Option Addr} {rl rc : Nat} {ba xa : Option Addr} {bn bc xn xc : Nat} {chk : Int} {sy : Bool} (hk : RawK w (.agg #[.int .i64 n, .int .i64 m, .slice ra rl rc]) chk sy) {E : Int} (hE : beginE chk sy [bn, xn] n = E) (h0 : E ≠ 0) : FromC w (.agg #[.int .i64 n, .int .i64 m, .slice ra rl rc]) (.slice ba bn bc) (.slice xa xn xc) E E := by
  refine ⟨fun W hW => (from_bad W n m ra rl rc ba xa bn bc xn xc chk sy (hk.in hW) hE h0).mono ?_, ⟨0, fun _ => rfl, fun W hW => energy_bad W n m ra rl rc ba xa bn bc xn xc chk sy (hk.in hW) hE h0⟩, fun W hW => (left_bad W n m ra rl rc ba xa bn bc xn xc chk sy (hk.in hW) hE h0).mono ?_⟩
  · rintro e w' ⟨rfl, hb⟩; exact ⟨⟨none, 0, 0, rfl, by omega⟩, hb⟩
  · rintro e w' ⟨rfl, hb⟩; exact ⟨⟨none, 0, 0, rfl, fun _ => rfl⟩, hb⟩
theorem runP_shape {n : Nat} {A : Nat → Nat → Rat} {b : Vc} {s0 : Cg} {c : Int} (hc : (∃ j, Fin n A s0 j) ∧ c = 0 ∨ (¬ ∃ j, Fin n A s0 j) ∧ c = 11) {v : Value} {w : World} (h : RunP n A b s0 v w) : ∃ a l k, v = .tuple #[.slice a l k, .int .i64 c] ∧ (c = 0 ↔ 0 < l) := by
  rcases h with ⟨j, d, h1, rfl, h3⟩ | ⟨h1, rfl⟩
  · rcases hc with ⟨_, rfl⟩ | ⟨h2, _⟩
    · obtain ⟨a, cap, rfl, _⟩ := h3
      exact ⟨_, _, _, rfl, by omega⟩
    · exact absurd ⟨j, h1⟩ h2
  · rcases hc with ⟨h2, _⟩ | ⟨_, rfl⟩
    · exact absurd h2 h1
    · exact ⟨_, _, _, rfl, by omega⟩
theorem solP_shape {n : Nat} {A : Nat → Nat → Rat} {s0 : Cg} {c : Int} (hc : (∃ j, Fin n A s0 j) ∧ c = 0 ∨ (¬ ∃ j, Fin n A s0 j) ∧ c = 11) {v : Value} {w : World} (h : SolP n A s0 v w) : ∃ a l k, v = .tuple #[.slice a l k, .int .i64 c] ∧ (c ≠ 0 → l = 0) := by
  rcases h with ⟨j, d, h1, rfl, h3⟩ | ⟨h1, rfl⟩
  · rcases hc with ⟨_, rfl⟩ | ⟨h2, _⟩
    · obtain ⟨a, cap, rfl⟩ := h3.shape
      exact ⟨_, _, _, rfl, fun h => absurd rfl h⟩
    · exact absurd ⟨j, h1⟩ h2
  · rcases hc with ⟨h2, _⟩ | ⟨_, rfl⟩
    · exact absurd h2 h1
    · exact ⟨_, _, _, rfl, fun _ => rfl⟩
theorem codes (P : Prop) : ∃ c : Int, (P ∧ c = 0 ∨ ¬ P ∧ c = 11) ∧ lgoesB c 0 = true := by
  rcases Classical.em P with h | h
  · exact ⟨0, .inl ⟨h, rfl⟩, by decide⟩
  · exact ⟨11, .inr ⟨h, rfl⟩, by decide⟩
theorem runC_ok {w : World} {S bv : Value} {n m : Nat} {A : Nat → Nat → Rat} {b : Vc} (hS : SpM w S n n A) (hsy : Sym n A) (hb : VecAt w bv (vl n b)) (hz : RunS n m A b (startC n A b fun _ => 0)) : ∃ c, lgoesB c 0 = true ∧ RunC w S bv c := by
  obtain ⟨c, hc, hg⟩ := codes (∃ j, Fin n A (startC n A b fun _ => 0) j)
  refine ⟨c, hg, fun W hW => (run_vl (m := m) W S bv (hS.call hW.bel) hsy (hb.call hW.bel) rfl (fun _ _ => rfl) rfl hz).mono ?_, fun W hW => (solve_vl (m := m) W S bv (hS.call hW.bel) hsy (hb.call hW.bel) rfl (fun _ _ => rfl) rfl hz).mono ?_⟩
  · rintro e w' ⟨⟨v, rfl, hv⟩, hb⟩
    obtain ⟨a, l, k, rfl, h⟩ := runP_shape hc hv
    exact ⟨⟨a, l, k, rfl, h⟩, hb⟩
  · rintro e w' ⟨⟨v, rfl, hv⟩, hb⟩
    obtain ⟨a, l, k, rfl, h⟩ := solP_shape hc hv
    exact ⟨⟨a, l, k, rfl, h⟩, hb⟩
theorem fromC_ok {w : World} {S bv xv : Value} {n m : Nat} {A : Nat → Nat → Rat} {b x : Vc} (hS : SpM w S n n A) (hsy : Sym n A) (hb : VecAt w bv (vl n b)) (hx : VecAt w xv (vl n x)) (hz : RunS n m A b (startC n A b x)) : ∃ c, lgoesB c 0 = true ∧ FromC w S bv xv c 0 := by
  obtain ⟨c, hc, hg⟩ := codes (∃ j, Fin n A (startC n A b x) j)
  have h1 := hz.one (k := 0) (Nat.zero_le _)
  refine ⟨c, hg, fun W hW => (from_vl (m := m) W S bv xv (hS.call hW.bel) hsy (hb.call hW.bel) (s0 := startC n A b x) (hx.call hW.bel) (fun _ _ => rfl) rfl hz).mono ?_, ⟨_, fun h => absurd rfl h, fun W hW => energy_vl (m := m) W S bv xv (hS.call hW.bel) hsy (hb.call hW.bel) (hx.call hW.bel) h1⟩, fun W hW => (left_vl (m := m) W S bv xv (hS.call hW.bel) hsy (hb.call hW.bel) (hx.call hW.bel) h1).mono ?_⟩
  · rintro e w' ⟨⟨v, rfl, hv⟩, hb⟩
    obtain ⟨a, l, k, rfl, h⟩ := runP_shape hc hv
    exact ⟨⟨a, l, k, rfl, h⟩, hb⟩
  · rintro e w' ⟨⟨d, rfl, hd⟩, hb⟩
    obtain ⟨a, k, rfl⟩ := hd.shape
    exact ⟨⟨a, _, k, rfl, fun h => absurd rfl h⟩, hb⟩
/-- what the law expects -/
def wantE (chk : Int) (sy : Bool) : Int := if chk ≠ 0 then chk else if sy = false then 1 else 0
def oneE (want : Int) (lb : Nat) (n : Int) : Int := if want = 0 ∧ (lb : Int) ≠ n then 1 else want
def twoE (want : Int) (lb lx : Nat) (n : Int) : Int := if want = 0 ∧ ((lb : Int) ≠ n ∨ (lx : Int) ≠ n) then 1 else want
theorem beginE_one {chk : Int} {sy : Bool} {lb : Nat} {n : Int} (h : lb ≤ 2048) : beginE chk sy [lb] n = oneE (wantE chk sy) lb n := by
  unfold beginE oneE wantE
  have h1 : ¬ 2048 < lb := by omega
  by_cases hc : chk ≠ 0
  · rw [if_pos hc, if_pos hc, if_neg (fun h => hc h.1)]
  · rw [if_neg hc, if_neg hc]
    cases sy
    · simp
    · by_cases h2 : (lb : Int) = n <;> simp [h1, h2]
theorem beginE_two {chk : Int} {sy : Bool} {lb lx : Nat} {n : Int} (h : lb ≤ 2048) (h' : lx ≤ 2048) : beginE chk sy [lb, lx] n = twoE (wantE chk sy) lb lx n := by
  unfold beginE twoE wantE
  have h1 : ¬ 2048 < lb := by omega
  have h1' : ¬ 2048 < lx := by omega
  by_cases hc : chk ≠ 0
  · rw [if_pos hc, if_pos hc, if_neg (fun h => hc h.1)]
  · rw [if_neg hc, if_neg hc]
    cases sy
    · simp
    · by_cases h2 : (lb : Int) = n <;> by_cases h3 : (lx : Int) = n <;> simp [h1, h1', h2, h3]
theorem lgoesB_self (c : Int) : lgoesB c c = true := by simp [lgoesB]
/-- all functions on a raw matrix -/
theorem err_all {w : World} {S : Value} {n m : Int} {es : List (List EQ)} {qb qx : List (Int × Int)} (hG : SpG w S n m (es.map fun l => l.map eI)) (hes : es.length ≤ 6) (hn : NearR es) (hok : ∀ l ∈ es, EOk l) (hbn : qb.all nearQ = true) (hbo : QOk qb) (hxn : qx.all nearQ = true) (hxo : QOk qx) (hbl : qb.length ≤ 8) (hxl : qx.length ≤ 8) :
    ∃ chk sy, RawK w S chk sy ∧ ∀ W, In w.heap.size w W → ∀ bv xv, VecAt W bv (vl qb.length (mEl qb)) → VecAt W xv (vl qx.length (mEl qx)) → ∃ c1 c2, lgoesB c1 (oneE (wantE chk sy) qb.length n) = true ∧ lgoesB c2 (twoE (wantE chk sy) qb.length qx.length n) = true ∧ RunC W S bv c1 ∧ FromC W S bv xv c2 (twoE (wantE chk sy) qb.length qx.length n) := by
  have hr : (es.map fun l => l.map eI).length ≤ 4096 := by rw [List.length_map]; omega
  have hrl : ∀ j, ((es.map fun l => l.map eI).getD j []).length ≤ 4096 := fun j => by
    rw [getD_map_eI, List.length_map]
    by_cases hj : j < es.length
    · rw [List.getD_eq_getElem?_getD, List.getElem?_eq_getElem hj]
      have := (hn _ (List.getElem_mem hj)).1
      show es[j].length ≤ 4096
      omega
    · rw [List.getD_eq_getElem?_getD, List.getElem?_eq_none (by omega)]; exact Nat.zero_le _
  obtain ⟨ra, rc, hSe, _⟩ := id hG
  have hbad1 : ∀ chk sy, RawK w S chk sy → ∀ W, In w.heap.size w W → ∀ bv, VecAt W bv (vl qb.length (mEl qb)) → oneE (wantE chk sy) qb.length n ≠ 0 → RunC W S bv (oneE (wantE chk sy) qb.length n) := fun chk sy hk W hW bv hb h => by
    obtain ⟨ba, bc, rfl⟩ := hb.shape
    rw [vl_length]
    subst hSe
    exact runC_bad (hk.in hW) (beginE_one (by omega)) h
  have hbad2 : ∀ chk sy, RawK w S chk sy → ∀ W, In w.heap.size w W → ∀ bv xv, VecAt W bv (vl qb.length (mEl qb)) → VecAt W xv (vl qx.length (mEl qx)) → twoE (wantE chk sy) qb.length qx.length n ≠ 0 → FromC W S bv xv (twoE (wantE chk sy) qb.length qx.length n) (twoE (wantE chk sy) qb.length qx.length n) := fun chk sy hk W hW bv xv hb hx h => by
    obtain ⟨ba, bc, rfl⟩ := hb.shape
    obtain ⟨xa, xc, rfl⟩ := hx.shape
    rw [vl_length, vl_length]
    subst hSe
    exact fromC_bad (hk.in hW) (beginE_two (by omega) (by omega)) h
  by_cases hchk : checkS n m (es.map fun l => l.map eI) = 0
  · have hlen : (es.length : Int) = n := by
      unfold checkS at hchk
      split at hchk
      · rename_i h0; exact absurd hchk h0
      split at hchk
      · omega
      · rename_i h3; rw [List.length_map] at h3; omega
    have hcon : ∀ W, In w.heap.size w W → Calls Tryz.prog 37 #[S] W fun e w' => e = .returned (.int .i64 0) ∧ Below W.heap.size W w' := fun W hW => by
      have := scheck_any W S n m _ (hG.call hW.bel) hr hrl
      rwa [hchk] at this
    obtain ⟨N, M, rfl, rfl, hN, hM, hrows⟩ := checkS_ok hchk
    obtain ⟨A, hA⟩ : ∃ A : Nat → Nat → Rat, A = fun i k => colF ((es.map fun l => l.map eI).getD i []) k := ⟨_, rfl⟩
    have hss : ∀ i k, SS 10 10 (A i k) := fun i k => by rw [hA]; exact rawA_ss hn hok i k
    rw [hrows] at hG
    have hS : SpM w S N M A := by rw [hA]; exact hG.to
    clear hrows hA
    have hN6 : N ≤ 6 := by omega
    have hNM : N * M ≤ 6 * 2048 := Nat.mul_le_mul hN6 hM
    have hk : RawK w S 0 (sameM N M A M N fun k i => A i k) := ⟨hcon, fun W hW => symm_any (j := 10) W S N M A (hS.call hW.bel) hN hM (fun i k => (hss i k).szk (Nat.le_refl _) (Nat.le_refl _)) (by omega)⟩
    obtain ⟨sy, hsy⟩ : ∃ sy, sy = sameM N M A M N fun k i => A i k := ⟨_, rfl⟩
    rw [← hsy] at hk
    refine ⟨0, sy, hk, fun W hW bv xv hb hx => ?_⟩
    have hb1 := hbad1 0 sy hk W hW bv hb
    have hb2 := hbad2 0 sy hk W hW bv xv hb hx
    cases sy with
    | false =>
      have e1 : oneE (wantE 0 false) qb.length N = 1 := by simp [oneE, wantE]
      have e2 : twoE (wantE 0 false) qb.length qx.length N = 1 := by simp [twoE, wantE]
      exact ⟨_, _, lgoesB_self _, lgoesB_self _, hb1 (by rw [e1]; decide), hb2 (by rw [e2]; decide)⟩
    | true =>
      obtain ⟨rfl, hsym⟩ := sameM_sym hsy.symm
      have hCM := all_cm hN6 hss
      have ew : wantE 0 true = 0 := by simp [wantE]
      rw [ew] at hb1 hb2 ⊢
      by_cases h1 : qb.length = N
      · have e1 : oneE 0 qb.length N = 0 := by simp [oneE, h1]
        rw [h1] at hb
        obtain ⟨c1, hg1, hR⟩ := runC_ok (hS.call hW.bel) hsym hb (err_run0 hN6 hCM hbn hbo)
        by_cases h2 : qx.length = N
        · have e2 : twoE 0 qb.length qx.length N = 0 := by simp [twoE, h1, h2]
          rw [h2] at hx
          obtain ⟨c2, hg2, hF⟩ := fromC_ok (hS.call hW.bel) hsym hb hx (err_runS hN6 hCM hbn hbo hxn hxo)
          exact ⟨c1, c2, by rw [e1]; exact hg1, by rw [e2]; exact hg2, hR, by rw [e2]; exact hF⟩
        · have e2 : twoE 0 qb.length qx.length N = 1 := by
            have : ¬ (qx.length : Int) = N := by omega
            simp [twoE, this]
          exact ⟨c1, _, by rw [e1]; exact hg1, lgoesB_self _, hR, hb2 (by rw [e2]; decide)⟩
      · have h1' : ¬ (qb.length : Int) = N := by omega
        have e1 : oneE 0 qb.length N = 1 := by simp [oneE, h1']
        have e2 : twoE 0 qb.length qx.length N = 1 := by simp [twoE, h1']
        exact ⟨_, _, lgoesB_self _, lgoesB_self _, hb1 (by rw [e1]; decide), hb2 (by rw [e2]; decide)⟩
  · have hB := hG.bad hr hrl rfl hchk
    obtain ⟨E, hE⟩ : ∃ E, E = checkS n m (es.map fun l => l.map eI) := ⟨_, rfl⟩
    rw [← hE] at hB hchk
    have hk : RawK w S E false := ⟨fun W hW => hB.2.1 W hW.bel, fun W hW => ssymm_bad (hB.call hW.bel)⟩
    refine ⟨E, false, hk, fun W hW bv xv hb hx => ?_⟩
    have hb1 := hbad1 E false hk W hW bv hb
    have hb2 := hbad2 E false hk W hW bv xv hb hx
    have ew : wantE E false = E := by simp [wantE, hchk]
    have e1 : oneE (wantE E false) qb.length n = E := by rw [ew]; simp [oneE, hchk]
    have e2 : twoE (wantE E false) qb.length qx.length n = E := by rw [ew]; simp [twoE, hchk]
    exact ⟨_, _, lgoesB_self _, lgoesB_self _, hb1 (by rw [e1]; exact hchk), hb2 (by rw [e2]; exact hchk)⟩
end Gus
end
section
/- gussetlaw19.CgsErrors: the small reads. -/
namespace Gus
open Go Go.RowKit Go.Proofs
theorem vcl_at : ∀ (l : List EQ) (i j : Nat), i < l.length → j < 2 → (vcl l)[i * 2 + j]? = ([.int .i64 (l.getD i (0, 0, 0)).2.1, .int .u32 (l.getD i (0, 0, 0)).2.2] : List Value)[j]?
  | [], i, j, h, _ => absurd h (Nat.not_lt_zero _)
  | e :: l, 0, j, _, hj => by
    unfold vcl
    rw [List.flatMap_cons, Nat.zero_mul, Nat.zero_add, List.getElem?_append_left (by exact hj)]; rfl
  | e :: l, i + 1, j, h, hj => by
    have ih := vcl_at l i j (by simpa using h) hj
    unfold vcl at *
    rw [List.flatMap_cons, List.getElem?_append_right (by show 2 ≤ _; omega)]
    rw [show (i + 1) * 2 + j - [Value.int .i64 e.2.1, Value.int .u32 e.2.2].length = i * 2 + j by show (i + 1) * 2 + j - 2 = _; omega, ih]
    rfl
theorem values_at {w : World} {base : Nat} {v : Value} {l : List EQ} (h : w.ownsRow base 82 2 v l.length (vcl l)) : ∃ a cap, v = .slice a l.length cap ∧ QAt w a (l.map fun e => e.2) := by
  rcases h.2 with ⟨hv, hn⟩ | ⟨g, c, cur, hv, _, hg, _⟩
  · refine ⟨none, 0, by rw [hv, hn], fun i hi => ?_⟩
    rw [List.length_map, hn] at hi
    exact absurd hi (Nat.not_lt_zero _)
  · refine ⟨some ⟨g, 0, none⟩, c, hv, fun i hi => ?_⟩
    rw [List.length_map] at hi
    have hcell := fun j u hj => h.cells (g := g) (by rw [hv]; rfl) j u hj
    have hlt := (Array.getElem?_eq_some_iff.1 hg).1
    have e : (l.map fun e => e.2).getD i (0, 0) = (l.getD i (0, 0, 0)).2 := by
      simp only [List.getD_eq_getElem?_getD, List.getElem?_map, List.getElem?_eq_getElem hi]; rfl
    have h0 := hcell (i * 2 + 0) _ (vcl_at l i 0 hi (by decide))
    have h1 := hcell (i * 2 + 1) _ (vcl_at l i 1 hi (by decide))
    rw [Addr.add_lit] at h0 h1
    rw [e, Nat.mul_comm 2 i]
    exact ⟨g, 0, rfl, hlt, h0, h1⟩
theorem qs_one {w : World} {V : Nat} {ba : Option Addr} {bc : Nat} {qb : List (Int × Int)} (h : Bx w V 25 [.slice ba qb.length bc]) (hb : QAt w ba qb) : QsAt w (some ⟨V, 0, none⟩) [qb] := fun i hi => by
  obtain rfl : i = 0 := by simp at hi; omega
  exact ⟨V, 0, ba, bc, rfl, h.lt, h.c0, hb⟩
theorem TAt.nil (w : World) : TAt w none [] := fun _ hi => absurd hi (Nat.not_lt_zero _)
theorem small_both {qb qs : List (Int × Int)} (h : smallT [] [qb, qs] = true) : qb.all nearQ = true ∧ qs.all nearQ = true ∧ qb.length ≤ 12 ∧ qs.length ≤ 12 := by
  have := small_split h
  exact ⟨this.2.2.1, this.2.2.2.1, this.2.2.2.2⟩
theorem small_one {q : List (Int × Int)} (h : smallT [] [q] = true) : q.all nearQ = true := by
  simp only [smallT, smallV, List.all_cons, List.all_nil, Bool.and_true, Bool.and_eq_true, decide_eq_true_eq] at h
  exact h.2.2.2
theorem EAt.call {w w' : World} {v : Value} {l : List EQ} (h : EAt w v l) (hb : Below w.heap.size w w') : EAt w' v l := by
  obtain ⟨a, cap, h1, h2⟩ := h
  refine ⟨a, cap, h1, fun k hk => ?_⟩
  obtain ⟨b, off, g1, g2, c0, c1, c2⟩ := h2 k hk
  have e : ∀ o, w'.cell? ⟨b, o, none⟩ = w.cell? ⟨b, o, none⟩ := fun o => hb.cell (p := ⟨b, o, none⟩) g2
  exact ⟨b, off, g1, Nat.lt_of_lt_of_le g2 hb.size, by rw [e]; exact c0, by rw [e]; exact c1, by rw [e]; exact c2⟩
end Gus
end
section
/- gussetlaw19.CgsErrors. -/
namespace Gus
open Go Go.RowKit Go.Proofs
set_option maxRecDepth 100000 in
set_option maxHeartbeats 100000000 in
def errors_any_q1 : {P : Prop // P → ∀ (w : World) (n m : Int) (a : Option Addr) (cap : Nat) (es : List (List EQ)) (_ : RawAt w a es) (_ : ∀ l ∈ es, EOk l) (_ : es.length ≤ maxLen) (_ : ∀ l ∈ es, l.length ≤ maxLen) (ba sa : Option Addr) (bc sc : Nat) (qb qs : List (Int × Int)) (_ : QAt w ba qb) (_ : QAt w sa qs) (_ : QOk qb) (_ : QOk qs) (_ : qb.length ≤ maxLen) (_ : qs.length ≤ maxLen), Calls Tryz.prog 6 #[.agg #[.int .i64 n, .int .i64 m, .slice a es.length cap], .slice ba qb.length bc, .slice sa qs.length sc] w fun e w' => e = .returned (.bool true) ∧ Below w.heap.size w w'} := ⟨_, fun Kcut => by
  replace Kcut : Keep _ := ⟨Kcut⟩
  intro w n m a cap es hR hok hl hll ba sa bc sc qb qs hqb hqs hob hos hLb hLs
  obtain ⟨i0, hi0, hi1, hi2, hi3⟩ := info_parts info_ent
  obtain ⟨j0, hj0, hj1, hj2, hj3⟩ := info_parts info_rows
  have cz := cgworks_any
  have hin := In.self w
  obtain ⟨L, hL⟩ : ∃ L, L = es.length := ⟨_, rfl⟩
  have HR := Lib.hid hR
  have HOK := Lib.hid hok
  have HLL := Lib.hid hll
  rw [← hL] at hl ⊢
  have HL := Lib.hid hL
  have HQB := Lib.hid hqb
  have HQS := Lib.hid hqs
  have HLB := Lib.hid hLb
  have HLS := Lib.hid hLs
  simp only [maxLen] at hl
  clear hR hok hll hL hqb hqs
  obtain ⟨sm, hsm⟩ : ∃ sm, sm = smallT [] [qb, qs] := ⟨_, rfl⟩
  go_enter Tryz.func6, Tryz.ntmps6
  go_upto_region 1 with fail
  skip
  ((obtain ⟨X, hX⟩ : ∃ z, z = w.heap.size := ⟨_, rfl⟩); (have bX := Bx.new_at w #[.int .i64 n, .int .i64 m, .slice a L cap] 76 hX); (have hXL : w.heap.size ≤ X := by omega); (replace hin := hin.alloc (.cells #[.int .i64 n, .int .i64 m, .slice a L cap] 76)); (rw [← hX]); (clear hX); (generalize w.alloc (.cells #[.int .i64 n, .int .i64 m, .slice a L cap] 76) = W1 at *))
  have HXL := Lib.hid hXL
  clear hXL
  skip
  by_cases hL6 : L ≤ 6
  · have k1 : ¬ (6 : Int) < L := by omega
    ((have x0 := bX.c0); (have x1 := bX.c1); (have x2 := bX.c2); (have xl := bX.lt))
    go_wp2_with fail
    ((obtain ⟨V, hV⟩ : ∃ z, z = W1.heap.size := ⟨_, rfl⟩); (have bV := Bx.new_at W1 #[.slice ba qb.length bc, .slice sa qs.length sc] 25 hV); (clear x0 x1 x2 xl); (replace hin := hin.alloc (.cells #[.slice ba qb.length bc, .slice sa qs.length sc] 25)); (replace bX := bX.alloc (.cells #[.slice ba qb.length bc, .slice sa qs.length sc] 25)); (rw [← hV]); (clear hV); (generalize W1.alloc (.cells #[.slice ba qb.length bc, .slice sa qs.length sc] 25) = W2 at *))
    have c0 := small_any W2 0 none 0 [] (some ⟨V, 0, none⟩) 2 [qb, qs] (TAt.nil _) (qs_two bV (HQB.out.call hin.bel) (HQS.out.call hin.bel)) (by simp) (by simp) (fun q hq => by simp only [List.mem_cons, List.not_mem_nil, or_false] at hq; rcases hq with rfl | rfl; exact hLb; exact hLs)
    rw [← hsm, show [qb, qs].length = 2 from rfl, show ([] : List TQ).length = 0 from rfl] at c0
    have HSM := Lib.hid hsm
    clear hsm
    ((((with_reducible refine (c0).mono ?_))); (rintro e wc3 ⟨rfl, hb⟩); (clear c0 bV); (replace hin := hin.call hb); (replace bX := bX.call hb); (clear hb))
    skip
    rcases sm with _ | _
    · ((go_wp2_with fail); (((with_reducible refine (cz _).mono ?_))); (rintro e wc4 ⟨rfl, hb⟩); (skip); (replace hin := hin.call hb); (replace bX := bX.call hb); (clear hb))
      go_wp2_with fail
      go_ret
      exact ⟨rfl, hin.bel⟩
    · skip
      by_cases hb8 : qb.length ≤ 8
      · have k2 : ¬ (8 : Int) < (qb.length : Int) := by omega
        by_cases hs8 : qs.length ≤ 8
        · have k3 : ¬ (8 : Int) < (qs.length : Int) := by omega
          ((have x0 := bX.c0); (have x1 := bX.c1); (have x2 := bX.c2); (have xl := bX.lt))
          go_upto_region 4 with fail
          ((obtain ⟨Sb, hSb⟩ : ∃ z, z = wc3.heap.size := ⟨_, rfl⟩); (have bSb := Bx.new_at wc3 #[.int .i64 n, .int .i64 m, .slice none 0 0] 30 hSb); (have hXS : X < Sb := by rw [hSb]; exact bX.lt); (clear x0 x1 x2 xl); (replace hin := hin.alloc (.cells #[.int .i64 n, .int .i64 m, .slice none 0 0] 30)); (replace bX := bX.alloc (.cells #[.int .i64 n, .int .i64 m, .slice none 0 0] 30)); (rw [← hSb]); (clear hSb); (generalize wc3.alloc (.cells #[.int .i64 n, .int .i64 m, .slice none 0 0] 30) = W4 at *))
          skip
          ((have x0 := bX.c0); (have x1 := bX.c1); (have x2 := bX.c2); (have xl := bX.lt))
          go_wp2_with fail
          clear x0 x1 x2 xl
          have HSB := Lib.hid hXS
          go_loopw [8] (fun v8 wr => ∃ (i : Nat) (v : Value), i ≤ L ∧ v8 = .int .i64 i ∧ In w.heap.size w wr ∧ Bx wr X 76 [.int .i64 n, .int .i64 m, .slice a L cap] ∧ Bx wr Sb 30 [.int .i64 n, .int .i64 m, v] ∧ OutF wr (Sb + 1) v i es ∧ Hid (∀ j, j < i → (es.getD j []).length ≤ 6 ∧ (es.getD j []).all (fun e => nearQ e.2) = true)) (fun v8 _ => L - (RowKit.intOf v8).toNat)
          case atStart => exact ⟨0, _, Nat.zero_le _, rfl, hin, bX, bSb, OutF.start _ _ _, Lib.hid fun j h => absurd h (Nat.not_lt_zero _)⟩
          case round =>
            rename World => wo
            clear hin bX bSb
            obtain ⟨i, v, hi, rfl, hin, bX, bSb, hout, HES⟩ := hrel
            by_cases hiL : i < L
            · have hiI : (i : Int) < L := by omega
              have hi0' : (0 : Int) ≤ i := by omega
              obtain ⟨b, off, x, rfl, hb, hx, hE⟩ := HR.out i (by rw [← HL.out]; exact hiL)
              have hmem : es.getD i [] ∈ es := by
                rw [List.getD_eq_getElem?_getD, List.getElem?_eq_getElem (by rw [← HL.out]; exact hiL)]
                exact List.getElem_mem _
              have hrl := HLL.out _ hmem
              have hrok := HOK.out _ hmem
              obtain ⟨row, hrow⟩ : ∃ row, row = es.getD i [] := ⟨_, rfl⟩
              rw [← hrow] at hE hrl hrok
              have hEo := hE.call hin.bel
              obtain ⟨ra, rcap, rfl, hcells⟩ := hE
              obtain ⟨rl, hrle⟩ : ∃ rl, rl = row.length := ⟨_, rfl⟩
              rw [← hrle] at hrl hcells hx hEo
              simp only [maxLen] at hrl
              have HRL := Lib.hid hrle
              have HROW := Lib.hid hrow
              have HROK := Lib.hid hrok
              have HC := Lib.hid hcells
              rw [← hin.cell b _ hb] at hx
              have hbw : b < wo.heap.size := by have := hin.siz; omega
              have HBO := Lib.hid hbw
              have HBW := Lib.hid hb
              have HX := Lib.hid hx
              clear hmem hrow hrok hcells hrle hb
              by_cases h6 : rl ≤ 6
              · have k4 : ¬ (6 : Int) < rl := by omega
                have cv := values_any wo _ row hEo (by rw [← HRL.out]; omega)
                have hwo := In.self wo
                skip
                ((have x0 := bX.c0); (have x1 := bX.c1); (have x2 := bX.c2); (have xl := bX.lt))
                ((go_wp2_with fail); (((with_reducible refine (cv).mono ?_))); (rintro e wS ⟨⟨d, rfl, hd⟩, hb⟩); (clear x0 x1 x2 xl cv hx hEo hbw); (replace hin := hin.call hb); (replace hwo := hwo.call hb); (replace hout := hout.call hb); (replace bX := bX.call hb); (replace bSb := bSb.call hb); (clear hb))
                obtain ⟨va, vc, hve, hvq⟩ := values_at hd
                rw [← HRL.out] at hve
                subst hve
                clear hd
                skip
                go_wp2_with fail
                ((obtain ⟨V2, hV2⟩ : ∃ z, z = wS.heap.size := ⟨_, rfl⟩); (have bV2 := Bx.new_at wS #[.slice va rl vc] 25 hV2); (replace hin := hin.alloc (.cells #[.slice va rl vc] 25)); (replace hwo := hwo.alloc (.cells #[.slice va rl vc] 25)); (replace bX := bX.alloc (.cells #[.slice va rl vc] 25)); (replace bSb := bSb.alloc (.cells #[.slice va rl vc] 25)); (replace hout := hout.call ((Below.refl _ _).alloc (Nat.le_refl _) (.cells #[.slice va rl vc] 25))); (replace hvq := hvq.call ((Below.refl _ _).alloc (Nat.le_refl _) (.cells #[.slice va rl vc] 25))); (rw [← hV2]); (clear hV2); (generalize wS.alloc (.cells #[.slice va rl vc] 25) = W2 at *))
                obtain ⟨s2, hs2⟩ : ∃ s, s = smallT [] [row.map fun e => e.2] := ⟨_, rfl⟩
                have c0 := small_any W2 0 none 0 [] (some ⟨V2, 0, none⟩) 1 [row.map fun e => e.2] (TAt.nil _) (qs_one (by rw [List.length_map, ← HRL.out]; exact bV2) hvq) (by simp) (by simp) (fun q hq => by simp only [List.mem_cons, List.not_mem_nil, or_false] at hq; subst hq; rw [List.length_map, ← HRL.out]; simp only [maxLen]; omega)
                rw [← hs2, show [row.map fun e => e.2].length = 1 from rfl, show ([] : List TQ).length = 0 from rfl] at c0
                have HS2 := Lib.hid hs2
                clear hs2
                ((((with_reducible refine (c0).mono ?_))); (rintro e wc3 ⟨rfl, hb⟩); (clear c0 bV2 hvq); (replace hin := hin.call hb); (replace hwo := hwo.call hb); (replace hout := hout.call hb); (replace bX := bX.call hb); (replace bSb := bSb.call hb); (clear hb))
                skip
                rcases s2 with _ | _
                · ((go_wp2_with fail); (((with_reducible refine (cz _).mono ?_))); (rintro e wc4 ⟨rfl, hb⟩); (skip); (replace hin := hin.call hb); (replace hwo := hwo.call hb); (replace hout := hout.call hb); (replace bX := bX.call hb); (replace bSb := bSb.call hb); (clear hb))
                  go_wp2_with fail
                  go_ret
                  exact ⟨rfl, hin.bel⟩
                · skip
                  have HOUT := Lib.hid hout
                  have HBX := Lib.hid bX
                  have HBS := Lib.hid bSb
                  have HIN := Lib.hid hin
                  have HWO := Lib.hid hwo
                  ((have x0 := bX.c0); (have x1 := bX.c1); (have x2 := bX.c2); (have xl := bX.lt))
                  clear hout bSb hin hwo
                  go_wp2_with fail
                  clear x0 x1 x2 xl bX
                  go_loopw [9, 10] (fun v9 v10 wq => ∃ (k : Nat) (vq : Value), k ≤ rl ∧ v9 = vq ∧ v10 = .int .i64 k ∧ In wc3.heap.size wc3 wq ∧ wq.ownsRow wc3.heap.size 87 6 vq k (((row.take k).map eI).flatMap ecsI)) (fun _ v10 _ => rl - (RowKit.intOf v10).toNat)
                  case atStart => exact ⟨0, _, Nat.zero_le _, rfl, rfl, In.self _, World.ownsRow_nil _ _ _ _⟩
                  case round =>
                    rename World => wq
                    obtain ⟨k, v9, hk, hv9, rfl, hinq, hown⟩ := hrel
                    obtain rfl := hv9.symm
                    have HOWN := Lib.hid hown
                    clear hown
                    have x2 := (HBX.out.call hinq.bel).c2
                    have xl := (HBX.out.call hinq.bel).lt
                    have hqw : In w.heap.size w wq := HIN.out.call hinq.bel
                    have hx := HX.out
                    rw [← HWO.out.cell b _ HBO.out, ← hinq.cell b _ (by have := HWO.out.siz; have := HBO.out; omega)] at hx
                    have hbq : b < wq.heap.size := by have := HWO.out.siz; have := hinq.siz; have := HBO.out; omega
                    by_cases hkr : k < rl
                    · have hkI : (k : Int) < rl := by omega
                      have hk0 : (0 : Int) ≤ k := by omega
                      obtain ⟨b2, off2, rfl, hb2, hc0, hc1, hc2⟩ := HC.out k hkr
                      rw [← hqw.cell b2 _ hb2] at hc0 hc1 hc2
                      have hb2q : b2 < wq.heap.size := by have := hqw.siz; omega
                      have hyok := HROK.out (row.getD k (0, 0, 0)) (by rw [List.getD_eq_getElem?_getD, List.getElem?_eq_getElem (by rw [← HRL.out]; exact hkr)]; exact List.getElem_mem _)
                      obtain ⟨y, hy⟩ : ∃ y, y = row.getD k (0, 0, 0) := ⟨_, rfl⟩
                      rw [← hy] at hc0 hc1 hc2 hyok
                      have HY := Lib.hid hy
                      clear hy
                      obtain ⟨col, nn, dd⟩ := y
                      simp only at hc0 hc1 hc2 hyok
                      have hcq := qOf_any nn dd hyok.1 hyok.2.1 hyok.2.2.1 hyok.2.2.2
                      obtain ⟨A1, A2, A3, A4, A5, hA, hA2⟩ : ∃ A1 A2 A3 A4 A5, fracV (qOf nn dd) = .agg #[.int .u64 A1, .string A2, .bool A3, .int .u64 A4, .string A5] ∧ fcs (qOf nn dd) = [.int .u64 A1, .string A2, .bool A3, .int .u64 A4, .string A5] := ⟨_, _, _, _, _, rfl, rfl⟩
                      rw [hA] at hcq
                      have HA2 := Lib.hid hA2
                      clear hA hA2 hyok
                      go_upto_region 13 with fail
                      have h := In.self wq
                      have hc := h.cell
                      have hf := h.frozen
                      refine wp_region_flow 22 (by kernel_rfl) (by kernel_rfl) (fun _ _ d _ _ h => by cases d <;> exact h) ?_; simp only [List.take_succ_cons, List.take_zero, List.drop_succ_cons, List.drop_zero]; simp only [putAll, Act.put, List.setIfInBounds_toArray, List.set]; (try simp only [Nat.reduceAdd]); (try simp only [Nat.zero_add]); (repeat (first | ((with_reducible refine flow_float (v := ?_) ?_ ?_ ?_); rotate_left 1; (focus (with_reducible rfl)); (focus (intro u w1 hw hd w2; (try simp only [depH] at hd); (try simp only [ext] at hd); (try simp only [extU] at hd); (try simp only [Nat.reduceAdd] at hd); (try simp only [Nat.reduceEqDiff] at hd); (try simp only [reduceIte] at hd); (try simp only [and_true] at hd); (try simp only [true_and] at hd); go_simp; exact rfl))) | ((first | ((with_reducible refine flow_pure0 (v := ?_) ?_ ?_ ?_ ?_); rotate_left 1; (focus (with_reducible rfl)); (focus rfl)) | ((with_reducible refine flow_pureg (v := ?_) (j := ?_) (b := ?_) ?_ ?_ ?_ ?_); rotate_left 3; (focus (with_reducible rfl)); (focus (intro u w1 hw hd; (try simp only [depH] at hd); (try simp only [ext] at hd); (try simp only [extU] at hd); (try simp only [Nat.reduceAdd] at hd); (try simp only [Nat.reduceEqDiff] at hd); (try simp only [reduceIte] at hd); (try simp only [and_true] at hd); (try simp only [true_and] at hd); simp [yielded, hd]; done)))); (focus (intro u w1 hw hd; (try simp only [depH] at hd); (try simp only [ext] at hd); (try simp only [extU] at hd); (try simp only [Nat.reduceAdd] at hd); (try simp only [Nat.reduceEqDiff] at hd); (try simp only [reduceIte] at hd); (try simp only [and_true] at hd); (try simp only [true_and] at hd); have hc' := hw.cell; first | (go_simp; exact rfl) | (go_simp; go_at_call 36; ((with_reducible refine (hcq _).mono ?_)); rintro e w'' ⟨rfl, hb⟩; refine ⟨?_, hb⟩; exact rfl)))) | ((with_reducible refine flow_skipg (j := ?_) (b := ?_) ?_ ?_ ?_); rotate_left 2; (focus (with_reducible rfl)); (focus (intro u w1 hw hd; (try simp only [depH] at hd); (try simp only [ext] at hd); (try simp only [extU] at hd); (try simp only [Nat.reduceAdd] at hd); (try simp only [Nat.reduceEqDiff] at hd); (try simp only [reduceIte] at hd); (try simp only [and_true] at hd); (try simp only [true_and] at hd); simp [yielded, hd]; done))) | ((with_reducible refine flow_alloc (t := ?_) (zs := ?_) ?_ ?_ ?_ ?_); rotate_left 2; (focus (with_reducible rfl)); (focus rfl); (focus (intro u w1; go_simp; exact rfl)))))
                      (with_reducible refine flow_slice (t := 87) (zs := #[.int .i64 col, .int .u64 A1, .string A2, .bool A3, .int .u64 A4, .string A5]) (n := 1) ?_ ?_ ?_ ?_); (focus (with_reducible rfl)); (focus rfl); (focus (intro u w1 hw hd; (try simp only [depH] at hd); (try simp only [ext] at hd); (try simp only [extU] at hd); (try simp only [Nat.reduceAdd] at hd); (try simp only [Nat.reduceEqDiff] at hd); (try simp only [reduceIte] at hd); (try simp only [and_true] at hd); (try simp only [true_and] at hd); (try go_simp); (try exact rfl)))
                      (try clear hc hf h); intro u w' h ha hdi; replace h := h.ins; (try simp only [World.size_alloc] at h); (try dsimp only at ha); (repeat rw [World.size_alloc] at ha); (try simp only [allH] at ha); (try simp only [ext] at ha); (try simp only [extU] at ha); (try simp only [Nat.reduceAdd] at ha); (try simp only [Nat.reduceEqDiff] at ha); (try simp only [reduceIte] at ha); (try simp only [and_true] at ha); (try simp only [true_and] at ha); have hc := h.cell; have hf := h.frozen
                      obtain ⟨ha, G, hu, hGV, bg1⟩ := ha
                      (try obtain ha := ha); (try dsimp only);  simp only [ha, hu]; clear ha hdi hu
                      have hin2 := hinq.call h.bel
                      have hown2 := ownsRow_below HOWN.out h.bel
                      have hvlt := hown2.lt
                      have hws := h.siz
                      refine wpList_append_own _ rfl (.tmp 91) (.tmp 112) 79 rfl wc3.heap.size 87 i0 (.agg #[.int .i64 0, .int .u64 0, .string ⟨#[]⟩, .bool false, .int .u64 0, .string ⟨#[]⟩]) 6 64 Tryz.underlying79 hi0 hi1 hi2 hi3 rfl (by decide) v9 k _ rfl hown2 ⟨G, 0, none⟩ 1 1 [.int .i64 col, .int .u64 A1, .string A2, .bool A3, .int .u64 A4, .string A5] rfl rfl ?c1 ?c2 ?c3 ?c4 ?c5 ?_
                      case c1 =>
                        intro j u hj
                        have e : (⟨G, 0, none⟩ : Addr).add j = ⟨G, j, none⟩ := by unfold Addr.add; split <;> simp_all
                        rw [e, bg1.cell j]; exact hj
                      case c2 => intro u hu; simp at hu; rcases hu with rfl | rfl | rfl | rfl | rfl | rfl <;> rfl
                      case c3 => simp only [maxLen]; omega
                      case c4 => have := hinq.siz; omega
                      case c5 => have := hinq.siz; omega
                      intro v' w3 hown3 hgr hnil
                      have hin3 : In wc3.heap.size wc3 w3 := ⟨hin2.bel.grown hgr hin2.siz (fun k h => by have := (hvlt _ h).1; omega), Nat.le_trans hin2.siz hgr.size⟩
                      clear hc hf h hin2 hown2 hvlt hws hgr hnil bg1 hGV hqw hinq x2 xl hx hbq hc0 hc1 hc2 hb2q hb2 hcq
                      obtain ⟨g9, c9, rfl⟩ : ∃ g9 c9, v' = .slice (some ⟨g9, 0, none⟩) (k + 1) c9 := by
                        rcases hown3.2 with ⟨_, hn⟩ | ⟨g9, c9, cur, h9, _⟩
                        · omega
                        · exact ⟨g9, c9, h9⟩
                      have htk : row.take (k + 1) = row.take k ++ [(col, nn, dd)] := by
                        rw [List.take_add_one, List.getElem?_eq_getElem (by rw [← HRL.out]; exact hkr)]
                        congr 1
                        have := HY.out
                        rw [List.getD_eq_getElem?_getD, List.getElem?_eq_getElem (by rw [← HRL.out]; exact hkr)] at this
                        simp only [Option.getD_some] at this
                        rw [← this]; rfl
                      have HO3 : Hid (w3.ownsRow wc3.heap.size 87 6 (.slice (some ⟨g9, 0, none⟩) (k + 1) c9) (k + 1) (((row.take (k + 1)).map eI).flatMap ecsI)) := Lib.hid (by
                        rw [htk, List.map_append, List.flatMap_append]
                        have e : List.flatMap ecsI (List.map eI [(col, nn, dd)]) = [.int .i64 col, .int .u64 A1, .string A2, .bool A3, .int .u64 A4, .string A5] := by
                          show (.int .i64 col :: fcs (qOf nn dd)) ++ [] = _
                          rw [HA2.out]; rfl
                        rw [e]; exact hown3)
                      have HI3 := Lib.hid hin3
                      clear hown3 hin3
                      go_frame
                      go_wp2_with fail
                      exact ⟨⟨k + 1, _, by omega, rfl, by go_num, HI3.out, HO3.out⟩, by simp [RowKit.intOf]; omega⟩
                    · obtain rfl : k = rl := by omega
                      have hkI : ¬ (k : Int) < k := by omega
                      have htake : row.take k = row := by rw [HRL.out, List.take_length]
                      have HOWN2 : Hid (wq.ownsRow wc3.heap.size 87 6 v9 k ((row.map eI).flatMap ecsI)) := Lib.hid (by have := HOWN.out; rwa [htake] at this)
                      clear htake HOWN
                      obtain ⟨va, vc, hvs⟩ := HOUT.out.shape
                      subst hvs
                      have bsq := HBS.out.call hinq.bel
                      have s2 := bsq.c2
                      have sl := bsq.lt
                      obtain ⟨a7, n7, c7, hv7⟩ : ∃ a n k, v9 = .slice a n k := by
                        rcases HOWN2.out.2 with ⟨h, _⟩ | ⟨g, c, _, h, _⟩
                        · exact ⟨_, _, _, h⟩
                        · exact ⟨_, _, _, h⟩
                      subst hv7
                      obtain ⟨vs, hvs1, hvs2⟩ := HOUT.out
                      have hownq := ownsRow_below hvs1 hinq.bel
                      have hrows : ∀ i', i' < i → RowF wq (vs.getD i' undef) ((es.getD i' []).map eI) := fun i' h' => (hvs2 i' h').call hinq.bel
                      have HOWNQ := Lib.hid hownq
                      have HROWS := Lib.hid hrows
                      have HNEW := Lib.hid (RowF.own (es := row.map eI) (by rw [List.length_map, ← HRL.out]; exact HOWN2.out))
                      have HQW := Lib.hid hqw
                      have HBSQ := Lib.hid bsq
                      have HXQ := Lib.hid (HBX.out.call hinq.bel)
                      have hvlt := hownq.lt
                      have HVLT := Lib.hid hvlt
                      have HLO : Hid (Sb + 1 ≤ wq.heap.size) := Lib.hid (by have := bsq.lt; omega)
                      have HLW : Hid (w.heap.size ≤ Sb) := Lib.hid (by have := HSB.out; have := HXL.out; omega)
                      clear hownq hrows hvs1 hvs2 bsq hinq hvlt hqw
                      obtain ⟨W2, hW2⟩ : ∃ W2, W2 = wq.alloc (.cells #[.slice a7 n7 c7] 79) := ⟨_, rfl⟩
                      have HW2 := Lib.hid hW2
                      obtain ⟨Q, hQ⟩ : ∃ Q, Q = wq.heap.size := ⟨_, rfl⟩
                      have HQ := Lib.hid hQ
                      clear hW2 hQ
                      go_wp2_with (at_builtin; refine wpList_append_own _ rfl (.tmp 115) (.tmp 117) 28 rfl (Sb + 1) 79 j0 (.slice none 0 0) 1 24 Tryz.underlying28 hj0 hj1 hj2 hj3 rfl (by decide) (.slice va i vc) i vs rfl (HOWNQ.out.alloc _) ⟨wq.heap.size, 0, none⟩ 1 1 [.slice a7 n7 c7] rfl rfl ?c1 ?c2 ?c3 ?c4 ?c5 ?_)
                      case c2 => first | rfl | trivial
                      case c3 => simp only [maxLen]; omega
                      case c4 => have := HLO.out; omega
                      case c5 => omega
                      intro v' w3 hown3 hgr _
                      have hal : Below wq.heap.size wq (wq.alloc (.cells #[.slice a7 n7 c7] 79)) := (Below.refl _ _).alloc (Nat.le_refl _) _
                      have hout3 : OutF w3 (Sb + 1) v' (i + 1) es := OutF.snoc (HOWNQ.out.alloc _) (fun i' h' => (HROWS.out i' h').call hal) (by have := HNEW.out.call hal; rw [HROW.out] at this; exact this) hown3 hgr
                      have bs3 := (HBSQ.out.alloc (.cells #[.slice a7 n7 c7] 79)).grown hgr (fun h => by have := (HVLT.out _ h.symm).1; omega)
                      have bx3 := (HXQ.out.alloc (.cells #[.slice a7 n7 c7] 79)).grown hgr (fun h => by have := (HVLT.out _ h.symm).1; have := HSB.out; omega)
                      have hin2 := HQW.out.alloc (.cells #[.slice a7 n7 c7] 79)
                      have hin3 : In w.heap.size w w3 := ⟨hin2.bel.grown hgr hin2.siz (fun k h => by have := (HVLT.out _ h).1; have := HLW.out; omega), Nat.le_trans hin2.siz hgr.size⟩
                      obtain ⟨g9, c9, rfl⟩ : ∃ g9 c9, v' = .slice (some ⟨g9, 0, none⟩) (i + 1) c9 := by
                        rcases hown3.2 with ⟨_, hn⟩ | ⟨g9, c9, cur, h9, _⟩
                        · omega
                        · exact ⟨g9, c9, h9⟩
                      have s2 := bs3.c2
                      have sf := bs3.frozen 2
                      have sl := bs3.lt
                      have K1 := Lib.hid (bs3.set 2 (.slice (some ⟨g9, 0, none⟩) (i + 1) c9))
                      have K2 := Lib.hid (bx3.other (a := ⟨Sb, 2, none⟩) (by have := HSB.out; simp; omega) (.slice (some ⟨g9, 0, none⟩) (i + 1) c9))
                      have K3 := Lib.hid (hin3.setCell (p := ⟨Sb, 2, none⟩) HLW.out (.slice (some ⟨g9, 0, none⟩) (i + 1) c9))
                      have K4 := Lib.hid (hout3.setS (x := .slice (some ⟨g9, 0, none⟩) (i + 1) c9) bs3 (Nat.lt_succ_self _) 2)
                      have K5 : Hid (∀ j, j < i + 1 → (es.getD j []).length ≤ 6 ∧ (es.getD j []).all (fun e => nearQ e.2) = true) := Lib.hid fun j hj => by
                        by_cases hji : j < i
                        · exact HES.out j hji
                        · obtain rfl : j = i := by omega
                          rw [← HROW.out, ← HRL.out]
                          refine ⟨h6, ?_⟩
                          have := small_one HS2.out.symm
                          rwa [List.all_map] at this
                      clear hown3 hgr hal hout3 bs3 bx3 hin2 hin3 HOWNQ HROWS HNEW HBSQ HXQ HQW HVLT x2 xl hx hbq
                      go_wp2_with fail
                      exact ⟨⟨i + 1, _, by omega, by go_num, K3.out, K2.out, K1.out, K4.out, K5⟩, by simp [RowKit.intOf]; omega⟩
              · have k4 : (6 : Int) < rl := by omega
                skip
                ((have x0 := bX.c0); (have x1 := bX.c1); (have x2 := bX.c2); (have xl := bX.lt))
                ((go_wp2_with fail); (((with_reducible refine (cz _).mono ?_))); (rintro e wc1 ⟨rfl, hb⟩); (clear x0 x1 x2 xl); (replace hin := hin.call hb); (replace bX := bX.call hb); (replace bSb := bSb.call hb); (clear hb))
                go_wp2_with fail
                go_ret
                exact ⟨rfl, hin.bel⟩
            · -- END BEGINS
              rename_i ya0_ ya1_ ya2_ ya3_
              revert w n m a cap es ba sa bc sc qb qs hob hos hLb hLs i0 hi0 hi1 hi2 hi3 j0 hj0 hj1 hj2 hj3 cz L hl HR HOK HLL HL HQB HQS HLB HLS ya0_ X W1 HXL hL6 k1 V W2 wc3 HSM hb8 hs8 k2 k3 ya1_ ya2_ ya3_ Sb hXS W4 HSB wo u6 u9 u10 u54 u55 u56 u57 u58 u59 u60 u61 u62 u63 u64 u65 u66 u67 u68 u69 u70 u71 u72 u73 u74 u75 u76 u77 u78 u79 u80 u81 u82 u83 u84 u85 u86 u87 u88 u89 u90 u91 u92 u93 u94 u95 u96 u97 u98 u99 u100 u101 u102 u103 u104 u105 u106 u107 u108 u109 u110 u111 u112 u113 u114 u115 u116 u117 u118 u119 i v hi hin bX bSb hout HES hiL
              exact Kcut.out
        · skip
          clear Kcut
          have k3 : (8 : Int) < (qs.length : Int) := by omega
          ((go_wp2_with fail); (((with_reducible refine (cz _).mono ?_))); (rintro e wc4 ⟨rfl, hb⟩); (skip); (replace hin := hin.call hb); (replace bX := bX.call hb); (clear hb))
          go_wp2_with fail
          go_ret
          exact ⟨rfl, hin.bel⟩
      · skip
        clear Kcut
        have k2 : (8 : Int) < (qb.length : Int) := by omega
        ((go_wp2_with fail); (((with_reducible refine (cz _).mono ?_))); (rintro e wc4 ⟨rfl, hb⟩); (skip); (replace hin := hin.call hb); (replace bX := bX.call hb); (clear hb))
        go_wp2_with fail
        go_ret
        exact ⟨rfl, hin.bel⟩
  · skip
    clear Kcut
    have k1 : (6 : Int) < L := by omega
    ((have x0 := bX.c0); (have x1 := bX.c1); (have x2 := bX.c2); (have xl := bX.lt))
    ((go_wp2_with fail); (((with_reducible refine (cz _).mono ?_))); (rintro e wc2 ⟨rfl, hb⟩); (clear x0 x1 x2 xl); (replace hin := hin.call hb); (replace bX := bX.call hb); (clear hb))
    go_wp2_with fail
    go_ret
    exact ⟨rfl, hin.bel⟩
  ⟩
set_option maxRecDepth 100000 in
set_option maxHeartbeats 100000000 in
def errors_any_q2 : {P : Prop // P → errors_any_q1.1} := ⟨_, fun Kcut => by
  replace Kcut : Keep _ := ⟨Kcut⟩
  intro w n m a cap es ba sa bc sc qb qs hob hos hLb hLs i0 hi0 hi1 hi2 hi3 j0 hj0 hj1 hj2 hj3 cz L hl HR HOK HLL HL HQB HQS HLB HLS ya0_ X W1 HXL hL6 k1 V W2 wc3 HSM hb8 hs8 k2 k3 ya1_ ya2_ ya3_ Sb hXS W4 HSB wo u6 u9 u10 u54 u55 u56 u57 u58 u59 u60 u61 u62 u63 u64 u65 u66 u67 u68 u69 u70 u71 u72 u73 u74 u75 u76 u77 u78 u79 u80 u81 u82 u83 u84 u85 u86 u87 u88 u89 u90 u91 u92 u93 u94 u95 u96 u97 u98 u99 u100 u101 u102 u103 u104 u105 u106 u107 u108 u109 u110 u111 u112 u113 u114 u115 u116 u117 u118 u119 i v hi hin bX bSb hout HES hiL
  obtain rfl : i = L := by omega
  have hiI : ¬ (i : Int) < i := by omega
  obtain ⟨va, vc, rfl⟩ := hout.shape
  have hout' : OutF wo (Sb + 1) (.slice va i vc) es.length es := by rw [← HL.out]; exact hout
  have hG := hout'.spG (n := n) (m := m) (by rw [← HL.out]; simp only [maxLen]; omega)
  have hNR : NearR es := fun l hl => by
    obtain ⟨j, hj, rfl⟩ := List.getElem_of_mem hl
    have := HES.out j (by rw [HL.out]; exact hj)
    rw [List.getD_eq_getElem?_getD, List.getElem?_eq_getElem hj] at this
    exact this
  obtain ⟨hbn, hsn, _, _⟩ := small_both HSM.out.symm
  obtain ⟨chk, sy, hRK, hall⟩ := err_all hG (by rw [← HL.out]; exact hL6) hNR HOK.out hbn hob hsn hos hb8 hs8
  obtain ⟨hk1, hk2⟩ := hRK
  have hwo := In.self wo
  obtain ⟨want, hwant⟩ : ∃ z, z = wantE chk sy := ⟨_, rfl⟩
  rw [← hwant] at hall
  obtain ⟨on, hon⟩ : ∃ z, z = oneE want qb.length n := ⟨_, rfl⟩
  obtain ⟨tw, htw⟩ : ∃ z, z = twoE want qb.length qs.length n := ⟨_, rfl⟩
  rw [← hon, ← htw] at hall
  have HW := Lib.hid hwant
  have HO := Lib.hid hon
  have HT := Lib.hid htw
  clear hout hout' hG hNR HES hbn hsn hwant hon htw
  skip
  ((have x0 := bX.c0); (have x1 := bX.c1); (have x2 := bX.c2); (have xl := bX.lt))
  ((have s0 := bSb.c0); (have s1 := bSb.c1); (have s2 := bSb.c2); (have sl := bSb.lt))
  ((go_wp2_with fail); (((with_reducible refine (hk1 _ hwo).mono ?_))); (rintro e wc1 ⟨rfl, hb⟩); (clear x0 x1 x2 xl s0 s1 s2 sl bX hk1); (replace hin := hin.call hb); (replace hwo := hwo.call hb); (replace bSb := bSb.call hb); (clear hb))
  go_upto_region 16 with fail
  obtain ⟨b16, hb16⟩ : ∃ b, b = (decide (chk = 0) && !sy) := ⟨_, rfl⟩
  have HB16 := Lib.hid hb16
  clear hb16
  go_cut [128] from 122 to 128 (fun v128 wx => v128 = .bool b16 ∧ In w.heap.size w wx ∧ In wo.heap.size wo wx ∧ Bx wx Sb 30 [.int .i64 n, .int .i64 m, .slice va i vc])
  case first =>
    skip
    by_cases hchk : chk = 0
    · subst hchk
      ((have s0 := bSb.c0); (have s1 := bSb.c1); (have s2 := bSb.c2); (have sl := bSb.lt))
      ((go_wp2_with fail); (((with_reducible refine (hk2 _ hwo).mono ?_))); (rintro e wc2 ⟨rfl, hb⟩); (clear s0 s1 s2 sl hk2); (replace hin := hin.call hb); (replace hwo := hwo.call hb); (replace bSb := bSb.call hb); (clear hb))
      rcases sy with _ | _
      · go_wp2_with fail
        go_meet
        exact ⟨by rw [HB16.out]; rfl, hin, hwo, bSb⟩
      · go_wp2_with fail
        go_meet
        exact ⟨by rw [HB16.out]; rfl, hin, hwo, bSb⟩
    · skip
      have k5 : (chk == 0) = false := by simpa using hchk
      have HC5 := Lib.hid hchk
      clear hchk
      go_wp2_with fail
      go_meet
      exact ⟨by rw [HB16.out, decide_eq_false HC5.out, Bool.false_and], hin, hwo, bSb⟩
  case rest =>
    rename_i yb0_ yb1_ yb2_ yb3_ yb4_ yb5_ yb6_ yb7_ yb8_
    revert w n m a cap es ba sa bc sc qb qs hob hos hLb hLs i0 hi0 hi1 hi2 hi3 j0 hj0 hj1 hj2 hj3 cz HR HOK HLL HQB HQS HLB HLS ya0_ X W1 HXL V W2 wc3 HSM hb8 hs8 k2 k3 ya1_ ya2_ Sb hXS W4 HSB wo u6 u9 u10 u54 u55 u56 u57 u58 u59 u60 u61 u62 u63 u64 u65 u66 u67 u68 u69 u70 u71 u72 u73 u74 u75 u76 u77 u78 u79 u80 u81 u82 u83 u84 u85 u86 u87 u88 u89 u90 u91 u92 u93 u94 u95 u96 u97 u98 u99 u100 u101 u102 u103 u104 u105 u106 u107 u108 u109 u110 u111 u112 u113 u114 u115 u116 u117 u118 u119 i hl HL hL6 k1 hi hiL va vc yb0_ yb1_ chk sy hk2 want on tw hall HW HO HT yb2_ yb3_ yb4_ hiI wc1 hin hwo bSb yb5_ yb6_ yb7_ yb8_ b16 HB16 wc u122 u123 u124 u125 u126 u127 u128 hcut
    exact Kcut.out
  -- END ENDS
  ⟩
set_option maxRecDepth 100000 in
set_option maxHeartbeats 100000000 in
def errors_any_q3 : {P : Prop // P → errors_any_q2.1} := ⟨_, fun Kcut => by
  replace Kcut : Keep _ := ⟨Kcut⟩
  intro w n m a cap es ba sa bc sc qb qs hob hos hLb hLs i0 hi0 hi1 hi2 hi3 j0 hj0 hj1 hj2 hj3 cz HR HOK HLL HQB HQS HLB HLS ya0_ X W1 HXL V W2 wc3 HSM hb8 hs8 k2 k3 ya1_ ya2_ Sb hXS W4 HSB wo u6 u9 u10 u54 u55 u56 u57 u58 u59 u60 u61 u62 u63 u64 u65 u66 u67 u68 u69 u70 u71 u72 u73 u74 u75 u76 u77 u78 u79 u80 u81 u82 u83 u84 u85 u86 u87 u88 u89 u90 u91 u92 u93 u94 u95 u96 u97 u98 u99 u100 u101 u102 u103 u104 u105 u106 u107 u108 u109 u110 u111 u112 u113 u114 u115 u116 u117 u118 u119 i hl HL hL6 k1 hi hiL va vc yb0_ yb1_ chk sy hk2 want on tw hall HW HO HT yb2_ yb3_ yb4_ hiI wc1 hin hwo bSb yb5_ yb6_ yb7_ yb8_ b16 HB16 wc u122 u123 u124 u125 u126 u127 u128 hcut
  rename World => wz
  clear hin hwo bSb
  obtain ⟨rfl, hin, hwo, bSb⟩ := hcut
  go_upto_if 128 with fail
  go_cut [11] (fun v11 wx => v11 = .int .i64 want ∧ wz = wx)
  case first =>
    have hw9 : want = if b16 = true then 1 else chk := by
      rw [HW.out, HB16.out]; unfold wantE
      by_cases h : chk = 0
      · subst h; cases sy <;> simp
      · rw [if_pos h, decide_eq_false h, Bool.false_and, if_neg Bool.false_ne_true]
    have HW9 := Lib.hid hw9
    clear hw9
    rcases b16 with _ | _
    · go_wp2_with fail
      go_meet
      exact ⟨by rw [HW9.out]; rfl, rfl⟩
    · go_wp2_with fail
      go_meet
      exact ⟨by rw [HW9.out]; rfl, rfl⟩
  case rest =>
    obtain ⟨rfl, rfl⟩ := hcut
    clear HB16
    rename_i ye0_ ye1_ ye2_ ye3_ ye4_ ye5_ ye6_ ye7_ ye8_ ye9_ ye10_ ye11_ ye12_ ye13_ ye14_ ye15_ ye16_ ye17_ ye18_ ye19_ ye20_ ye21_ ye22_ ye23_ ye24_ ye25_ ye26_ ye27_ ye28_ ye29_ ye30_ ye31_ ye32_ ye33_ ye34_ ye35_ ye36_ ye37_ ye38_ ye39_ ye40_ ye41_ ye42_ ye43_ ye44_ ye45_ ye46_ ye47_ ye48_ ye49_ ye50_ ye51_ ye52_ ye53_ ye54_ ye55_ ye56_ ye57_ ye58_ ye59_ ye60_ ye61_ ye62_ ye63_ ye64_ ye65_ ye66_ ye67_ ye68_ ye69_ ye70_ ye71_
    revert w n m a cap es ba sa bc sc qb qs hob hos hLb hLs i0 hi0 hi1 hi2 hi3 j0 hj0 hj1 hj2 hj3 cz HR HOK HLL HQB HQS HLB HLS ya0_ X W1 HXL V W2 wc3 HSM hb8 hs8 k2 k3 ya1_ ya2_ Sb hXS W4 HSB wo u6 u9 u10 ye0_ ye1_ ye2_ ye3_ ye4_ ye5_ ye6_ ye7_ ye8_ ye9_ ye10_ ye11_ ye12_ ye13_ ye14_ ye15_ ye16_ ye17_ ye18_ ye19_ ye20_ ye21_ ye22_ ye23_ ye24_ ye25_ ye26_ ye27_ ye28_ ye29_ ye30_ ye31_ ye32_ ye33_ ye34_ ye35_ ye36_ ye37_ ye38_ ye39_ ye40_ ye41_ ye42_ ye43_ ye44_ ye45_ ye46_ ye47_ ye48_ ye49_ ye50_ ye51_ ye52_ ye53_ ye54_ ye55_ ye56_ ye57_ ye58_ ye59_ ye60_ ye61_ ye62_ ye63_ ye64_ ye65_ i hl HL hL6 k1 hi hiL va vc yb0_ yb1_ chk sy hk2 want on tw hall HW HO HT yb2_ yb3_ yb4_ hiI wc1 yb5_ yb6_ b16 wz ye66_ ye67_ ye68_ ye69_ ye70_ ye71_ hin hwo bSb u26 u27 u28 u29 u30 u31 u32 u33 u34 u35 u36 u37 u38 u39 u40 u41 u42 u43 u44 u45 u46 u47 u48 u49 u50 u51 u52 u53 u54 u55 u56 u57 u58 u59 u60 u61 u62 u63 u64 u65 u66 u67 u68 u69 u70 u71 u72 u73 u74 u75 u76 u77 u78 u79 u80 u81 u82 u83 u84 u85 u86 u87 u88 u89 u90 u91 u92 u93 u94 u95 u96 u97 u98 u99 u100 u101 u102 u103 u104 u105 u106 u107 u108 u109 u110 u111 u112 u113 u114 u115 u116 u117 u118 u119 u120 u121 u122 u123 u124 u125 u126 u127 u128 u129 u130 u131 u132 u133 u134 u135 u136 u137 u138 u139 u140 u141 u142 u143 u144 u145 u146 u147 u148 u149 u150 u151 u152 u153 u154 u155 u156 u157 u158 u159 u160 u161 u162 u163 u164 u165 u166 u167 u168 u169 u170 u171 u172 u173 u174 u175 u176 u177 u178 u179 u180 u181 u182 u183 u184 u185 u186 u187 u188 u189 u190 u191 u192 u193 u194 u195 u196 u197 u198 u199 u200 u201 u202 u203 u204 u205 u206 u207 u208 u209 u210 u211 u212 u213 u214 u215 u216 u217 u218 u219 u220 u221 u222 u223 u224 u225 u226 u227 u228 u229 u230 u231 u232 u233 u234 u235 u236 u237 u238 u239 u240 u241 u242 u243 u244 u245 u246 u247 u248 u249 u250 u251 u252 u253 u254 u255 u256 u257 u258 u259 u260 u261 u262 u263 u264 u265 u266 u267 u268 u269 u270 u271 u272 u273 u274 u275
    exact Kcut.out
  ⟩
set_option maxRecDepth 100000 in
set_option maxHeartbeats 100000000 in
def errors_any_q4 : {P : Prop // P → errors_any_q3.1} := ⟨_, fun Kcut => by
  replace Kcut : Keep _ := ⟨Kcut⟩
  intro w n m a cap es ba sa bc sc qb qs hob hos hLb hLs i0 hi0 hi1 hi2 hi3 j0 hj0 hj1 hj2 hj3 cz HR HOK HLL HQB HQS HLB HLS ya0_ X W1 HXL V W2 wc3 HSM hb8 hs8 k2 k3 ya1_ ya2_ Sb hXS W4 HSB wo u6 u9 u10 ye0_ ye1_ ye2_ ye3_ ye4_ ye5_ ye6_ ye7_ ye8_ ye9_ ye10_ ye11_ ye12_ ye13_ ye14_ ye15_ ye16_ ye17_ ye18_ ye19_ ye20_ ye21_ ye22_ ye23_ ye24_ ye25_ ye26_ ye27_ ye28_ ye29_ ye30_ ye31_ ye32_ ye33_ ye34_ ye35_ ye36_ ye37_ ye38_ ye39_ ye40_ ye41_ ye42_ ye43_ ye44_ ye45_ ye46_ ye47_ ye48_ ye49_ ye50_ ye51_ ye52_ ye53_ ye54_ ye55_ ye56_ ye57_ ye58_ ye59_ ye60_ ye61_ ye62_ ye63_ ye64_ ye65_ i hl HL hL6 k1 hi hiL va vc yb0_ yb1_ chk sy hk2 want on tw hall HW HO HT yb2_ yb3_ yb4_ hiI wc1 yb5_ yb6_ b16 wz ye66_ ye67_ ye68_ ye69_ ye70_ ye71_ hin hwo bSb u26 u27 u28 u29 u30 u31 u32 u33 u34 u35 u36 u37 u38 u39 u40 u41 u42 u43 u44 u45 u46 u47 u48 u49 u50 u51 u52 u53 u54 u55 u56 u57 u58 u59 u60 u61 u62 u63 u64 u65 u66 u67 u68 u69 u70 u71 u72 u73 u74 u75 u76 u77 u78 u79 u80 u81 u82 u83 u84 u85 u86 u87 u88 u89 u90 u91 u92 u93 u94 u95 u96 u97 u98 u99 u100 u101 u102 u103 u104 u105 u106 u107 u108 u109 u110 u111 u112 u113 u114 u115 u116 u117 u118 u119 u120 u121 u122 u123 u124 u125 u126 u127 u128 u129 u130 u131 u132 u133 u134 u135 u136 u137 u138 u139 u140 u141 u142 u143 u144 u145 u146 u147 u148 u149 u150 u151 u152 u153 u154 u155 u156 u157 u158 u159 u160 u161 u162 u163 u164 u165 u166 u167 u168 u169 u170 u171 u172 u173 u174 u175 u176 u177 u178 u179 u180 u181 u182 u183 u184 u185 u186 u187 u188 u189 u190 u191 u192 u193 u194 u195 u196 u197 u198 u199 u200 u201 u202 u203 u204 u205 u206 u207 u208 u209 u210 u211 u212 u213 u214 u215 u216 u217 u218 u219 u220 u221 u222 u223 u224 u225 u226 u227 u228 u229 u230 u231 u232 u233 u234 u235 u236 u237 u238 u239 u240 u241 u242 u243 u244 u245 u246 u247 u248 u249 u250 u251 u252 u253 u254 u255 u256 u257 u258 u259 u260 u261 u262 u263 u264 u265 u266 u267 u268 u269 u270 u271 u272 u273 u274 u275
  skip
  have cv1 := lvec_any wz ba bc qb.length qb (HQB.out.call hin.bel) hob (by omega) (by omega)
  ((go_wp2_with fail); (((with_reducible refine (cv1).mono ?_))); (rintro e wc1 ⟨⟨bv, rfl, hbv⟩, hb⟩); (clear cv1); (replace hin := hin.call hb); (replace hwo := hwo.call hb); (replace bSb := bSb.call hb); (clear hb))
  rw [mList_vl] at hbv
  obtain ⟨bva, bvk, he⟩ := hbv.shape
  rw [vl_length] at he
  subst he
  have cv2 := lvec_any wc1 sa sc qs.length qs (HQS.out.call hin.bel) hos (by omega) (by omega)
  ((go_wp2_with fail); (((with_reducible refine (cv2).mono ?_))); (rintro e wc2 ⟨⟨xv, rfl, hxv⟩, hb⟩); (clear cv2); (replace hin := hin.call hb); (replace hwo := hwo.call hb); (replace hbv := hbv.call hb); (replace bSb := bSb.call hb); (clear hb))
  rw [mList_vl] at hxv
  obtain ⟨xva, xvk, he⟩ := hxv.shape
  rw [vl_length] at he
  subst he
  obtain ⟨c1, c2, hg1, hg2, ⟨hr1, hr2⟩, hf1, ⟨q, hq0, hf2⟩, hf3⟩ := hall wc2 hwo _ _ hbv hxv
  have HQ0 := Lib.hid hq0
  clear hq0 hall
  rename_i yf0_ yf1_ yf2_ yf3_ yf4_
  revert w n m a cap es ba sa bc sc qb qs hob hos hLb hLs i0 hi0 hi1 hi2 hi3 j0 hj0 hj1 hj2 hj3 cz HR HOK HLL HQB HQS HLB HLS ya0_ X W1 HXL V W2 wc3 HSM hb8 hs8 k2 k3 ya1_ ya2_ Sb hXS W4 HSB wo u6 u9 u10 ye0_ ye1_ ye2_ ye3_ ye4_ ye5_ ye6_ ye7_ ye8_ ye9_ ye10_ ye11_ ye12_ ye13_ ye14_ ye15_ ye16_ ye17_ ye18_ ye19_ ye20_ ye21_ ye22_ ye23_ ye24_ ye25_ ye26_ ye27_ ye28_ ye29_ ye30_ ye31_ ye32_ ye33_ ye34_ ye35_ ye36_ ye37_ ye38_ ye39_ ye40_ ye41_ ye42_ ye43_ ye44_ ye45_ ye46_ ye47_ ye48_ ye49_ ye50_ ye51_ ye52_ ye53_ ye54_ ye55_ ye56_ ye57_ ye58_ ye59_ ye60_ ye61_ ye62_ ye63_ ye64_ ye65_ i hl HL hL6 k1 hi hiL va vc yb0_ yb1_ chk sy hk2 want on tw HW HO HT yb2_ yb3_ yb4_ hiI yf0_ b16 wz ye66_ ye67_ ye68_ ye69_ ye70_ ye71_ u26 u27 u28 u29 u30 u31 u32 u33 u34 u35 u36 u37 u38 u39 u40 u41 u42 u43 u44 u45 u46 u47 u48 u49 u50 u51 u52 u53 u54 u55 u56 u57 u58 u59 u60 u61 u62 u63 u64 u65 u66 u67 u68 u69 u70 u71 u72 u73 u74 u75 u76 u77 u78 u79 u80 u81 u82 u83 u84 u85 u86 u87 u88 u89 u90 u91 u92 u93 u94 u95 u96 u97 u98 u99 u100 u101 u102 u103 u104 u105 u106 u107 u108 u109 u110 u111 u112 u113 u114 u115 u116 u117 u118 u119 u120 u121 u122 u123 u124 u125 u126 u127 u128 u129 u130 u131 u132 u133 u134 u135 u136 u137 u138 u139 u140 u141 u142 u143 u144 u145 u146 u147 u148 u149 u150 u151 u152 u153 u154 u155 u156 u157 u158 u159 u160 u161 u162 u163 u164 u165 u166 u167 u168 u169 u170 u171 u172 u173 u174 u175 u176 u177 u178 u179 u180 u181 u182 u183 u184 u185 u186 u187 u188 u189 u190 u191 u192 u193 u194 u195 u196 u197 u198 u199 u200 u201 u202 u203 u204 u205 u206 u207 u208 u209 u210 u211 u212 u213 u214 u215 u216 u217 u218 u219 u220 u221 u222 u223 u224 u225 u226 u227 u228 u229 u230 u231 u232 u233 u234 u235 u236 u237 u238 u239 u240 u241 u242 u243 u244 u245 u246 u247 u248 u249 u250 u251 u252 u253 u254 u255 u256 u257 u258 u259 u260 u261 u262 u263 u264 u265 u266 u267 u268 u269 u270 u271 u272 u273 u274 u275 yf1_ yf2_ wc1 bva bvk yf3_ yf4_ wc2 hin hwo hbv bSb xva xvk hxv c1 c2 hg1 hg2 hr1 hr2 hf1 hf3 q hf2 HQ0
  exact Kcut.out
  ⟩
set_option maxRecDepth 100000 in
set_option maxHeartbeats 100000000 in
def errors_any_q5 : {P : Prop // P → errors_any_q4.1} := ⟨_, fun Kcut => by
  replace Kcut : Keep _ := ⟨Kcut⟩
  intro w n m a cap es ba sa bc sc qb qs hob hos hLb hLs i0 hi0 hi1 hi2 hi3 j0 hj0 hj1 hj2 hj3 cz HR HOK HLL HQB HQS HLB HLS ya0_ X W1 HXL V W2 wc3 HSM hb8 hs8 k2 k3 ya1_ ya2_ Sb hXS W4 HSB wo u6 u9 u10 ye0_ ye1_ ye2_ ye3_ ye4_ ye5_ ye6_ ye7_ ye8_ ye9_ ye10_ ye11_ ye12_ ye13_ ye14_ ye15_ ye16_ ye17_ ye18_ ye19_ ye20_ ye21_ ye22_ ye23_ ye24_ ye25_ ye26_ ye27_ ye28_ ye29_ ye30_ ye31_ ye32_ ye33_ ye34_ ye35_ ye36_ ye37_ ye38_ ye39_ ye40_ ye41_ ye42_ ye43_ ye44_ ye45_ ye46_ ye47_ ye48_ ye49_ ye50_ ye51_ ye52_ ye53_ ye54_ ye55_ ye56_ ye57_ ye58_ ye59_ ye60_ ye61_ ye62_ ye63_ ye64_ ye65_ i hl HL hL6 k1 hi hiL va vc yb0_ yb1_ chk sy hk2 want on tw HW HO HT yb2_ yb3_ yb4_ hiI yf0_ b16 wz ye66_ ye67_ ye68_ ye69_ ye70_ ye71_ u26 u27 u28 u29 u30 u31 u32 u33 u34 u35 u36 u37 u38 u39 u40 u41 u42 u43 u44 u45 u46 u47 u48 u49 u50 u51 u52 u53 u54 u55 u56 u57 u58 u59 u60 u61 u62 u63 u64 u65 u66 u67 u68 u69 u70 u71 u72 u73 u74 u75 u76 u77 u78 u79 u80 u81 u82 u83 u84 u85 u86 u87 u88 u89 u90 u91 u92 u93 u94 u95 u96 u97 u98 u99 u100 u101 u102 u103 u104 u105 u106 u107 u108 u109 u110 u111 u112 u113 u114 u115 u116 u117 u118 u119 u120 u121 u122 u123 u124 u125 u126 u127 u128 u129 u130 u131 u132 u133 u134 u135 u136 u137 u138 u139 u140 u141 u142 u143 u144 u145 u146 u147 u148 u149 u150 u151 u152 u153 u154 u155 u156 u157 u158 u159 u160 u161 u162 u163 u164 u165 u166 u167 u168 u169 u170 u171 u172 u173 u174 u175 u176 u177 u178 u179 u180 u181 u182 u183 u184 u185 u186 u187 u188 u189 u190 u191 u192 u193 u194 u195 u196 u197 u198 u199 u200 u201 u202 u203 u204 u205 u206 u207 u208 u209 u210 u211 u212 u213 u214 u215 u216 u217 u218 u219 u220 u221 u222 u223 u224 u225 u226 u227 u228 u229 u230 u231 u232 u233 u234 u235 u236 u237 u238 u239 u240 u241 u242 u243 u244 u245 u246 u247 u248 u249 u250 u251 u252 u253 u254 u255 u256 u257 u258 u259 u260 u261 u262 u263 u264 u265 u266 u267 u268 u269 u270 u271 u272 u273 u274 u275 yf1_ yf2_ wc1 bva bvk yf3_ yf4_ wc2 hin hwo hbv bSb xva xvk hxv c1 c2 hg1 hg2 hr1 hr2 hf1 hf3 q hf2 HQ0
  go_upto_region 20 with fail
  obtain ⟨b20, hb20⟩ : ∃ b, b = decide (want = 0 ∧ (qb.length : Int) ≠ n) := ⟨_, rfl⟩
  obtain ⟨b22, hb22⟩ : ∃ b, b = decide (want = 0 ∧ ((qb.length : Int) ≠ n ∨ (qs.length : Int) ≠ n)) := ⟨_, rfl⟩
  have HB20 := Lib.hid hb20
  have HB22 := Lib.hid hb22
  clear hb20 hb22
  ((have s0 := bSb.c0); (have s1 := bSb.c1); (have s2 := bSb.c2); (have sl := bSb.lt))
  skip
  go_cut [147] from 139 to 147 (fun v147 wx => v147 = .bool b20 ∧ wc2 = wx)
  case first =>
    by_cases hw0 : want = 0
    · have HW0 := Lib.hid hw0
      have w1 : (want == 0) = true := by simpa using hw0
      clear hw0
      by_cases hbn : (qb.length : Int) = n
      · have k6 : ((qb.length : Int) != n) = false := by simp [hbn]
        have HBN := Lib.hid hbn
        clear hbn
        go_wp2_with fail
        go_meet
        exact ⟨by rw [HB20.out, decide_eq_false (fun h => h.2 HBN.out)], rfl⟩
      · have k6 : ((qb.length : Int) != n) = true := by simpa using hbn
        have HBN := Lib.hid hbn
        clear hbn
        go_wp2_with fail
        go_meet
        exact ⟨by rw [HB20.out, decide_eq_true ⟨HW0.out, HBN.out⟩], rfl⟩
    · have w1 : (want == 0) = false := by simpa using hw0
      have HW0 := Lib.hid hw0
      clear hw0
      go_wp2_with fail
      go_meet
      exact ⟨by rw [HB20.out, decide_eq_false (fun h => HW0.out h.1)], rfl⟩
  case rest =>
    obtain ⟨rfl, rfl⟩ := hcut
    rename_i yg0_ yg1_ yg2_ yg3_ yg4_ yg5_ yg6_ yg7_ yg8_ yg9_ yg10_ yg11_
    revert w n m a cap es ba sa bc sc qb qs hob hos hLb hLs i0 hi0 hi1 hi2 hi3 j0 hj0 hj1 hj2 hj3 cz HR HOK HLL HQB HQS HLB HLS ya0_ X W1 HXL V W2 wc3 HSM hb8 hs8 k2 k3 ya1_ ya2_ Sb hXS W4 HSB wo u6 u9 u10 ye0_ ye1_ ye2_ ye3_ ye4_ ye5_ ye6_ ye7_ ye8_ ye9_ ye10_ ye11_ ye12_ ye13_ ye14_ ye15_ ye16_ ye17_ ye18_ ye19_ ye20_ ye21_ ye22_ ye23_ ye24_ ye25_ ye26_ ye27_ ye28_ ye29_ ye30_ ye31_ ye32_ ye33_ ye34_ ye35_ ye36_ ye37_ ye38_ ye39_ ye40_ ye41_ ye42_ ye43_ ye44_ ye45_ ye46_ ye47_ ye48_ ye49_ ye50_ ye51_ ye52_ ye53_ ye54_ ye55_ ye56_ ye57_ ye58_ ye59_ ye60_ ye61_ ye62_ ye63_ ye64_ ye65_ i hl HL hL6 k1 hi hiL va vc yb0_ yb1_ chk sy hk2 want on tw HW HO HT yb2_ yb3_ yb4_ hiI yf0_ b16 wz ye66_ ye67_ ye68_ ye69_ ye70_ ye71_ u26 u27 u28 u29 u30 u31 u32 u33 u34 u35 u36 u37 u38 u39 u40 u41 u42 u43 u44 u45 u46 u47 u48 u49 u50 u51 u52 u53 u54 u55 u56 u57 u58 u59 u60 u61 u62 u63 u64 u65 u66 u67 u68 u69 u70 u71 u72 u73 u74 u75 u76 u77 u78 u79 u80 u81 u82 u83 u84 u85 u86 u87 u88 u89 u90 u91 u92 u93 u94 u95 u96 u97 u98 u99 u100 u101 u102 u103 u104 u105 u106 u107 u108 u109 u110 u111 u112 u113 u114 u115 u116 u117 u118 u119 u120 u121 u122 u123 u124 u125 u126 u127 u128 u129 u130 u131 u132 u133 u134 u135 u136 u137 u138 yg0_ yg1_ yg2_ yg3_ yg4_ yg5_ yg6_ yg7_ u147 u148 u149 u150 u151 u152 u153 u154 u155 u156 u157 u158 u159 u160 u161 u162 u163 u164 u165 u166 u167 u168 u169 u170 u171 u172 u173 u174 u175 u176 u177 u178 u179 u180 u181 u182 u183 u184 u185 u186 u187 u188 u189 u190 u191 u192 u193 u194 u195 u196 u197 u198 u199 u200 u201 u202 u203 u204 u205 u206 u207 u208 u209 u210 u211 u212 u213 u214 u215 u216 u217 u218 u219 u220 u221 u222 u223 u224 u225 u226 u227 u228 u229 u230 u231 u232 u233 u234 u235 u236 u237 u238 u239 u240 u241 u242 u243 u244 u245 u246 u247 u248 u249 u250 u251 u252 u253 u254 u255 u256 u257 u258 u259 u260 u261 u262 u263 u264 u265 u266 u267 u268 u269 u270 u271 u272 u273 u274 u275 wc1 bva bvk wc2 hin hwo hbv bSb xva xvk hxv c1 c2 hg1 hg2 hr1 hr2 hf1 hf3 q hf2 HQ0 yg8_ yg9_ yg10_ yg11_ b20 b22 HB20 HB22 s0 s1 s2 sl u139 u140 u141 u142 u143 u144 u145 u146
    exact Kcut.out
  ⟩
set_option maxRecDepth 100000 in
set_option maxHeartbeats 100000000 in
def errors_any_q6 : {P : Prop // P → errors_any_q5.1} := ⟨_, fun Kcut => by
  replace Kcut : Keep _ := ⟨Kcut⟩
  intro w n m a cap es ba sa bc sc qb qs hob hos hLb hLs i0 hi0 hi1 hi2 hi3 j0 hj0 hj1 hj2 hj3 cz HR HOK HLL HQB HQS HLB HLS ya0_ X W1 HXL V W2 wc3 HSM hb8 hs8 k2 k3 ya1_ ya2_ Sb hXS W4 HSB wo u6 u9 u10 ye0_ ye1_ ye2_ ye3_ ye4_ ye5_ ye6_ ye7_ ye8_ ye9_ ye10_ ye11_ ye12_ ye13_ ye14_ ye15_ ye16_ ye17_ ye18_ ye19_ ye20_ ye21_ ye22_ ye23_ ye24_ ye25_ ye26_ ye27_ ye28_ ye29_ ye30_ ye31_ ye32_ ye33_ ye34_ ye35_ ye36_ ye37_ ye38_ ye39_ ye40_ ye41_ ye42_ ye43_ ye44_ ye45_ ye46_ ye47_ ye48_ ye49_ ye50_ ye51_ ye52_ ye53_ ye54_ ye55_ ye56_ ye57_ ye58_ ye59_ ye60_ ye61_ ye62_ ye63_ ye64_ ye65_ i hl HL hL6 k1 hi hiL va vc yb0_ yb1_ chk sy hk2 want on tw HW HO HT yb2_ yb3_ yb4_ hiI yf0_ b16 wz ye66_ ye67_ ye68_ ye69_ ye70_ ye71_ u26 u27 u28 u29 u30 u31 u32 u33 u34 u35 u36 u37 u38 u39 u40 u41 u42 u43 u44 u45 u46 u47 u48 u49 u50 u51 u52 u53 u54 u55 u56 u57 u58 u59 u60 u61 u62 u63 u64 u65 u66 u67 u68 u69 u70 u71 u72 u73 u74 u75 u76 u77 u78 u79 u80 u81 u82 u83 u84 u85 u86 u87 u88 u89 u90 u91 u92 u93 u94 u95 u96 u97 u98 u99 u100 u101 u102 u103 u104 u105 u106 u107 u108 u109 u110 u111 u112 u113 u114 u115 u116 u117 u118 u119 u120 u121 u122 u123 u124 u125 u126 u127 u128 u129 u130 u131 u132 u133 u134 u135 u136 u137 u138 yg0_ yg1_ yg2_ yg3_ yg4_ yg5_ yg6_ yg7_ u147 u148 u149 u150 u151 u152 u153 u154 u155 u156 u157 u158 u159 u160 u161 u162 u163 u164 u165 u166 u167 u168 u169 u170 u171 u172 u173 u174 u175 u176 u177 u178 u179 u180 u181 u182 u183 u184 u185 u186 u187 u188 u189 u190 u191 u192 u193 u194 u195 u196 u197 u198 u199 u200 u201 u202 u203 u204 u205 u206 u207 u208 u209 u210 u211 u212 u213 u214 u215 u216 u217 u218 u219 u220 u221 u222 u223 u224 u225 u226 u227 u228 u229 u230 u231 u232 u233 u234 u235 u236 u237 u238 u239 u240 u241 u242 u243 u244 u245 u246 u247 u248 u249 u250 u251 u252 u253 u254 u255 u256 u257 u258 u259 u260 u261 u262 u263 u264 u265 u266 u267 u268 u269 u270 u271 u272 u273 u274 u275 wc1 bva bvk wc2 hin hwo hbv bSb xva xvk hxv c1 c2 hg1 hg2 hr1 hr2 hf1 hf3 q hf2 HQ0 yg8_ yg9_ yg10_ yg11_ b20 b22 HB20 HB22 s0 s1 s2 sl u139 u140 u141 u142 u143 u144 u145 u146
  go_upto_if 147 with fail
  go_cut [12] (fun v12 wx => v12 = .int .i64 on ∧ wc2 = wx)
  case first =>
    have ho9 : on = if b20 = true then 1 else want := by
      rw [HO.out, HB20.out]; unfold oneE; simp only [decide_eq_true_eq]
    have HO9 := Lib.hid ho9
    clear ho9
    rcases b20 with _ | _
    · go_wp2_with fail
      go_meet
      exact ⟨by rw [HO9.out]; rfl, rfl⟩
    · go_wp2_with fail
      go_meet
      exact ⟨by rw [HO9.out]; rfl, rfl⟩
  case rest =>
    obtain ⟨rfl, rfl⟩ := hcut
    clear HB20
    rename_i yh0_ yh1_ yh2_ yh3_ yh4_ yh5_ yh6_ yh7_ yh8_ yh9_ yh10_ yh11_ yh12_ yh13_ yh14_ yh15_ yh16_ yh17_ yh18_ yh19_ yh20_ yh21_ yh22_ yh23_ yh24_ yh25_ yh26_ yh27_ yh28_ yh29_ yh30_ yh31_ yh32_ yh33_ yh34_ yh35_ yh36_ yh37_ yh38_ yh39_ yh40_ yh41_ yh42_ yh43_ yh44_ yh45_ yh46_ yh47_ yh48_ yh49_ yh50_ yh51_ yh52_ yh53_ yh54_ yh55_ yh56_ yh57_ yh58_ yh59_ yh60_ yh61_ yh62_ yh63_ yh64_ yh65_ yh66_ yh67_ yh68_ yh69_ yh70_ yh71_ yh72_ yh73_ yh74_ yh75_ yh76_ yh77_ yh78_ yh79_ yh80_ yh81_ yh82_ yh83_ yh84_ yh85_ yh86_ yh87_ yh88_ yh89_ yh90_ yh91_ yh92_ yh93_ yh94_ yh95_ yh96_ yh97_ yh98_ yh99_ yh100_ yh101_ yh102_ yh103_ yh104_ yh105_ yh106_ yh107_ yh108_ yh109_ yh110_ yh111_ yh112_ yh113_ yh114_ yh115_ yh116_ yh117_ yh118_ yh119_ yh120_ yh121_ yh122_ yh123_ yh124_ yh125_ yh126_ yh127_ yh128_ yh129_ yh130_ yh131_ yh132_ yh133_ yh134_ yh135_ yh136_ yh137_ yh138_ yh139_ yh140_ yh141_ yh142_ yh143_ yh144_ yh145_ yh146_ yh147_ yh148_ yh149_ yh150_ yh151_ yh152_ yh153_ yh154_ yh155_ yh156_ yh157_ yh158_ yh159_ yh160_ yh161_ yh162_ yh163_ yh164_ yh165_ yh166_ yh167_ yh168_ yh169_ yh170_ yh171_ yh172_ yh173_ yh174_ yh175_ yh176_ yh177_ yh178_ yh179_ yh180_ yh181_ yh182_ yh183_ yh184_ yh185_ yh186_ yh187_ yh188_ yh189_ yh190_ yh191_ yh192_ yh193_ yh194_ yh195_ yh196_ yh197_ yh198_ yh199_ yh200_ yh201_ yh202_ yh203_ yh204_ yh205_ yh206_ yh207_ yh208_ yh209_ yh210_ yh211_ yh212_ yh213_ yh214_ yh215_ yh216_ yh217_ yh218_ yh219_ yh220_ yh221_ yh222_ yh223_ yh224_ yh225_ yh226_ yh227_ yh228_ yh229_ yh230_ yh231_ yh232_ yh233_ yh234_ yh235_ yh236_ yh237_ yh238_ yh239_ yh240_ yh241_ yh242_ yh243_ yh244_ yh245_ yh246_ yh247_ yh248_ yh249_
    revert w n m a cap es ba sa bc sc qb qs hob hos hLb hLs i0 hi0 hi1 hi2 hi3 j0 hj0 hj1 hj2 hj3 cz HR HOK HLL HQB HQS HLB HLS ya0_ X W1 HXL V W2 wc3 HSM hb8 hs8 k2 k3 ya1_ ya2_ Sb hXS W4 HSB wo u6 u9 u10 ye0_ ye1_ ye2_ ye3_ ye4_ ye5_ ye6_ ye7_ ye8_ ye9_ ye10_ ye11_ ye12_ ye13_ ye14_ ye15_ ye16_ ye17_ ye18_ ye19_ ye20_ ye21_ ye22_ ye23_ ye24_ ye25_ ye26_ ye27_ ye28_ ye29_ ye30_ ye31_ ye32_ ye33_ ye34_ ye35_ ye36_ ye37_ ye38_ ye39_ ye40_ ye41_ ye42_ ye43_ ye44_ ye45_ ye46_ ye47_ ye48_ ye49_ ye50_ ye51_ ye52_ ye53_ ye54_ ye55_ ye56_ ye57_ ye58_ ye59_ ye60_ ye61_ ye62_ ye63_ ye64_ ye65_ i hl HL hL6 k1 hi hiL va vc yb0_ yb1_ chk sy hk2 want on tw HW HO HT yb2_ yb3_ yb4_ hiI yf0_ b16 wz ye66_ ye67_ ye68_ ye69_ ye70_ ye71_ yh0_ yh1_ yh2_ yh3_ yh4_ yh5_ yh6_ yh7_ yh8_ yh9_ yh10_ yh11_ yh12_ yh13_ yh14_ yh15_ yh16_ yh17_ yh18_ yh19_ yh20_ yh21_ yh22_ yh23_ yh24_ yh25_ yh26_ yh27_ yh28_ yh29_ yh30_ yh31_ yh32_ yh33_ yh34_ yh35_ yh36_ yh37_ yh38_ yh39_ yh40_ yh41_ yh42_ yh43_ yh44_ yh45_ yh46_ yh47_ yh48_ yh49_ yh50_ yh51_ yh52_ yh53_ yh54_ yh55_ yh56_ yh57_ yh58_ yh59_ yh60_ yh61_ yh62_ yh63_ yh64_ yh65_ yh66_ yh67_ yh68_ yh69_ yh70_ yh71_ yh72_ yh73_ yh74_ yh75_ yh76_ yh77_ yh78_ yh79_ yh80_ yh81_ yh82_ yh83_ yh84_ yh85_ yh86_ yh87_ yh88_ yh89_ yh90_ yh91_ yh92_ yh93_ yh94_ yh95_ yh96_ yh97_ yh98_ yh99_ yh100_ yh101_ yh102_ yh103_ yh104_ yh105_ yh106_ yh107_ yh108_ yh109_ yh110_ yh111_ yh112_ yg0_ yg1_ yg2_ yg3_ yg4_ yg5_ yg6_ yg7_ yh113_ yh114_ yh115_ yh116_ yh117_ yh118_ yh119_ yh120_ yh121_ yh122_ yh123_ yh124_ yh125_ yh126_ yh127_ yh128_ yh129_ yh130_ yh131_ yh132_ yh133_ yh134_ yh135_ yh136_ yh137_ yh138_ yh139_ yh140_ yh141_ yh142_ yh143_ yh144_ yh145_ yh146_ yh147_ yh148_ yh149_ yh150_ yh151_ yh152_ yh153_ yh154_ yh155_ yh156_ yh157_ yh158_ yh159_ yh160_ yh161_ yh162_ yh163_ yh164_ yh165_ yh166_ yh167_ yh168_ yh169_ yh170_ yh171_ yh172_ yh173_ yh174_ yh175_ yh176_ yh177_ yh178_ yh179_ yh180_ yh181_ yh182_ yh183_ yh184_ yh185_ yh186_ yh187_ yh188_ yh189_ yh190_ yh191_ yh192_ yh193_ yh194_ yh195_ yh196_ yh197_ yh198_ yh199_ yh200_ yh201_ yh202_ yh203_ yh204_ yh205_ yh206_ yh207_ yh208_ yh209_ yh210_ yh211_ yh212_ yh213_ yh214_ yh215_ yh216_ yh217_ yh218_ yh219_ yh220_ yh221_ yh222_ yh223_ yh224_ yh225_ yh226_ yh227_ yh228_ yh229_ yh230_ yh231_ yh232_ yh233_ yh234_ yh235_ yh236_ yh237_ yh238_ yh239_ yh240_ yh241_ wc1 bva bvk wc2 hin hwo hbv bSb xva xvk hxv c1 c2 hg1 hg2 hr1 hr2 hf1 hf3 q hf2 HQ0 yg8_ yg9_ b20 b22 HB22 s0 s1 s2 sl yh242_ yh243_ yh244_ yh245_ yh246_ yh247_ yh248_ yh249_ u26 u27 u28 u29 u30 u31 u32 u33 u34 u35 u36 u37 u38 u39 u40 u41 u42 u43 u44 u45 u46 u47 u48 u49 u50 u51 u52 u53 u54 u55 u56 u57 u58 u59 u60 u61 u62 u63 u64 u65 u66 u67 u68 u69 u70 u71 u72 u73 u74 u75 u76 u77 u78 u79 u80 u81 u82 u83 u84 u85 u86 u87 u88 u89 u90 u91 u92 u93 u94 u95 u96 u97 u98 u99 u100 u101 u102 u103 u104 u105 u106 u107 u108 u109 u110 u111 u112 u113 u114 u115 u116 u117 u118 u119 u120 u121 u122 u123 u124 u125 u126 u127 u128 u129 u130 u131 u132 u133 u134 u135 u136 u137 u138 u139 u140 u141 u142 u143 u144 u145 u146 u147 u148 u149 u150 u151 u152 u153 u154 u155 u156 u157 u158 u159 u160 u161 u162 u163 u164 u165 u166 u167 u168 u169 u170 u171 u172 u173 u174 u175 u176 u177 u178 u179 u180 u181 u182 u183 u184 u185 u186 u187 u188 u189 u190 u191 u192 u193 u194 u195 u196 u197 u198 u199 u200 u201 u202 u203 u204 u205 u206 u207 u208 u209 u210 u211 u212 u213 u214 u215 u216 u217 u218 u219 u220 u221 u222 u223 u224 u225 u226 u227 u228 u229 u230 u231 u232 u233 u234 u235 u236 u237 u238 u239 u240 u241 u242 u243 u244 u245 u246 u247 u248 u249 u250 u251 u252 u253 u254 u255 u256 u257 u258 u259 u260 u261 u262 u263 u264 u265 u266 u267 u268 u269 u270 u271 u272 u273 u274 u275
    exact Kcut.out
  ⟩
set_option maxRecDepth 100000 in
set_option maxHeartbeats 100000000 in
def errors_any_q7 : {P : Prop // P → errors_any_q6.1} := ⟨_, fun Kcut => by
  replace Kcut : Keep _ := ⟨Kcut⟩
  intro w n m a cap es ba sa bc sc qb qs hob hos hLb hLs i0 hi0 hi1 hi2 hi3 j0 hj0 hj1 hj2 hj3 cz HR HOK HLL HQB HQS HLB HLS ya0_ X W1 HXL V W2 wc3 HSM hb8 hs8 k2 k3 ya1_ ya2_ Sb hXS W4 HSB wo u6 u9 u10 ye0_ ye1_ ye2_ ye3_ ye4_ ye5_ ye6_ ye7_ ye8_ ye9_ ye10_ ye11_ ye12_ ye13_ ye14_ ye15_ ye16_ ye17_ ye18_ ye19_ ye20_ ye21_ ye22_ ye23_ ye24_ ye25_ ye26_ ye27_ ye28_ ye29_ ye30_ ye31_ ye32_ ye33_ ye34_ ye35_ ye36_ ye37_ ye38_ ye39_ ye40_ ye41_ ye42_ ye43_ ye44_ ye45_ ye46_ ye47_ ye48_ ye49_ ye50_ ye51_ ye52_ ye53_ ye54_ ye55_ ye56_ ye57_ ye58_ ye59_ ye60_ ye61_ ye62_ ye63_ ye64_ ye65_ i hl HL hL6 k1 hi hiL va vc yb0_ yb1_ chk sy hk2 want on tw HW HO HT yb2_ yb3_ yb4_ hiI yf0_ b16 wz ye66_ ye67_ ye68_ ye69_ ye70_ ye71_ yh0_ yh1_ yh2_ yh3_ yh4_ yh5_ yh6_ yh7_ yh8_ yh9_ yh10_ yh11_ yh12_ yh13_ yh14_ yh15_ yh16_ yh17_ yh18_ yh19_ yh20_ yh21_ yh22_ yh23_ yh24_ yh25_ yh26_ yh27_ yh28_ yh29_ yh30_ yh31_ yh32_ yh33_ yh34_ yh35_ yh36_ yh37_ yh38_ yh39_ yh40_ yh41_ yh42_ yh43_ yh44_ yh45_ yh46_ yh47_ yh48_ yh49_ yh50_ yh51_ yh52_ yh53_ yh54_ yh55_ yh56_ yh57_ yh58_ yh59_ yh60_ yh61_ yh62_ yh63_ yh64_ yh65_ yh66_ yh67_ yh68_ yh69_ yh70_ yh71_ yh72_ yh73_ yh74_ yh75_ yh76_ yh77_ yh78_ yh79_ yh80_ yh81_ yh82_ yh83_ yh84_ yh85_ yh86_ yh87_ yh88_ yh89_ yh90_ yh91_ yh92_ yh93_ yh94_ yh95_ yh96_ yh97_ yh98_ yh99_ yh100_ yh101_ yh102_ yh103_ yh104_ yh105_ yh106_ yh107_ yh108_ yh109_ yh110_ yh111_ yh112_ yg0_ yg1_ yg2_ yg3_ yg4_ yg5_ yg6_ yg7_ yh113_ yh114_ yh115_ yh116_ yh117_ yh118_ yh119_ yh120_ yh121_ yh122_ yh123_ yh124_ yh125_ yh126_ yh127_ yh128_ yh129_ yh130_ yh131_ yh132_ yh133_ yh134_ yh135_ yh136_ yh137_ yh138_ yh139_ yh140_ yh141_ yh142_ yh143_ yh144_ yh145_ yh146_ yh147_ yh148_ yh149_ yh150_ yh151_ yh152_ yh153_ yh154_ yh155_ yh156_ yh157_ yh158_ yh159_ yh160_ yh161_ yh162_ yh163_ yh164_ yh165_ yh166_ yh167_ yh168_ yh169_ yh170_ yh171_ yh172_ yh173_ yh174_ yh175_ yh176_ yh177_ yh178_ yh179_ yh180_ yh181_ yh182_ yh183_ yh184_ yh185_ yh186_ yh187_ yh188_ yh189_ yh190_ yh191_ yh192_ yh193_ yh194_ yh195_ yh196_ yh197_ yh198_ yh199_ yh200_ yh201_ yh202_ yh203_ yh204_ yh205_ yh206_ yh207_ yh208_ yh209_ yh210_ yh211_ yh212_ yh213_ yh214_ yh215_ yh216_ yh217_ yh218_ yh219_ yh220_ yh221_ yh222_ yh223_ yh224_ yh225_ yh226_ yh227_ yh228_ yh229_ yh230_ yh231_ yh232_ yh233_ yh234_ yh235_ yh236_ yh237_ yh238_ yh239_ yh240_ yh241_ wc1 bva bvk wc2 hin hwo hbv bSb xva xvk hxv c1 c2 hg1 hg2 hr1 hr2 hf1 hf3 q hf2 HQ0 yg8_ yg9_ b20 b22 HB22 s0 s1 s2 sl yh242_ yh243_ yh244_ yh245_ yh246_ yh247_ yh248_ yh249_ u26 u27 u28 u29 u30 u31 u32 u33 u34 u35 u36 u37 u38 u39 u40 u41 u42 u43 u44 u45 u46 u47 u48 u49 u50 u51 u52 u53 u54 u55 u56 u57 u58 u59 u60 u61 u62 u63 u64 u65 u66 u67 u68 u69 u70 u71 u72 u73 u74 u75 u76 u77 u78 u79 u80 u81 u82 u83 u84 u85 u86 u87 u88 u89 u90 u91 u92 u93 u94 u95 u96 u97 u98 u99 u100 u101 u102 u103 u104 u105 u106 u107 u108 u109 u110 u111 u112 u113 u114 u115 u116 u117 u118 u119 u120 u121 u122 u123 u124 u125 u126 u127 u128 u129 u130 u131 u132 u133 u134 u135 u136 u137 u138 u139 u140 u141 u142 u143 u144 u145 u146 u147 u148 u149 u150 u151 u152 u153 u154 u155 u156 u157 u158 u159 u160 u161 u162 u163 u164 u165 u166 u167 u168 u169 u170 u171 u172 u173 u174 u175 u176 u177 u178 u179 u180 u181 u182 u183 u184 u185 u186 u187 u188 u189 u190 u191 u192 u193 u194 u195 u196 u197 u198 u199 u200 u201 u202 u203 u204 u205 u206 u207 u208 u209 u210 u211 u212 u213 u214 u215 u216 u217 u218 u219 u220 u221 u222 u223 u224 u225 u226 u227 u228 u229 u230 u231 u232 u233 u234 u235 u236 u237 u238 u239 u240 u241 u242 u243 u244 u245 u246 u247 u248 u249 u250 u251 u252 u253 u254 u255 u256 u257 u258 u259 u260 u261 u262 u263 u264 u265 u266 u267 u268 u269 u270 u271 u272 u273 u274 u275
  go_upto_region 22 with fail
  go_cut [163] from 148 to 163 (fun v163 wx => v163 = .bool b22 ∧ wc2 = wx)
  case first =>
    by_cases hw0 : want = 0
    · have HW0 := Lib.hid hw0
      have w1 : (want == 0) = true := by simpa using hw0
      clear hw0
      by_cases hbn : (qb.length : Int) = n
      · have k6 : ((qb.length : Int) != n) = false := by simp [hbn]
        have HBN := Lib.hid hbn
        clear hbn
        by_cases hsn : (qs.length : Int) = n
        · have k7 : ((qs.length : Int) != n) = false := by simp [hsn]
          have HSN := Lib.hid hsn
          clear hsn
          go_wp2_with fail
          go_meet
          exact ⟨by rw [HB22.out, decide_eq_false (fun h => h.2.elim (fun g => g HBN.out) (fun g => g HSN.out))], rfl⟩
        · have k7 : ((qs.length : Int) != n) = true := by simpa using hsn
          have HSN := Lib.hid hsn
          clear hsn
          go_wp2_with fail
          go_meet
          exact ⟨by rw [HB22.out, decide_eq_true ⟨HW0.out, .inr HSN.out⟩], rfl⟩
      · have k6 : ((qb.length : Int) != n) = true := by simpa using hbn
        have HBN := Lib.hid hbn
        clear hbn
        go_wp2_with fail
        go_meet
        exact ⟨by rw [HB22.out, decide_eq_true ⟨HW0.out, .inl HBN.out⟩], rfl⟩
    · have w1 : (want == 0) = false := by simpa using hw0
      have HW0 := Lib.hid hw0
      clear hw0
      go_wp2_with fail
      go_meet
      exact ⟨by rw [HB22.out, decide_eq_false (fun h => HW0.out h.1)], rfl⟩
  case rest =>
    obtain ⟨rfl, rfl⟩ := hcut
    rename_i yi0_ yi1_ yi2_ yi3_ yi4_ yi5_ yi6_ yi7_ yi8_ yi9_ yi10_ yi11_ yi12_ yi13_ yi14_ yi15_ yi16_ yi17_ yi18_
    revert w n m a cap es ba sa bc sc qb qs hob hos hLb hLs i0 hi0 hi1 hi2 hi3 j0 hj0 hj1 hj2 hj3 cz HR HOK HLL HQB HQS HLB HLS ya0_ X W1 HXL V W2 wc3 HSM hb8 hs8 k2 k3 ya1_ ya2_ Sb hXS W4 HSB wo u6 u9 u10 ye0_ ye1_ ye2_ ye3_ ye4_ ye5_ ye6_ ye7_ ye8_ ye9_ ye10_ ye11_ ye12_ ye13_ ye14_ ye15_ ye16_ ye17_ ye18_ ye19_ ye20_ ye21_ ye22_ ye23_ ye24_ ye25_ ye26_ ye27_ ye28_ ye29_ ye30_ ye31_ ye32_ ye33_ ye34_ ye35_ ye36_ ye37_ ye38_ ye39_ ye40_ ye41_ ye42_ ye43_ ye44_ ye45_ ye46_ ye47_ ye48_ ye49_ ye50_ ye51_ ye52_ ye53_ ye54_ ye55_ ye56_ ye57_ ye58_ ye59_ ye60_ ye61_ ye62_ ye63_ ye64_ ye65_ i hl HL hL6 k1 hi hiL va vc yb0_ yb1_ chk sy hk2 want on tw HW HO HT yb2_ yb3_ yb4_ hiI yf0_ b16 wz ye66_ ye67_ ye68_ ye69_ ye70_ ye71_ yh0_ yh1_ yh2_ yh3_ yh4_ yh5_ yh6_ yh7_ yh8_ yh9_ yh10_ yh11_ yh12_ yh13_ yh14_ yh15_ yh16_ yh17_ yh18_ yh19_ yh20_ yh21_ yh22_ yh23_ yh24_ yh25_ yh26_ yh27_ yh28_ yh29_ yh30_ yh31_ yh32_ yh33_ yh34_ yh35_ yh36_ yh37_ yh38_ yh39_ yh40_ yh41_ yh42_ yh43_ yh44_ yh45_ yh46_ yh47_ yh48_ yh49_ yh50_ yh51_ yh52_ yh53_ yh54_ yh55_ yh56_ yh57_ yh58_ yh59_ yh60_ yh61_ yh62_ yh63_ yh64_ yh65_ yh66_ yh67_ yh68_ yh69_ yh70_ yh71_ yh72_ yh73_ yh74_ yh75_ yh76_ yh77_ yh78_ yh79_ yh80_ yh81_ yh82_ yh83_ yh84_ yh85_ yh86_ yh87_ yh88_ yh89_ yh90_ yh91_ yh92_ yh93_ yh94_ yh95_ yh96_ yh97_ yh98_ yh99_ yh100_ yh101_ yh102_ yh103_ yh104_ yh105_ yh106_ yh107_ yh108_ yh109_ yh110_ yh111_ yh112_ yg0_ yg1_ yg2_ yg3_ yg4_ yg5_ yg6_ yg7_ yh113_ yh114_ yh115_ yh116_ yh117_ yh118_ yh119_ yh120_ yh121_ yh122_ yh123_ yh124_ yh125_ yh126_ yh127_ yh128_ yh129_ yh130_ yh131_ yh132_ yh133_ yh134_ yh135_ yh136_ yh137_ yh138_ yh139_ yh140_ yh141_ yh142_ yh143_ yh144_ yh145_ yh146_ yh147_ yh148_ yh149_ yh150_ yh151_ yh152_ yh153_ yh154_ yh155_ yh156_ yh157_ yh158_ yh159_ yh160_ yh161_ yh162_ yh163_ yh164_ yh165_ yh166_ yh167_ yh168_ yh169_ yh170_ yh171_ yh172_ yh173_ yh174_ yh175_ yh176_ yh177_ yh178_ yh179_ yh180_ yh181_ yh182_ yh183_ yh184_ yh185_ yh186_ yh187_ yh188_ yh189_ yh190_ yh191_ yh192_ yh193_ yh194_ yh195_ yh196_ yh197_ yh198_ yh199_ yh200_ yh201_ yh202_ yh203_ yh204_ yh205_ yh206_ yh207_ yh208_ yh209_ yh210_ yh211_ yh212_ yh213_ yh214_ yh215_ yh216_ yh217_ yh218_ yh219_ yh220_ yh221_ yh222_ yh223_ yh224_ yh225_ yh226_ yh227_ yh228_ yh229_ yh230_ yh231_ yh232_ yh233_ yh234_ yh235_ yh236_ yh237_ yh238_ yh239_ yh240_ yh241_ wc1 bva bvk wc2 hin hwo hbv bSb xva xvk hxv c1 c2 hg1 hg2 hr1 hr2 hf1 hf3 q hf2 HQ0 b20 b22 HB22 s0 s1 s2 sl yh242_ yh243_ yh244_ yh245_ yh246_ yh247_ yh248_ yh249_ u26 u27 u28 u29 u30 u31 u32 u33 u34 u35 u36 u37 u38 u39 u40 u41 u42 u43 u44 u45 u46 u47 u48 u49 u50 u51 u52 u53 u54 u55 u56 u57 u58 u59 u60 u61 u62 u63 u64 u65 u66 u67 u68 u69 u70 u71 u72 u73 u74 u75 u76 u77 u78 u79 u80 u81 u82 u83 u84 u85 u86 u87 u88 u89 u90 u91 u92 u93 u94 u95 u96 u97 u98 u99 u100 u101 u102 u103 u104 u105 u106 u107 u108 u109 u110 u111 u112 u113 u114 u115 u116 u117 u118 u119 u120 u121 u122 u123 u124 u125 u126 u127 u128 u129 u130 u131 u132 u133 u134 u135 u136 u137 u138 u139 u140 u141 u142 u143 u144 u145 u146 u147 yi0_ yi1_ yi2_ yi3_ yi4_ yi5_ yi6_ yi7_ yi8_ yi9_ yi10_ yi11_ yi12_ yi13_ yi14_ u163 u164 u165 u166 u167 u168 u169 u170 u171 u172 u173 u174 u175 u176 u177 u178 u179 u180 u181 u182 u183 u184 u185 u186 u187 u188 u189 u190 u191 u192 u193 u194 u195 u196 u197 u198 u199 u200 u201 u202 u203 u204 u205 u206 u207 u208 u209 u210 u211 u212 u213 u214 u215 u216 u217 u218 u219 u220 u221 u222 u223 u224 u225 u226 u227 u228 u229 u230 u231 u232 u233 u234 u235 u236 u237 u238 u239 u240 u241 u242 u243 u244 u245 u246 u247 u248 u249 u250 u251 u252 u253 u254 u255 u256 u257 u258 u259 u260 u261 u262 u263 u264 u265 u266 u267 u268 u269 u270 u271 u272 u273 u274 u275 yi15_ yi16_ yi17_ yi18_ u148 u149 u150 u151 u152 u153 u154 u155 u156 u157 u158 u159 u160 u161 u162
    exact Kcut.out
  ⟩
set_option maxRecDepth 100000 in
set_option maxHeartbeats 100000000 in
def errors_any_q8 : {P : Prop // P → errors_any_q7.1} := ⟨_, fun Kcut => by
  replace Kcut : Keep _ := ⟨Kcut⟩
  intro w n m a cap es ba sa bc sc qb qs hob hos hLb hLs i0 hi0 hi1 hi2 hi3 j0 hj0 hj1 hj2 hj3 cz HR HOK HLL HQB HQS HLB HLS ya0_ X W1 HXL V W2 wc3 HSM hb8 hs8 k2 k3 ya1_ ya2_ Sb hXS W4 HSB wo u6 u9 u10 ye0_ ye1_ ye2_ ye3_ ye4_ ye5_ ye6_ ye7_ ye8_ ye9_ ye10_ ye11_ ye12_ ye13_ ye14_ ye15_ ye16_ ye17_ ye18_ ye19_ ye20_ ye21_ ye22_ ye23_ ye24_ ye25_ ye26_ ye27_ ye28_ ye29_ ye30_ ye31_ ye32_ ye33_ ye34_ ye35_ ye36_ ye37_ ye38_ ye39_ ye40_ ye41_ ye42_ ye43_ ye44_ ye45_ ye46_ ye47_ ye48_ ye49_ ye50_ ye51_ ye52_ ye53_ ye54_ ye55_ ye56_ ye57_ ye58_ ye59_ ye60_ ye61_ ye62_ ye63_ ye64_ ye65_ i hl HL hL6 k1 hi hiL va vc yb0_ yb1_ chk sy hk2 want on tw HW HO HT yb2_ yb3_ yb4_ hiI yf0_ b16 wz ye66_ ye67_ ye68_ ye69_ ye70_ ye71_ yh0_ yh1_ yh2_ yh3_ yh4_ yh5_ yh6_ yh7_ yh8_ yh9_ yh10_ yh11_ yh12_ yh13_ yh14_ yh15_ yh16_ yh17_ yh18_ yh19_ yh20_ yh21_ yh22_ yh23_ yh24_ yh25_ yh26_ yh27_ yh28_ yh29_ yh30_ yh31_ yh32_ yh33_ yh34_ yh35_ yh36_ yh37_ yh38_ yh39_ yh40_ yh41_ yh42_ yh43_ yh44_ yh45_ yh46_ yh47_ yh48_ yh49_ yh50_ yh51_ yh52_ yh53_ yh54_ yh55_ yh56_ yh57_ yh58_ yh59_ yh60_ yh61_ yh62_ yh63_ yh64_ yh65_ yh66_ yh67_ yh68_ yh69_ yh70_ yh71_ yh72_ yh73_ yh74_ yh75_ yh76_ yh77_ yh78_ yh79_ yh80_ yh81_ yh82_ yh83_ yh84_ yh85_ yh86_ yh87_ yh88_ yh89_ yh90_ yh91_ yh92_ yh93_ yh94_ yh95_ yh96_ yh97_ yh98_ yh99_ yh100_ yh101_ yh102_ yh103_ yh104_ yh105_ yh106_ yh107_ yh108_ yh109_ yh110_ yh111_ yh112_ yg0_ yg1_ yg2_ yg3_ yg4_ yg5_ yg6_ yg7_ yh113_ yh114_ yh115_ yh116_ yh117_ yh118_ yh119_ yh120_ yh121_ yh122_ yh123_ yh124_ yh125_ yh126_ yh127_ yh128_ yh129_ yh130_ yh131_ yh132_ yh133_ yh134_ yh135_ yh136_ yh137_ yh138_ yh139_ yh140_ yh141_ yh142_ yh143_ yh144_ yh145_ yh146_ yh147_ yh148_ yh149_ yh150_ yh151_ yh152_ yh153_ yh154_ yh155_ yh156_ yh157_ yh158_ yh159_ yh160_ yh161_ yh162_ yh163_ yh164_ yh165_ yh166_ yh167_ yh168_ yh169_ yh170_ yh171_ yh172_ yh173_ yh174_ yh175_ yh176_ yh177_ yh178_ yh179_ yh180_ yh181_ yh182_ yh183_ yh184_ yh185_ yh186_ yh187_ yh188_ yh189_ yh190_ yh191_ yh192_ yh193_ yh194_ yh195_ yh196_ yh197_ yh198_ yh199_ yh200_ yh201_ yh202_ yh203_ yh204_ yh205_ yh206_ yh207_ yh208_ yh209_ yh210_ yh211_ yh212_ yh213_ yh214_ yh215_ yh216_ yh217_ yh218_ yh219_ yh220_ yh221_ yh222_ yh223_ yh224_ yh225_ yh226_ yh227_ yh228_ yh229_ yh230_ yh231_ yh232_ yh233_ yh234_ yh235_ yh236_ yh237_ yh238_ yh239_ yh240_ yh241_ wc1 bva bvk wc2 hin hwo hbv bSb xva xvk hxv c1 c2 hg1 hg2 hr1 hr2 hf1 hf3 q hf2 HQ0 b20 b22 HB22 s0 s1 s2 sl yh242_ yh243_ yh244_ yh245_ yh246_ yh247_ yh248_ yh249_ u26 u27 u28 u29 u30 u31 u32 u33 u34 u35 u36 u37 u38 u39 u40 u41 u42 u43 u44 u45 u46 u47 u48 u49 u50 u51 u52 u53 u54 u55 u56 u57 u58 u59 u60 u61 u62 u63 u64 u65 u66 u67 u68 u69 u70 u71 u72 u73 u74 u75 u76 u77 u78 u79 u80 u81 u82 u83 u84 u85 u86 u87 u88 u89 u90 u91 u92 u93 u94 u95 u96 u97 u98 u99 u100 u101 u102 u103 u104 u105 u106 u107 u108 u109 u110 u111 u112 u113 u114 u115 u116 u117 u118 u119 u120 u121 u122 u123 u124 u125 u126 u127 u128 u129 u130 u131 u132 u133 u134 u135 u136 u137 u138 u139 u140 u141 u142 u143 u144 u145 u146 u147 yi0_ yi1_ yi2_ yi3_ yi4_ yi5_ yi6_ yi7_ yi8_ yi9_ yi10_ yi11_ yi12_ yi13_ yi14_ u163 u164 u165 u166 u167 u168 u169 u170 u171 u172 u173 u174 u175 u176 u177 u178 u179 u180 u181 u182 u183 u184 u185 u186 u187 u188 u189 u190 u191 u192 u193 u194 u195 u196 u197 u198 u199 u200 u201 u202 u203 u204 u205 u206 u207 u208 u209 u210 u211 u212 u213 u214 u215 u216 u217 u218 u219 u220 u221 u222 u223 u224 u225 u226 u227 u228 u229 u230 u231 u232 u233 u234 u235 u236 u237 u238 u239 u240 u241 u242 u243 u244 u245 u246 u247 u248 u249 u250 u251 u252 u253 u254 u255 u256 u257 u258 u259 u260 u261 u262 u263 u264 u265 u266 u267 u268 u269 u270 u271 u272 u273 u274 u275 yi15_ yi16_ yi17_ yi18_ u148 u149 u150 u151 u152 u153 u154 u155 u156 u157 u158 u159 u160 u161 u162
  go_upto_if 163 with fail
  go_cut [13] (fun v13 wx => v13 = .int .i64 tw ∧ wc2 = wx)
  case first =>
    have ht9 : tw = if b22 = true then 1 else want := by
      rw [HT.out, HB22.out]; unfold twoE; simp only [decide_eq_true_eq]
    have HT9 := Lib.hid ht9
    clear ht9
    rcases b22 with _ | _
    · go_wp2_with fail
      go_meet
      exact ⟨by rw [HT9.out]; rfl, rfl⟩
    · go_wp2_with fail
      go_meet
      exact ⟨by rw [HT9.out]; rfl, rfl⟩
  case rest =>
    obtain ⟨rfl, rfl⟩ := hcut
    clear HB22
    rename_i yc0_ yc1_ yc2_ yc3_ yc4_ yc5_ yc6_ yc7_ yc8_ yc9_ yc10_ yc11_ yc12_ yc13_ yc14_ yc15_ yc16_ yc17_ yc18_ yc19_ yc20_ yc21_ yc22_ yc23_ yc24_ yc25_ yc26_ yc27_ yc28_ yc29_ yc30_ yc31_ yc32_ yc33_ yc34_ yc35_ yc36_ yc37_ yc38_ yc39_ yc40_ yc41_ yc42_ yc43_ yc44_ yc45_ yc46_ yc47_ yc48_ yc49_ yc50_ yc51_ yc52_ yc53_ yc54_ yc55_ yc56_ yc57_ yc58_ yc59_ yc60_ yc61_ yc62_ yc63_ yc64_ yc65_ yc66_ yc67_ yc68_ yc69_ yc70_ yc71_ yc72_ yc73_ yc74_ yc75_ yc76_ yc77_ yc78_ yc79_ yc80_ yc81_ yc82_ yc83_ yc84_ yc85_ yc86_ yc87_ yc88_ yc89_ yc90_ yc91_ yc92_ yc93_ yc94_ yc95_ yc96_ yc97_ yc98_ yc99_ yc100_ yc101_ yc102_ yc103_ yc104_ yc105_ yc106_ yc107_ yc108_ yc109_ yc110_ yc111_ yc112_ yc113_ yc114_ yc115_ yc116_ yc117_ yc118_ yc119_ yc120_ yc121_ yc122_ yc123_ yc124_ yc125_ yc126_ yc127_ yc128_ yc129_ yc130_ yc131_ yc132_ yc133_ yc134_ yc135_ yc136_ yc137_ yc138_ yc139_ yc140_ yc141_ yc142_ yc143_ yc144_ yc145_ yc146_ yc147_ yc148_ yc149_ yc150_ yc151_ yc152_ yc153_ yc154_ yc155_ yc156_ yc157_ yc158_ yc159_ yc160_ yc161_ yc162_ yc163_ yc164_ yc165_ yc166_ yc167_ yc168_ yc169_ yc170_ yc171_ yc172_ yc173_ yc174_ yc175_ yc176_ yc177_ yc178_ yc179_ yc180_ yc181_ yc182_ yc183_ yc184_ yc185_ yc186_ yc187_ yc188_ yc189_ yc190_ yc191_ yc192_ yc193_ yc194_ yc195_ yc196_ yc197_ yc198_ yc199_ yc200_ yc201_ yc202_ yc203_ yc204_ yc205_ yc206_ yc207_ yc208_ yc209_ yc210_ yc211_ yc212_ yc213_ yc214_ yc215_ yc216_ yc217_ yc218_ yc219_ yc220_ yc221_ yc222_ yc223_ yc224_ yc225_ yc226_ yc227_ yc228_ yc229_ yc230_ yc231_ yc232_ yc233_ yc234_ yc235_ yc236_ yc237_ yc238_ yc239_ yc240_ yc241_ yc242_ yc243_ yc244_ yc245_ yc246_ yc247_ yc248_ yc249_
    revert w n m a cap es ba sa bc sc qb qs hob hos hLb hLs i0 hi0 hi1 hi2 hi3 j0 hj0 hj1 hj2 hj3 cz HR HOK HLL HQB HQS HLB HLS ya0_ X W1 HXL V W2 wc3 HSM hb8 hs8 k2 k3 ya1_ ya2_ Sb hXS W4 HSB wo u6 u9 u10 ye0_ ye1_ ye2_ ye3_ ye4_ ye5_ ye6_ ye7_ ye8_ ye9_ ye10_ ye11_ ye12_ ye13_ ye14_ ye15_ ye16_ ye17_ ye18_ ye19_ ye20_ ye21_ ye22_ ye23_ ye24_ ye25_ ye26_ ye27_ ye28_ ye29_ ye30_ ye31_ ye32_ ye33_ ye34_ ye35_ ye36_ ye37_ ye38_ ye39_ ye40_ ye41_ ye42_ ye43_ ye44_ ye45_ ye46_ ye47_ ye48_ ye49_ ye50_ ye51_ ye52_ ye53_ ye54_ ye55_ ye56_ ye57_ ye58_ ye59_ ye60_ ye61_ ye62_ ye63_ ye64_ ye65_ i hl HL hL6 k1 hi hiL va vc yb0_ yb1_ chk sy hk2 want on tw HW HO HT yb2_ yb3_ yb4_ hiI yf0_ b16 wz ye66_ ye67_ ye68_ ye69_ ye70_ ye71_ yh0_ yh1_ yh2_ yh3_ yh4_ yh5_ yh6_ yh7_ yh8_ yh9_ yh10_ yh11_ yh12_ yh13_ yh14_ yh15_ yh16_ yh17_ yh18_ yh19_ yh20_ yh21_ yh22_ yh23_ yh24_ yh25_ yh26_ yh27_ yh28_ yh29_ yh30_ yh31_ yh32_ yh33_ yh34_ yh35_ yh36_ yh37_ yh38_ yh39_ yh40_ yh41_ yh42_ yh43_ yh44_ yh45_ yh46_ yh47_ yh48_ yh49_ yh50_ yh51_ yh52_ yh53_ yh54_ yh55_ yh56_ yh57_ yh58_ yh59_ yh60_ yh61_ yh62_ yh63_ yh64_ yh65_ yh66_ yh67_ yh68_ yh69_ yh70_ yh71_ yh72_ yh73_ yh74_ yh75_ yh76_ yh77_ yh78_ yh79_ yh80_ yh81_ yh82_ yh83_ yh84_ yh85_ yh86_ yh87_ yh88_ yh89_ yh90_ yh91_ yh92_ yh93_ yh94_ yh95_ yh96_ yh97_ yh98_ yh99_ yh100_ yh101_ yh102_ yh103_ yh104_ yh105_ yh106_ yh107_ yh108_ yh109_ yh110_ yh111_ yh112_ yg0_ yg1_ yg2_ yg3_ yg4_ yg5_ yg6_ yg7_ yh113_ yh114_ yh115_ yh116_ yh117_ yh118_ yh119_ yh120_ yh121_ yh122_ yh123_ yh124_ yh125_ yh126_ yh127_ yh128_ yh129_ yh130_ yh131_ yh132_ yh133_ yh134_ yh135_ yh136_ yh137_ yh138_ yh139_ yh140_ yh141_ yh142_ yh143_ yh144_ yh145_ yh146_ yh147_ yh148_ yh149_ yh150_ yh151_ yh152_ yh153_ yh154_ yh155_ yh156_ yh157_ yh158_ yh159_ yh160_ yh161_ yh162_ yh163_ yh164_ yh165_ yh166_ yh167_ yh168_ yh169_ yh170_ yh171_ yh172_ yh173_ yh174_ yh175_ yh176_ yh177_ yh178_ yh179_ yh180_ yh181_ yh182_ yh183_ yh184_ yh185_ yh186_ yh187_ yh188_ yh189_ yh190_ yh191_ yh192_ yh193_ yh194_ yh195_ yh196_ yh197_ yh198_ yh199_ yh200_ yh201_ yh202_ yh203_ yh204_ yh205_ yh206_ yh207_ yh208_ yh209_ yh210_ yh211_ yh212_ yh213_ yh214_ yh215_ yh216_ yh217_ yh218_ yh219_ yh220_ yh221_ yh222_ yh223_ yh224_ yh225_ yh226_ yh227_ yh228_ yh229_ yh230_ yh231_ yh232_ yh233_ yh234_ yh235_ yh236_ yh237_ yh238_ yh239_ yh240_ yh241_ wc1 bva bvk wc2 hin hwo hbv bSb xva xvk hxv c1 c2 hg1 hg2 hr1 hr2 hf1 hf3 q hf2 HQ0 b20 b22 s0 s1 s2 sl yh242_ yh243_ yh244_ yh245_ yh246_ yh247_ yh248_ yh249_ yc0_ yc1_ yc2_ yc3_ yc4_ yc5_ yc6_ yc7_ yc8_ yc9_ yc10_ yc11_ yc12_ yc13_ yc14_ yc15_ yc16_ yc17_ yc18_ yc19_ yc20_ yc21_ yc22_ yc23_ yc24_ yc25_ yc26_ yc27_ yc28_ yc29_ yc30_ yc31_ yc32_ yc33_ yc34_ yc35_ yc36_ yc37_ yc38_ yc39_ yc40_ yc41_ yc42_ yc43_ yc44_ yc45_ yc46_ yc47_ yc48_ yc49_ yc50_ yc51_ yc52_ yc53_ yc54_ yc55_ yc56_ yc57_ yc58_ yc59_ yc60_ yc61_ yc62_ yc63_ yc64_ yc65_ yc66_ yc67_ yc68_ yc69_ yc70_ yc71_ yc72_ yc73_ yc74_ yc75_ yc76_ yc77_ yc78_ yc79_ yc80_ yc81_ yc82_ yc83_ yc84_ yc85_ yc86_ yc87_ yc88_ yc89_ yc90_ yc91_ yc92_ yc93_ yc94_ yc95_ yc96_ yc97_ yc98_ yc99_ yc100_ yc101_ yc102_ yc103_ yc104_ yc105_ yc106_ yc107_ yc108_ yc109_ yc110_ yc111_ yc112_ yc113_ yc114_ yc115_ yc116_ yc117_ yc118_ yc119_ yc120_ yc121_ yi0_ yi1_ yi2_ yi3_ yi4_ yi5_ yi6_ yi7_ yi8_ yi9_ yi10_ yi11_ yi12_ yi13_ yi14_ yc122_ yc123_ yc124_ yc125_ yc126_ yc127_ yc128_ yc129_ yc130_ yc131_ yc132_ yc133_ yc134_ yc135_ yc136_ yc137_ yc138_ yc139_ yc140_ yc141_ yc142_ yc143_ yc144_ yc145_ yc146_ yc147_ yc148_ yc149_ yc150_ yc151_ yc152_ yc153_ yc154_ yc155_ yc156_ yc157_ yc158_ yc159_ yc160_ yc161_ yc162_ yc163_ yc164_ yc165_ yc166_ yc167_ yc168_ yc169_ yc170_ yc171_ yc172_ yc173_ yc174_ yc175_ yc176_ yc177_ yc178_ yc179_ yc180_ yc181_ yc182_ yc183_ yc184_ yc185_ yc186_ yc187_ yc188_ yc189_ yc190_ yc191_ yc192_ yc193_ yc194_ yc195_ yc196_ yc197_ yc198_ yc199_ yc200_ yc201_ yc202_ yc203_ yc204_ yc205_ yc206_ yc207_ yc208_ yc209_ yc210_ yc211_ yc212_ yc213_ yc214_ yc215_ yc216_ yc217_ yc218_ yc219_ yc220_ yc221_ yc222_ yc223_ yc224_ yc225_ yc226_ yc227_ yc228_ yc229_ yc230_ yc231_ yc232_ yc233_ yc234_ yi15_ yi16_ yc235_ yc236_ yc237_ yc238_ yc239_ yc240_ yc241_ yc242_ yc243_ yc244_ yc245_ yc246_ yc247_ yc248_ yc249_ u26 u27 u28 u29 u30 u31 u32 u33 u34 u35 u36 u37 u38 u39 u40 u41 u42 u43 u44 u45 u46 u47 u48 u49 u50 u51 u52 u53 u54 u55 u56 u57 u58 u59 u60 u61 u62 u63 u64 u65 u66 u67 u68 u69 u70 u71 u72 u73 u74 u75 u76 u77 u78 u79 u80 u81 u82 u83 u84 u85 u86 u87 u88 u89 u90 u91 u92 u93 u94 u95 u96 u97 u98 u99 u100 u101 u102 u103 u104 u105 u106 u107 u108 u109 u110 u111 u112 u113 u114 u115 u116 u117 u118 u119 u120 u121 u122 u123 u124 u125 u126 u127 u128 u129 u130 u131 u132 u133 u134 u135 u136 u137 u138 u139 u140 u141 u142 u143 u144 u145 u146 u147 u148 u149 u150 u151 u152 u153 u154 u155 u156 u157 u158 u159 u160 u161 u162 u163 u164 u165 u166 u167 u168 u169 u170 u171 u172 u173 u174 u175 u176 u177 u178 u179 u180 u181 u182 u183 u184 u185 u186 u187 u188 u189 u190 u191 u192 u193 u194 u195 u196 u197 u198 u199 u200 u201 u202 u203 u204 u205 u206 u207 u208 u209 u210 u211 u212 u213 u214 u215 u216 u217 u218 u219 u220 u221 u222 u223 u224 u225 u226 u227 u228 u229 u230 u231 u232 u233 u234 u235 u236 u237 u238 u239 u240 u241 u242 u243 u244 u245 u246 u247 u248 u249 u250 u251 u252 u253 u254 u255 u256 u257 u258 u259 u260 u261 u262 u263 u264 u265 u266 u267 u268 u269 u270 u271 u272 u273 u274 u275
    exact Kcut.out
  ⟩
set_option maxRecDepth 100000 in
set_option maxHeartbeats 100000000 in
def errors_any_q9 : {P : Prop // P → errors_any_q8.1} := ⟨_, fun Kcut => by
  replace Kcut : Keep _ := ⟨Kcut⟩
  intro w n m a cap es ba sa bc sc qb qs hob hos hLb hLs i0 hi0 hi1 hi2 hi3 j0 hj0 hj1 hj2 hj3 cz HR HOK HLL HQB HQS HLB HLS ya0_ X W1 HXL V W2 wc3 HSM hb8 hs8 k2 k3 ya1_ ya2_ Sb hXS W4 HSB wo u6 u9 u10 ye0_ ye1_ ye2_ ye3_ ye4_ ye5_ ye6_ ye7_ ye8_ ye9_ ye10_ ye11_ ye12_ ye13_ ye14_ ye15_ ye16_ ye17_ ye18_ ye19_ ye20_ ye21_ ye22_ ye23_ ye24_ ye25_ ye26_ ye27_ ye28_ ye29_ ye30_ ye31_ ye32_ ye33_ ye34_ ye35_ ye36_ ye37_ ye38_ ye39_ ye40_ ye41_ ye42_ ye43_ ye44_ ye45_ ye46_ ye47_ ye48_ ye49_ ye50_ ye51_ ye52_ ye53_ ye54_ ye55_ ye56_ ye57_ ye58_ ye59_ ye60_ ye61_ ye62_ ye63_ ye64_ ye65_ i hl HL hL6 k1 hi hiL va vc yb0_ yb1_ chk sy hk2 want on tw HW HO HT yb2_ yb3_ yb4_ hiI yf0_ b16 wz ye66_ ye67_ ye68_ ye69_ ye70_ ye71_ yh0_ yh1_ yh2_ yh3_ yh4_ yh5_ yh6_ yh7_ yh8_ yh9_ yh10_ yh11_ yh12_ yh13_ yh14_ yh15_ yh16_ yh17_ yh18_ yh19_ yh20_ yh21_ yh22_ yh23_ yh24_ yh25_ yh26_ yh27_ yh28_ yh29_ yh30_ yh31_ yh32_ yh33_ yh34_ yh35_ yh36_ yh37_ yh38_ yh39_ yh40_ yh41_ yh42_ yh43_ yh44_ yh45_ yh46_ yh47_ yh48_ yh49_ yh50_ yh51_ yh52_ yh53_ yh54_ yh55_ yh56_ yh57_ yh58_ yh59_ yh60_ yh61_ yh62_ yh63_ yh64_ yh65_ yh66_ yh67_ yh68_ yh69_ yh70_ yh71_ yh72_ yh73_ yh74_ yh75_ yh76_ yh77_ yh78_ yh79_ yh80_ yh81_ yh82_ yh83_ yh84_ yh85_ yh86_ yh87_ yh88_ yh89_ yh90_ yh91_ yh92_ yh93_ yh94_ yh95_ yh96_ yh97_ yh98_ yh99_ yh100_ yh101_ yh102_ yh103_ yh104_ yh105_ yh106_ yh107_ yh108_ yh109_ yh110_ yh111_ yh112_ yg0_ yg1_ yg2_ yg3_ yg4_ yg5_ yg6_ yg7_ yh113_ yh114_ yh115_ yh116_ yh117_ yh118_ yh119_ yh120_ yh121_ yh122_ yh123_ yh124_ yh125_ yh126_ yh127_ yh128_ yh129_ yh130_ yh131_ yh132_ yh133_ yh134_ yh135_ yh136_ yh137_ yh138_ yh139_ yh140_ yh141_ yh142_ yh143_ yh144_ yh145_ yh146_ yh147_ yh148_ yh149_ yh150_ yh151_ yh152_ yh153_ yh154_ yh155_ yh156_ yh157_ yh158_ yh159_ yh160_ yh161_ yh162_ yh163_ yh164_ yh165_ yh166_ yh167_ yh168_ yh169_ yh170_ yh171_ yh172_ yh173_ yh174_ yh175_ yh176_ yh177_ yh178_ yh179_ yh180_ yh181_ yh182_ yh183_ yh184_ yh185_ yh186_ yh187_ yh188_ yh189_ yh190_ yh191_ yh192_ yh193_ yh194_ yh195_ yh196_ yh197_ yh198_ yh199_ yh200_ yh201_ yh202_ yh203_ yh204_ yh205_ yh206_ yh207_ yh208_ yh209_ yh210_ yh211_ yh212_ yh213_ yh214_ yh215_ yh216_ yh217_ yh218_ yh219_ yh220_ yh221_ yh222_ yh223_ yh224_ yh225_ yh226_ yh227_ yh228_ yh229_ yh230_ yh231_ yh232_ yh233_ yh234_ yh235_ yh236_ yh237_ yh238_ yh239_ yh240_ yh241_ wc1 bva bvk wc2 hin hwo hbv bSb xva xvk hxv c1 c2 hg1 hg2 hr1 hr2 hf1 hf3 q hf2 HQ0 b20 b22 s0 s1 s2 sl yh242_ yh243_ yh244_ yh245_ yh246_ yh247_ yh248_ yh249_ yc0_ yc1_ yc2_ yc3_ yc4_ yc5_ yc6_ yc7_ yc8_ yc9_ yc10_ yc11_ yc12_ yc13_ yc14_ yc15_ yc16_ yc17_ yc18_ yc19_ yc20_ yc21_ yc22_ yc23_ yc24_ yc25_ yc26_ yc27_ yc28_ yc29_ yc30_ yc31_ yc32_ yc33_ yc34_ yc35_ yc36_ yc37_ yc38_ yc39_ yc40_ yc41_ yc42_ yc43_ yc44_ yc45_ yc46_ yc47_ yc48_ yc49_ yc50_ yc51_ yc52_ yc53_ yc54_ yc55_ yc56_ yc57_ yc58_ yc59_ yc60_ yc61_ yc62_ yc63_ yc64_ yc65_ yc66_ yc67_ yc68_ yc69_ yc70_ yc71_ yc72_ yc73_ yc74_ yc75_ yc76_ yc77_ yc78_ yc79_ yc80_ yc81_ yc82_ yc83_ yc84_ yc85_ yc86_ yc87_ yc88_ yc89_ yc90_ yc91_ yc92_ yc93_ yc94_ yc95_ yc96_ yc97_ yc98_ yc99_ yc100_ yc101_ yc102_ yc103_ yc104_ yc105_ yc106_ yc107_ yc108_ yc109_ yc110_ yc111_ yc112_ yc113_ yc114_ yc115_ yc116_ yc117_ yc118_ yc119_ yc120_ yc121_ yi0_ yi1_ yi2_ yi3_ yi4_ yi5_ yi6_ yi7_ yi8_ yi9_ yi10_ yi11_ yi12_ yi13_ yi14_ yc122_ yc123_ yc124_ yc125_ yc126_ yc127_ yc128_ yc129_ yc130_ yc131_ yc132_ yc133_ yc134_ yc135_ yc136_ yc137_ yc138_ yc139_ yc140_ yc141_ yc142_ yc143_ yc144_ yc145_ yc146_ yc147_ yc148_ yc149_ yc150_ yc151_ yc152_ yc153_ yc154_ yc155_ yc156_ yc157_ yc158_ yc159_ yc160_ yc161_ yc162_ yc163_ yc164_ yc165_ yc166_ yc167_ yc168_ yc169_ yc170_ yc171_ yc172_ yc173_ yc174_ yc175_ yc176_ yc177_ yc178_ yc179_ yc180_ yc181_ yc182_ yc183_ yc184_ yc185_ yc186_ yc187_ yc188_ yc189_ yc190_ yc191_ yc192_ yc193_ yc194_ yc195_ yc196_ yc197_ yc198_ yc199_ yc200_ yc201_ yc202_ yc203_ yc204_ yc205_ yc206_ yc207_ yc208_ yc209_ yc210_ yc211_ yc212_ yc213_ yc214_ yc215_ yc216_ yc217_ yc218_ yc219_ yc220_ yc221_ yc222_ yc223_ yc224_ yc225_ yc226_ yc227_ yc228_ yc229_ yc230_ yc231_ yc232_ yc233_ yc234_ yi15_ yi16_ yc235_ yc236_ yc237_ yc238_ yc239_ yc240_ yc241_ yc242_ yc243_ yc244_ yc245_ yc246_ yc247_ yc248_ yc249_ u26 u27 u28 u29 u30 u31 u32 u33 u34 u35 u36 u37 u38 u39 u40 u41 u42 u43 u44 u45 u46 u47 u48 u49 u50 u51 u52 u53 u54 u55 u56 u57 u58 u59 u60 u61 u62 u63 u64 u65 u66 u67 u68 u69 u70 u71 u72 u73 u74 u75 u76 u77 u78 u79 u80 u81 u82 u83 u84 u85 u86 u87 u88 u89 u90 u91 u92 u93 u94 u95 u96 u97 u98 u99 u100 u101 u102 u103 u104 u105 u106 u107 u108 u109 u110 u111 u112 u113 u114 u115 u116 u117 u118 u119 u120 u121 u122 u123 u124 u125 u126 u127 u128 u129 u130 u131 u132 u133 u134 u135 u136 u137 u138 u139 u140 u141 u142 u143 u144 u145 u146 u147 u148 u149 u150 u151 u152 u153 u154 u155 u156 u157 u158 u159 u160 u161 u162 u163 u164 u165 u166 u167 u168 u169 u170 u171 u172 u173 u174 u175 u176 u177 u178 u179 u180 u181 u182 u183 u184 u185 u186 u187 u188 u189 u190 u191 u192 u193 u194 u195 u196 u197 u198 u199 u200 u201 u202 u203 u204 u205 u206 u207 u208 u209 u210 u211 u212 u213 u214 u215 u216 u217 u218 u219 u220 u221 u222 u223 u224 u225 u226 u227 u228 u229 u230 u231 u232 u233 u234 u235 u236 u237 u238 u239 u240 u241 u242 u243 u244 u245 u246 u247 u248 u249 u250 u251 u252 u253 u254 u255 u256 u257 u258 u259 u260 u261 u262 u263 u264 u265 u266 u267 u268 u269 u270 u271 u272 u273 u274 u275
  have hro := In.self wc2
  skip
  ((go_wp2_with fail); (((with_reducible refine (hr1 _ hro).mono ?_))); (rintro e wc3 ⟨⟨ra1, rl1, rk1, rfl, hl1⟩, hb⟩); (clear s0 s1 s2 sl hr1); (replace hin := hin.call hb); (replace hwo := hwo.call hb); (replace hro := hro.call hb); (replace hbv := hbv.call hb); (replace hxv := hxv.call hb); (replace bSb := bSb.call hb); (clear hb))
  ((have s0 := bSb.c0); (have s1 := bSb.c1); (have s2 := bSb.c2); (have sl := bSb.lt))
  ((go_wp2_with fail); (((with_reducible refine (hr2 _ hro).mono ?_))); (rintro e wc4 ⟨⟨ra2, rl2, rk2, rfl, hl2⟩, hb⟩); (clear s0 s1 s2 sl hr2); (replace hin := hin.call hb); (replace hwo := hwo.call hb); (replace hro := hro.call hb); (replace hbv := hbv.call hb); (replace hxv := hxv.call hb); (replace bSb := bSb.call hb); (clear hb))
  ((have s0 := bSb.c0); (have s1 := bSb.c1); (have s2 := bSb.c2); (have sl := bSb.lt))
  ((go_wp2_with fail); (((with_reducible refine (hf1 _ hro).mono ?_))); (rintro e wc5 ⟨⟨ra3, rl3, rk3, rfl, hl3⟩, hb⟩); (clear s0 s1 s2 sl hf1); (replace hin := hin.call hb); (replace hwo := hwo.call hb); (replace hro := hro.call hb); (replace hbv := hbv.call hb); (replace hxv := hxv.call hb); (replace bSb := bSb.call hb); (clear hb))
  obtain ⟨Q1, Q2, Q3, Q4, Q5, hQ, hQ'⟩ : ∃ A1 A2 A3 A4 A5, fracV q = .agg #[.int .u64 A1, .string A2, .bool A3, .int .u64 A4, .string A5] ∧ fcs q = [.int .u64 A1, .string A2, .bool A3, .int .u64 A4, .string A5] := ⟨_, _, _, _, _, rfl, rfl⟩
  rw [hQ] at hf2
  have HQ' := Lib.hid hQ
  clear hQ hQ'
  ((have s0 := bSb.c0); (have s1 := bSb.c1); (have s2 := bSb.c2); (have sl := bSb.lt))
  ((go_wp2_with fail); (((with_reducible refine (hf2 _ hro).mono ?_))); (rintro e wc6 ⟨rfl, hb⟩); (clear s0 s1 s2 sl hf2); (replace hin := hin.call hb); (replace hwo := hwo.call hb); (replace hro := hro.call hb); (replace hbv := hbv.call hb); (replace hxv := hxv.call hb); (replace bSb := bSb.call hb); (clear hb))
  go_upto_region 28 with fail
  ((obtain ⟨Eb, hEb⟩ : ∃ z, z = wc6.heap.size := ⟨_, rfl⟩); (have bEb := Bx.new_at wc6 #[.int .u64 Q1, .string Q2, .bool Q3, .int .u64 Q4, .string Q5] 52 hEb); (replace hin := hin.alloc (.cells #[.int .u64 Q1, .string Q2, .bool Q3, .int .u64 Q4, .string Q5] 52)); (replace hwo := hwo.alloc (.cells #[.int .u64 Q1, .string Q2, .bool Q3, .int .u64 Q4, .string Q5] 52)); (replace hro := hro.alloc (.cells #[.int .u64 Q1, .string Q2, .bool Q3, .int .u64 Q4, .string Q5] 52)); (replace bSb := bSb.alloc (.cells #[.int .u64 Q1, .string Q2, .bool Q3, .int .u64 Q4, .string Q5] 52)); (replace hbv := hbv.call ((Below.refl _ _).alloc (Nat.le_refl _) (.cells #[.int .u64 Q1, .string Q2, .bool Q3, .int .u64 Q4, .string Q5] 52))); (replace hxv := hxv.call ((Below.refl _ _).alloc (Nat.le_refl _) (.cells #[.int .u64 Q1, .string Q2, .bool Q3, .int .u64 Q4, .string Q5] 52))); (rw [← hEb]); (clear hEb); (generalize wc6.alloc (.cells #[.int .u64 Q1, .string Q2, .bool Q3, .int .u64 Q4, .string Q5] 52) = W7 at *))
  ((have s0 := bSb.c0); (have s1 := bSb.c1); (have s2 := bSb.c2); (have sl := bSb.lt))
  ((go_wp2_with fail); (((with_reducible refine (hf3 _ hro).mono ?_))); (rintro e wc8 ⟨⟨ra4, rl4, rk4, rfl, hl4⟩, hb⟩); (clear s0 s1 s2 sl hf3); (replace hin := hin.call hb); (replace hwo := hwo.call hb); (replace hro := hro.call hb); (replace hbv := hbv.call hb); (replace hxv := hxv.call hb); (replace bSb := bSb.call hb); (replace bEb := bEb.call hb); (clear hb))
  have g1 := lgoes_any c1 on
  rw [hg1] at g1
  have g2 := lgoes_any c2 tw
  rw [hg2] at g2
  ((go_wp2_with fail); (((with_reducible refine (g1 _).mono ?_))); (rintro e wc9 ⟨rfl, hb⟩); (clear g1); (replace hin := hin.call hb); (replace hwo := hwo.call hb); (replace hro := hro.call hb); (replace hbv := hbv.call hb); (replace hxv := hxv.call hb); (replace bSb := bSb.call hb); (replace bEb := bEb.call hb); (clear hb))
  ((go_wp2_with fail); (((with_reducible refine (g2 _).mono ?_))); (rintro e wc10 ⟨rfl, hb⟩); (clear g2); (replace hin := hin.call hb); (replace hwo := hwo.call hb); (replace hro := hro.call hb); (replace hbv := hbv.call hb); (replace hxv := hxv.call hb); (replace bSb := bSb.call hb); (replace bEb := bEb.call hb); (clear hb))
  have HL1 := Lib.hid hl1
  have HL2 := Lib.hid hl2
  have HL3 := Lib.hid hl3
  have HL4 := Lib.hid hl4
  clear hl1 hl2 hl3 hl4
  rename_i yj0_ yj1_ yj2_ yj3_ yj4_ yj5_ yj6_
  revert w n m a cap es ba sa bc sc qb qs hob hos hLb hLs i0 hi0 hi1 hi2 hi3 j0 hj0 hj1 hj2 hj3 cz HR HOK HLL HQB HQS HLB HLS ya0_ X W1 HXL V W2 yj0_ HSM hb8 hs8 k2 k3 ya1_ ya2_ Sb hXS W4 HSB wo u6 u9 u10 ye0_ ye1_ ye2_ ye3_ ye4_ ye5_ ye6_ ye7_ ye8_ ye9_ ye10_ ye11_ ye12_ ye13_ ye14_ ye15_ ye16_ ye17_ ye18_ ye19_ ye20_ ye21_ ye22_ ye23_ ye24_ ye25_ ye26_ ye27_ ye28_ ye29_ ye30_ ye31_ ye32_ ye33_ ye34_ ye35_ ye36_ ye37_ ye38_ ye39_ ye40_ ye41_ ye42_ ye43_ ye44_ ye45_ ye46_ ye47_ ye48_ ye49_ ye50_ ye51_ ye52_ ye53_ ye54_ ye55_ ye56_ ye57_ ye58_ ye59_ ye60_ ye61_ ye62_ ye63_ ye64_ ye65_ i hl HL hL6 k1 hi hiL va vc yb0_ yb1_ chk sy hk2 want on tw HW HO HT yb2_ yb3_ yb4_ hiI yf0_ b16 wz ye66_ ye67_ ye68_ ye69_ ye70_ ye71_ yh0_ yh1_ yh2_ yh3_ yh4_ yh5_ yh6_ yh7_ yh8_ yh9_ yh10_ yh11_ yh12_ yh13_ yh14_ yh15_ yh16_ yh17_ yh18_ yh19_ yh20_ yh21_ yh22_ yh23_ yh24_ yh25_ yh26_ yh27_ yh28_ yh29_ yh30_ yh31_ yh32_ yh33_ yh34_ yh35_ yh36_ yh37_ yh38_ yh39_ yh40_ yh41_ yh42_ yh43_ yh44_ yh45_ yh46_ yh47_ yh48_ yh49_ yh50_ yh51_ yh52_ yh53_ yh54_ yh55_ yh56_ yh57_ yh58_ yh59_ yh60_ yh61_ yh62_ yh63_ yh64_ yh65_ yh66_ yh67_ yh68_ yh69_ yh70_ yh71_ yh72_ yh73_ yh74_ yh75_ yh76_ yh77_ yh78_ yh79_ yh80_ yh81_ yh82_ yh83_ yh84_ yh85_ yh86_ yh87_ yh88_ yh89_ yh90_ yh91_ yh92_ yh93_ yh94_ yh95_ yh96_ yh97_ yh98_ yh99_ yh100_ yh101_ yh102_ yh103_ yh104_ yh105_ yh106_ yh107_ yh108_ yh109_ yh110_ yh111_ yh112_ yg0_ yg1_ yg2_ yg3_ yg4_ yg5_ yg6_ yg7_ yh113_ yh114_ yh115_ yh116_ yh117_ yh118_ yh119_ yh120_ yh121_ yh122_ yh123_ yh124_ yh125_ yh126_ yh127_ yh128_ yh129_ yh130_ yh131_ yh132_ yh133_ yh134_ yh135_ yh136_ yh137_ yh138_ yh139_ yh140_ yh141_ yh142_ yh143_ yh144_ yh145_ yh146_ yh147_ yh148_ yh149_ yh150_ yh151_ yh152_ yh153_ yh154_ yh155_ yh156_ yh157_ yh158_ yh159_ yh160_ yh161_ yh162_ yh163_ yh164_ yh165_ yh166_ yh167_ yh168_ yh169_ yh170_ yh171_ yh172_ yh173_ yh174_ yh175_ yh176_ yh177_ yh178_ yh179_ yh180_ yh181_ yh182_ yh183_ yh184_ yh185_ yh186_ yh187_ yh188_ yh189_ yh190_ yh191_ yh192_ yh193_ yh194_ yh195_ yh196_ yh197_ yh198_ yh199_ yh200_ yh201_ yh202_ yh203_ yh204_ yh205_ yh206_ yh207_ yh208_ yh209_ yh210_ yh211_ yh212_ yh213_ yh214_ yh215_ yh216_ yh217_ yh218_ yh219_ yh220_ yh221_ yh222_ yh223_ yh224_ yh225_ yh226_ yh227_ yh228_ yh229_ yh230_ yh231_ yh232_ yh233_ yh234_ yh235_ yh236_ yh237_ yh238_ yh239_ yh240_ yh241_ wc1 bva bvk wc2 xva xvk c1 c2 hg1 hg2 q HQ0 b20 b22 yh242_ yh243_ yh244_ yh245_ yh246_ yh247_ yh248_ yh249_ yc0_ yc1_ yc2_ yc3_ yc4_ yc5_ yc6_ yc7_ yc8_ yc9_ yc10_ yc11_ yc12_ yc13_ yc14_ yc15_ yc16_ yc17_ yc18_ yc19_ yc20_ yc21_ yc22_ yc23_ yc24_ yc25_ yc26_ yc27_ yc28_ yc29_ yc30_ yc31_ yc32_ yc33_ yc34_ yc35_ yc36_ yc37_ yc38_ yc39_ yc40_ yc41_ yc42_ yc43_ yc44_ yc45_ yc46_ yc47_ yc48_ yc49_ yc50_ yc51_ yc52_ yc53_ yc54_ yc55_ yc56_ yc57_ yc58_ yc59_ yc60_ yc61_ yc62_ yc63_ yc64_ yc65_ yc66_ yc67_ yc68_ yc69_ yc70_ yc71_ yc72_ yc73_ yc74_ yc75_ yc76_ yc77_ yc78_ yc79_ yc80_ yc81_ yc82_ yc83_ yc84_ yc85_ yc86_ yc87_ yc88_ yc89_ yc90_ yc91_ yc92_ yc93_ yc94_ yc95_ yc96_ yc97_ yc98_ yc99_ yc100_ yc101_ yc102_ yc103_ yc104_ yc105_ yc106_ yc107_ yc108_ yc109_ yc110_ yc111_ yc112_ yc113_ yc114_ yc115_ yc116_ yc117_ yc118_ yc119_ yc120_ yc121_ yi0_ yi1_ yi2_ yi3_ yi4_ yi5_ yi6_ yi7_ yi8_ yi9_ yi10_ yi11_ yi12_ yi13_ yi14_ yc122_ yc123_ yc124_ yc125_ yc126_ yc127_ yc128_ yc129_ yc130_ yc131_ yc132_ yc133_ yc134_ yc135_ yc136_ yc137_ yc138_ yc139_ yc140_ yc141_ yc142_ yc143_ yc144_ yc145_ yc146_ yc147_ yc148_ yc149_ yc150_ yc151_ yc152_ yc153_ yc154_ yc155_ yc156_ yc157_ yc158_ yc159_ yc160_ yc161_ yc162_ yc163_ yc164_ yc165_ yc166_ yc167_ yc168_ yc169_ yc170_ yc171_ yc172_ yc173_ yc174_ yc175_ yc176_ yc177_ yc178_ yc179_ yc180_ yc181_ yc182_ yc183_ yc184_ yc185_ yc186_ yc187_ yc188_ yc189_ yc190_ yc191_ yc192_ yc193_ yc194_ yc195_ yc196_ yc197_ yc198_ yc199_ yc200_ yc201_ yc202_ yc203_ yc204_ yc205_ yc206_ yc207_ yc208_ yc209_ yc210_ yc211_ yc212_ yc213_ yc214_ yc215_ yc216_ yc217_ yc218_ yc219_ yc220_ yc221_ yc222_ yc223_ yc224_ yc225_ yc226_ yc227_ yc228_ yc229_ yc230_ yc231_ yc232_ yc233_ yc234_ yc235_ yc236_ yc237_ yc238_ yc239_ yc240_ yc241_ yc242_ yc243_ yc244_ yc245_ yc246_ yc247_ yc248_ yc249_ u26 u27 u28 u29 u30 u31 u32 u33 u34 u35 u36 u37 u38 u39 u40 u41 u42 u43 u44 u45 u46 u47 u48 u49 u50 u51 u52 u53 u54 u55 u56 u57 u58 u59 u60 u61 u62 u63 u64 u65 u66 u67 u68 u69 u70 u71 u72 u73 u74 u75 u76 u77 u78 u79 u80 u81 u82 u83 u84 u85 u86 u87 u88 u89 u90 u91 u92 u93 u94 u95 u96 u97 u98 u99 u100 u101 u102 u103 u104 u105 u106 u107 u108 u109 u110 u111 u112 u113 u114 u115 u116 u117 u118 u119 u120 u121 u122 u123 u124 u125 u126 u127 u128 u129 u130 u131 u132 u133 u134 u135 u136 u137 u138 u139 u140 u141 u142 u143 u144 u145 u146 u147 u148 u149 u150 u151 u152 u153 u154 u155 u156 u157 u158 u159 u160 u161 u162 u163 u164 u165 u166 u167 u168 u169 u170 u171 u172 u173 u174 u175 u176 u177 u178 u179 u180 u181 u182 u183 u184 u185 u186 u187 u188 u189 u190 u191 u192 u193 u194 u195 u196 u197 u198 u199 u200 u201 u202 u203 u204 u205 u206 u207 u208 u209 u210 u211 u212 u213 u214 u215 u216 u217 u218 u219 u220 u221 u222 u223 u224 u225 u226 u227 u228 u229 u230 u231 u232 u233 u234 u235 u236 u237 u238 u239 u240 u241 u242 u243 u244 u245 u246 u247 u248 u249 u250 u251 u252 u253 u254 u255 u256 u257 u258 u259 u260 u261 u262 u263 u264 u265 u266 u267 u268 u269 u270 u271 u272 u273 u274 u275 wc3 ra1 rl1 rk1 wc4 ra2 rl2 rk2 wc5 ra3 rl3 rk3 Q1 Q2 Q3 Q4 Q5 HQ' wc6 Eb W7 wc8 ra4 rl4 rk4 yj1_ yj2_ yj3_ yj4_ wc9 yj5_ yj6_ wc10 hin hwo hro hbv hxv bSb bEb HL1 HL2 HL3 HL4
  exact Kcut.out
  ⟩
set_option maxRecDepth 100000 in
set_option maxHeartbeats 100000000 in
def errors_any_q10 : {P : Prop // P → errors_any_q9.1} := ⟨_, fun Kcut => by
  replace Kcut : Keep _ := ⟨Kcut⟩
  intro w n m a cap es ba sa bc sc qb qs hob hos hLb hLs i0 hi0 hi1 hi2 hi3 j0 hj0 hj1 hj2 hj3 cz HR HOK HLL HQB HQS HLB HLS ya0_ X W1 HXL V W2 yj0_ HSM hb8 hs8 k2 k3 ya1_ ya2_ Sb hXS W4 HSB wo u6 u9 u10 ye0_ ye1_ ye2_ ye3_ ye4_ ye5_ ye6_ ye7_ ye8_ ye9_ ye10_ ye11_ ye12_ ye13_ ye14_ ye15_ ye16_ ye17_ ye18_ ye19_ ye20_ ye21_ ye22_ ye23_ ye24_ ye25_ ye26_ ye27_ ye28_ ye29_ ye30_ ye31_ ye32_ ye33_ ye34_ ye35_ ye36_ ye37_ ye38_ ye39_ ye40_ ye41_ ye42_ ye43_ ye44_ ye45_ ye46_ ye47_ ye48_ ye49_ ye50_ ye51_ ye52_ ye53_ ye54_ ye55_ ye56_ ye57_ ye58_ ye59_ ye60_ ye61_ ye62_ ye63_ ye64_ ye65_ i hl HL hL6 k1 hi hiL va vc yb0_ yb1_ chk sy hk2 want on tw HW HO HT yb2_ yb3_ yb4_ hiI yf0_ b16 wz ye66_ ye67_ ye68_ ye69_ ye70_ ye71_ yh0_ yh1_ yh2_ yh3_ yh4_ yh5_ yh6_ yh7_ yh8_ yh9_ yh10_ yh11_ yh12_ yh13_ yh14_ yh15_ yh16_ yh17_ yh18_ yh19_ yh20_ yh21_ yh22_ yh23_ yh24_ yh25_ yh26_ yh27_ yh28_ yh29_ yh30_ yh31_ yh32_ yh33_ yh34_ yh35_ yh36_ yh37_ yh38_ yh39_ yh40_ yh41_ yh42_ yh43_ yh44_ yh45_ yh46_ yh47_ yh48_ yh49_ yh50_ yh51_ yh52_ yh53_ yh54_ yh55_ yh56_ yh57_ yh58_ yh59_ yh60_ yh61_ yh62_ yh63_ yh64_ yh65_ yh66_ yh67_ yh68_ yh69_ yh70_ yh71_ yh72_ yh73_ yh74_ yh75_ yh76_ yh77_ yh78_ yh79_ yh80_ yh81_ yh82_ yh83_ yh84_ yh85_ yh86_ yh87_ yh88_ yh89_ yh90_ yh91_ yh92_ yh93_ yh94_ yh95_ yh96_ yh97_ yh98_ yh99_ yh100_ yh101_ yh102_ yh103_ yh104_ yh105_ yh106_ yh107_ yh108_ yh109_ yh110_ yh111_ yh112_ yg0_ yg1_ yg2_ yg3_ yg4_ yg5_ yg6_ yg7_ yh113_ yh114_ yh115_ yh116_ yh117_ yh118_ yh119_ yh120_ yh121_ yh122_ yh123_ yh124_ yh125_ yh126_ yh127_ yh128_ yh129_ yh130_ yh131_ yh132_ yh133_ yh134_ yh135_ yh136_ yh137_ yh138_ yh139_ yh140_ yh141_ yh142_ yh143_ yh144_ yh145_ yh146_ yh147_ yh148_ yh149_ yh150_ yh151_ yh152_ yh153_ yh154_ yh155_ yh156_ yh157_ yh158_ yh159_ yh160_ yh161_ yh162_ yh163_ yh164_ yh165_ yh166_ yh167_ yh168_ yh169_ yh170_ yh171_ yh172_ yh173_ yh174_ yh175_ yh176_ yh177_ yh178_ yh179_ yh180_ yh181_ yh182_ yh183_ yh184_ yh185_ yh186_ yh187_ yh188_ yh189_ yh190_ yh191_ yh192_ yh193_ yh194_ yh195_ yh196_ yh197_ yh198_ yh199_ yh200_ yh201_ yh202_ yh203_ yh204_ yh205_ yh206_ yh207_ yh208_ yh209_ yh210_ yh211_ yh212_ yh213_ yh214_ yh215_ yh216_ yh217_ yh218_ yh219_ yh220_ yh221_ yh222_ yh223_ yh224_ yh225_ yh226_ yh227_ yh228_ yh229_ yh230_ yh231_ yh232_ yh233_ yh234_ yh235_ yh236_ yh237_ yh238_ yh239_ yh240_ yh241_ wc1 bva bvk wc2 xva xvk c1 c2 hg1 hg2 q HQ0 b20 b22 yh242_ yh243_ yh244_ yh245_ yh246_ yh247_ yh248_ yh249_ yc0_ yc1_ yc2_ yc3_ yc4_ yc5_ yc6_ yc7_ yc8_ yc9_ yc10_ yc11_ yc12_ yc13_ yc14_ yc15_ yc16_ yc17_ yc18_ yc19_ yc20_ yc21_ yc22_ yc23_ yc24_ yc25_ yc26_ yc27_ yc28_ yc29_ yc30_ yc31_ yc32_ yc33_ yc34_ yc35_ yc36_ yc37_ yc38_ yc39_ yc40_ yc41_ yc42_ yc43_ yc44_ yc45_ yc46_ yc47_ yc48_ yc49_ yc50_ yc51_ yc52_ yc53_ yc54_ yc55_ yc56_ yc57_ yc58_ yc59_ yc60_ yc61_ yc62_ yc63_ yc64_ yc65_ yc66_ yc67_ yc68_ yc69_ yc70_ yc71_ yc72_ yc73_ yc74_ yc75_ yc76_ yc77_ yc78_ yc79_ yc80_ yc81_ yc82_ yc83_ yc84_ yc85_ yc86_ yc87_ yc88_ yc89_ yc90_ yc91_ yc92_ yc93_ yc94_ yc95_ yc96_ yc97_ yc98_ yc99_ yc100_ yc101_ yc102_ yc103_ yc104_ yc105_ yc106_ yc107_ yc108_ yc109_ yc110_ yc111_ yc112_ yc113_ yc114_ yc115_ yc116_ yc117_ yc118_ yc119_ yc120_ yc121_ yi0_ yi1_ yi2_ yi3_ yi4_ yi5_ yi6_ yi7_ yi8_ yi9_ yi10_ yi11_ yi12_ yi13_ yi14_ yc122_ yc123_ yc124_ yc125_ yc126_ yc127_ yc128_ yc129_ yc130_ yc131_ yc132_ yc133_ yc134_ yc135_ yc136_ yc137_ yc138_ yc139_ yc140_ yc141_ yc142_ yc143_ yc144_ yc145_ yc146_ yc147_ yc148_ yc149_ yc150_ yc151_ yc152_ yc153_ yc154_ yc155_ yc156_ yc157_ yc158_ yc159_ yc160_ yc161_ yc162_ yc163_ yc164_ yc165_ yc166_ yc167_ yc168_ yc169_ yc170_ yc171_ yc172_ yc173_ yc174_ yc175_ yc176_ yc177_ yc178_ yc179_ yc180_ yc181_ yc182_ yc183_ yc184_ yc185_ yc186_ yc187_ yc188_ yc189_ yc190_ yc191_ yc192_ yc193_ yc194_ yc195_ yc196_ yc197_ yc198_ yc199_ yc200_ yc201_ yc202_ yc203_ yc204_ yc205_ yc206_ yc207_ yc208_ yc209_ yc210_ yc211_ yc212_ yc213_ yc214_ yc215_ yc216_ yc217_ yc218_ yc219_ yc220_ yc221_ yc222_ yc223_ yc224_ yc225_ yc226_ yc227_ yc228_ yc229_ yc230_ yc231_ yc232_ yc233_ yc234_ yc235_ yc236_ yc237_ yc238_ yc239_ yc240_ yc241_ yc242_ yc243_ yc244_ yc245_ yc246_ yc247_ yc248_ yc249_ u26 u27 u28 u29 u30 u31 u32 u33 u34 u35 u36 u37 u38 u39 u40 u41 u42 u43 u44 u45 u46 u47 u48 u49 u50 u51 u52 u53 u54 u55 u56 u57 u58 u59 u60 u61 u62 u63 u64 u65 u66 u67 u68 u69 u70 u71 u72 u73 u74 u75 u76 u77 u78 u79 u80 u81 u82 u83 u84 u85 u86 u87 u88 u89 u90 u91 u92 u93 u94 u95 u96 u97 u98 u99 u100 u101 u102 u103 u104 u105 u106 u107 u108 u109 u110 u111 u112 u113 u114 u115 u116 u117 u118 u119 u120 u121 u122 u123 u124 u125 u126 u127 u128 u129 u130 u131 u132 u133 u134 u135 u136 u137 u138 u139 u140 u141 u142 u143 u144 u145 u146 u147 u148 u149 u150 u151 u152 u153 u154 u155 u156 u157 u158 u159 u160 u161 u162 u163 u164 u165 u166 u167 u168 u169 u170 u171 u172 u173 u174 u175 u176 u177 u178 u179 u180 u181 u182 u183 u184 u185 u186 u187 u188 u189 u190 u191 u192 u193 u194 u195 u196 u197 u198 u199 u200 u201 u202 u203 u204 u205 u206 u207 u208 u209 u210 u211 u212 u213 u214 u215 u216 u217 u218 u219 u220 u221 u222 u223 u224 u225 u226 u227 u228 u229 u230 u231 u232 u233 u234 u235 u236 u237 u238 u239 u240 u241 u242 u243 u244 u245 u246 u247 u248 u249 u250 u251 u252 u253 u254 u255 u256 u257 u258 u259 u260 u261 u262 u263 u264 u265 u266 u267 u268 u269 u270 u271 u272 u273 u274 u275 wc3 ra1 rl1 rk1 wc4 ra2 rl2 rk2 wc5 ra3 rl3 rk3 Q1 Q2 Q3 Q4 Q5 HQ' wc6 Eb W7 wc8 ra4 rl4 rk4 yj1_ yj2_ yj3_ yj4_ wc9 yj5_ yj6_ wc10 hin hwo hro hbv hxv bSb bEb HL1 HL2 HL3 HL4
  go_upto_region 31 with fail
  skip
  go_cut [258] from 222 to 258 (fun v258 wx => v258 = .bool false ∧ wc10 = wx)
  case first =>
    ((have e0 := bEb.c0); (have e1 := bEb.c1); (have e2 := bEb.c2); (have e3 := bEb.c3); (have e4 := bEb.c4); (have el := bEb.lt))
    rcases Decidable.em (c1 = 0) with h1 | h1
    · have p1 := HL1.out.1 h1
      have p1i : (0 : Int) < (rl1 : Int) := by omega
      subst h1
      rcases Decidable.em (c2 = 0) with h2 | h2
      · have p2 := HL3.out.1 h2
        have p2i : (0 : Int) < (rl3 : Int) := by omega
        subst h2
        rcases Decidable.em (tw = 0) with h3 | h3
        · subst h3
          go_wp2_with fail
          go_meet
          exact ⟨rfl, rfl⟩
        · have k8 : (tw != 0) = true := by simpa using h3
          have hq := HQ0.out h3
          have hrl4 := HL4.out h3
          subst hrl4
          have hcmp : ∀ W, (binOp .neq 52 (.agg #[.int .u64 Q1, .string Q2, .bool Q3, .int .u64 Q4, .string Q5]) (.agg #[.int .u64 0, .string ⟨#[]⟩, .bool false, .int .u64 0, .string ⟨#[]⟩])).run Tryz.prog W = .ok (.bool false) W := fun W => by
            have := fracNeq_run q 0 W
            rw [HQ'.out, hq] at this
            exact this
          clear h3
          go_wp2_with fail
          go_meet
          exact ⟨rfl, rfl⟩
      · have p2 : rl3 = 0 := by have := HL3.out; omega
        have q2 : (c2 == 0) = false := by simpa using h2
        subst p2
        clear h2
        rcases Decidable.em (tw = 0) with h3 | h3
        · subst h3
          go_wp2_with fail
          go_meet
          exact ⟨rfl, rfl⟩
        · have k8 : (tw != 0) = true := by simpa using h3
          have hq := HQ0.out h3
          have hrl4 := HL4.out h3
          subst hrl4
          have hcmp : ∀ W, (binOp .neq 52 (.agg #[.int .u64 Q1, .string Q2, .bool Q3, .int .u64 Q4, .string Q5]) (.agg #[.int .u64 0, .string ⟨#[]⟩, .bool false, .int .u64 0, .string ⟨#[]⟩])).run Tryz.prog W = .ok (.bool false) W := fun W => by
            have := fracNeq_run q 0 W
            rw [HQ'.out, hq] at this
            exact this
          clear h3
          go_wp2_with fail
          go_meet
          exact ⟨rfl, rfl⟩
    · have p1 : rl1 = 0 := by have := HL1.out; omega
      have p3 := HL2.out h1
      have q1 : (c1 == 0) = false := by simpa using h1
      have q3 : (c1 != 0) = true := by simpa using h1
      subst p1 p3
      clear h1
      rcases Decidable.em (c2 = 0) with h2 | h2
      · have p2 := HL3.out.1 h2
        have p2i : (0 : Int) < (rl3 : Int) := by omega
        subst h2
        rcases Decidable.em (tw = 0) with h3 | h3
        · subst h3
          go_wp2_with fail
          go_meet
          exact ⟨rfl, rfl⟩
        · have k8 : (tw != 0) = true := by simpa using h3
          have hq := HQ0.out h3
          have hrl4 := HL4.out h3
          subst hrl4
          have hcmp : ∀ W, (binOp .neq 52 (.agg #[.int .u64 Q1, .string Q2, .bool Q3, .int .u64 Q4, .string Q5]) (.agg #[.int .u64 0, .string ⟨#[]⟩, .bool false, .int .u64 0, .string ⟨#[]⟩])).run Tryz.prog W = .ok (.bool false) W := fun W => by
            have := fracNeq_run q 0 W
            rw [HQ'.out, hq] at this
            exact this
          clear h3
          go_wp2_with fail
          go_meet
          exact ⟨rfl, rfl⟩
      · have p2 : rl3 = 0 := by have := HL3.out; omega
        have q2 : (c2 == 0) = false := by simpa using h2
        subst p2
        clear h2
        rcases Decidable.em (tw = 0) with h3 | h3
        · subst h3
          go_wp2_with fail
          go_meet
          exact ⟨rfl, rfl⟩
        · have k8 : (tw != 0) = true := by simpa using h3
          have hq := HQ0.out h3
          have hrl4 := HL4.out h3
          subst hrl4
          have hcmp : ∀ W, (binOp .neq 52 (.agg #[.int .u64 Q1, .string Q2, .bool Q3, .int .u64 Q4, .string Q5]) (.agg #[.int .u64 0, .string ⟨#[]⟩, .bool false, .int .u64 0, .string ⟨#[]⟩])).run Tryz.prog W = .ok (.bool false) W := fun W => by
            have := fracNeq_run q 0 W
            rw [HQ'.out, hq] at this
            exact this
          clear h3
          go_wp2_with fail
          go_meet
          exact ⟨rfl, rfl⟩
  case rest =>
    rename_i yd0_ yd1_ yd2_ yd3_ yd4_ yd5_ yd6_ yd7_ yd8_ yd9_ yd10_ yd11_ yd12_ yd13_ yd14_ yd15_ yd16_ yd17_ yd18_ yd19_ yd20_ yd21_ yd22_ yd23_ yd24_ yd25_ yd26_ yd27_ yd28_ yd29_ yd30_ yd31_ yd32_ yd33_ yd34_ yd35_ yd36_ yd37_ yd38_ yd39_ yd40_
    revert w n m a cap es ba sa bc sc qb qs hob hos hLb hLs i0 hi0 hi1 hi2 hi3 j0 hj0 hj1 hj2 hj3 cz HR HOK HLL HQB HQS HLB HLS ya0_ X W1 HXL V W2 yj0_ HSM hb8 hs8 k2 k3 ya1_ ya2_ Sb hXS W4 HSB wo u6 u9 u10 ye0_ ye1_ ye2_ ye3_ ye4_ ye5_ ye6_ ye7_ ye8_ ye9_ ye10_ ye11_ ye12_ ye13_ ye14_ ye15_ ye16_ ye17_ ye18_ ye19_ ye20_ ye21_ ye22_ ye23_ ye24_ ye25_ ye26_ ye27_ ye28_ ye29_ ye30_ ye31_ ye32_ ye33_ ye34_ ye35_ ye36_ ye37_ ye38_ ye39_ ye40_ ye41_ ye42_ ye43_ ye44_ ye45_ ye46_ ye47_ ye48_ ye49_ ye50_ ye51_ ye52_ ye53_ ye54_ ye55_ ye56_ ye57_ ye58_ ye59_ ye60_ ye61_ ye62_ ye63_ ye64_ ye65_ i hl HL hL6 k1 hi hiL va vc yb0_ yb1_ chk sy hk2 want on tw HW HO HT yb2_ yb3_ yb4_ hiI yf0_ b16 wz ye66_ ye67_ ye68_ ye69_ ye70_ ye71_ yh0_ yh1_ yh2_ yh3_ yh4_ yh5_ yh6_ yh7_ yh8_ yh9_ yh10_ yh11_ yh12_ yh13_ yh14_ yh15_ yh16_ yh17_ yh18_ yh19_ yh20_ yh21_ yh22_ yh23_ yh24_ yh25_ yh26_ yh27_ yh28_ yh29_ yh30_ yh31_ yh32_ yh33_ yh34_ yh35_ yh36_ yh37_ yh38_ yh39_ yh40_ yh41_ yh42_ yh43_ yh44_ yh45_ yh46_ yh47_ yh48_ yh49_ yh50_ yh51_ yh52_ yh53_ yh54_ yh55_ yh56_ yh57_ yh58_ yh59_ yh60_ yh61_ yh62_ yh63_ yh64_ yh65_ yh66_ yh67_ yh68_ yh69_ yh70_ yh71_ yh72_ yh73_ yh74_ yh75_ yh76_ yh77_ yh78_ yh79_ yh80_ yh81_ yh82_ yh83_ yh84_ yh85_ yh86_ yh87_ yh88_ yh89_ yh90_ yh91_ yh92_ yh93_ yh94_ yh95_ yh96_ yh97_ yh98_ yh99_ yh100_ yh101_ yh102_ yh103_ yh104_ yh105_ yh106_ yh107_ yh108_ yh109_ yh110_ yh111_ yh112_ yg0_ yg1_ yg2_ yg3_ yg4_ yg5_ yg6_ yg7_ yh113_ yh114_ yh115_ yh116_ yh117_ yh118_ yh119_ yh120_ yh121_ yh122_ yh123_ yh124_ yh125_ yh126_ yh127_ yh128_ yh129_ yh130_ yh131_ yh132_ yh133_ yh134_ yh135_ yh136_ yh137_ yh138_ yh139_ yh140_ yh141_ yh142_ yh143_ yh144_ yh145_ yh146_ yh147_ yh148_ yh149_ yh150_ yh151_ yh152_ yh153_ yh154_ yh155_ yh156_ yh157_ yh158_ yh159_ yh160_ yh161_ yh162_ yh163_ yh164_ yh165_ yh166_ yh167_ yh168_ yh169_ yh170_ yh171_ yh172_ yh173_ yh174_ yh175_ yh176_ yh177_ yh178_ yh179_ yh180_ yh181_ yh182_ yh183_ yh184_ yh185_ yh186_ yh187_ yh188_ yh189_ yh190_ yh191_ yh192_ yh193_ yh194_ yh195_ yh196_ yh197_ yh198_ yh199_ yh200_ yh201_ yh202_ yh203_ yh204_ yh205_ yh206_ yh207_ yh208_ yh209_ yh210_ yh211_ yh212_ yh213_ yh214_ yh215_ yh216_ yh217_ yh218_ yh219_ yh220_ yh221_ yh222_ yh223_ yh224_ yh225_ yh226_ yh227_ yh228_ yh229_ yh230_ yh231_ yh232_ yh233_ yh234_ yh235_ yh236_ yh237_ yh238_ yh239_ yh240_ yh241_ wc1 bva bvk wc2 xva xvk c1 c2 hg1 hg2 q HQ0 b20 b22 yh242_ yh243_ yh244_ yh245_ yh246_ yh247_ yh248_ yh249_ yc0_ yc1_ yc2_ yc3_ yc4_ yc5_ yc6_ yc7_ yc8_ yc9_ yc10_ yc11_ yc12_ yc13_ yc14_ yc15_ yc16_ yc17_ yc18_ yc19_ yc20_ yc21_ yc22_ yc23_ yc24_ yc25_ yc26_ yc27_ yc28_ yc29_ yc30_ yc31_ yc32_ yc33_ yc34_ yc35_ yc36_ yc37_ yc38_ yc39_ yc40_ yc41_ yc42_ yc43_ yc44_ yc45_ yc46_ yc47_ yc48_ yc49_ yc50_ yc51_ yc52_ yc53_ yc54_ yc55_ yc56_ yc57_ yc58_ yc59_ yc60_ yc61_ yc62_ yc63_ yc64_ yc65_ yc66_ yc67_ yc68_ yc69_ yc70_ yc71_ yc72_ yc73_ yc74_ yc75_ yc76_ yc77_ yc78_ yc79_ yc80_ yc81_ yc82_ yc83_ yc84_ yc85_ yc86_ yc87_ yc88_ yc89_ yc90_ yc91_ yc92_ yc93_ yc94_ yc95_ yc96_ yc97_ yc98_ yc99_ yc100_ yc101_ yc102_ yc103_ yc104_ yc105_ yc106_ yc107_ yc108_ yc109_ yc110_ yc111_ yc112_ yc113_ yc114_ yc115_ yc116_ yc117_ yc118_ yc119_ yc120_ yc121_ yi0_ yi1_ yi2_ yi3_ yi4_ yi5_ yi6_ yi7_ yi8_ yi9_ yi10_ yi11_ yi12_ yi13_ yi14_ yc122_ yc123_ yc124_ yc125_ yc126_ yc127_ yc128_ yc129_ yc130_ yc131_ yc132_ yc133_ yc134_ yc135_ yc136_ yc137_ yc138_ yc139_ yc140_ yc141_ yc142_ yc143_ yc144_ yc145_ yc146_ yc147_ yc148_ yc149_ yc150_ yc151_ yc152_ yc153_ yc154_ yc155_ yc156_ yc157_ yc158_ yc159_ yc160_ yc161_ yc162_ yc163_ yc164_ yc165_ yc166_ yc167_ yc168_ yc169_ yc170_ yc171_ yc172_ yc173_ yc174_ yc175_ yc176_ yc177_ yc178_ yc179_ yc180_ yc181_ yc182_ yc183_ yc184_ yc185_ yc186_ yc187_ yc188_ yc189_ yc190_ yc191_ yc192_ yc193_ yc194_ yc195_ yc196_ yc197_ yc198_ yc199_ yc200_ yc201_ yc202_ yc203_ yc204_ yc205_ yc206_ yc207_ yc208_ yc209_ yc210_ yc211_ yc212_ yc213_ yc214_ yc215_ yc216_ yc217_ yc218_ yc219_ yc220_ yc221_ yc222_ yc223_ yc224_ yc225_ yc226_ yc227_ yc228_ yc229_ yc230_ yc231_ yc232_ yc233_ yc234_ yc235_ yc236_ yc237_ yc238_ yc239_ yc240_ yc241_ yc242_ yc243_ yc244_ yc245_ yc246_ yc247_ yc248_ yc249_ u26 u27 u28 u29 u30 u31 u32 u33 u34 u35 u36 u37 u38 u39 u40 u41 u42 u43 u44 u45 u46 u47 u48 u49 u50 u51 u52 u53 u54 u55 u56 u57 u58 u59 u60 u61 u62 u63 u64 u65 u66 u67 u68 u69 u70 u71 u72 u73 u74 u75 u76 u77 u78 u79 u80 u81 u82 u83 u84 u85 u86 u87 u88 u89 u90 u91 u92 u93 u94 u95 u96 u97 u98 u99 u100 u101 u102 u103 u104 u105 u106 u107 u108 u109 u110 u111 u112 u113 u114 u115 u116 u117 u118 u119 u120 u121 u122 u123 u124 u125 u126 u127 u128 u129 u130 u131 u132 u133 u134 u135 u136 u137 u138 u139 u140 u141 u142 u143 u144 u145 u146 u147 u148 u149 u150 u151 u152 u153 u154 u155 u156 u157 u158 u159 u160 u161 u162 u163 u164 u165 u166 u167 u168 u169 u170 u171 u172 u173 u174 u175 u176 u177 u178 u179 u180 u181 u182 u183 u184 u185 u186 u187 u188 u189 u190 u191 u192 u193 u194 u195 u196 u197 u198 u199 u200 u201 u202 u203 u204 u205 u206 u207 u208 u209 u210 u211 u212 u213 u214 u215 u216 u217 u218 u219 u220 u221 yd0_ yd1_ yd2_ yd3_ yd4_ yd5_ yd6_ yd7_ yd8_ yd9_ yd10_ yd11_ yd12_ yd13_ yd14_ yd15_ yd16_ yd17_ yd18_ yd19_ yd20_ yd21_ yd22_ yd23_ yd24_ yd25_ yd26_ yd27_ yd28_ yd29_ yd30_ yd31_ yd32_ yd33_ yd34_ yd35_ yd36_ u259 u260 u261 u262 u263 u264 u265 u266 u267 u268 u269 u270 u271 u272 u273 u274 u275 wc3 ra1 rl1 rk1 wc4 ra2 rl2 rk2 wc5 ra3 rl3 rk3 Q1 Q2 Q3 Q4 Q5 HQ' wc6 Eb W7 wc8 ra4 rl4 rk4 wc9 wc10 hin hwo hro hbv hxv bSb bEb HL1 HL2 HL3 HL4 yd37_ yd38_ yd39_ yd40_ wc u222 u223 u224 u225 u226 u227 u228 u229 u230 u231 u232 u233 u234 u235 u236 u237 u238 u239 u240 u241 u242 u243 u244 u245 u246 u247 u248 u249 u250 u251 u252 u253 u254 u255 u256 u257 u258 hcut
    exact Kcut.out
  ⟩
set_option maxRecDepth 100000 in
set_option maxHeartbeats 100000000 in
theorem errors_any_q11 : errors_any_q10.1 := by
  intro w n m a cap es ba sa bc sc qb qs hob hos hLb hLs i0 hi0 hi1 hi2 hi3 j0 hj0 hj1 hj2 hj3 cz HR HOK HLL HQB HQS HLB HLS ya0_ X W1 HXL V W2 yj0_ HSM hb8 hs8 k2 k3 ya1_ ya2_ Sb hXS W4 HSB wo u6 u9 u10 ye0_ ye1_ ye2_ ye3_ ye4_ ye5_ ye6_ ye7_ ye8_ ye9_ ye10_ ye11_ ye12_ ye13_ ye14_ ye15_ ye16_ ye17_ ye18_ ye19_ ye20_ ye21_ ye22_ ye23_ ye24_ ye25_ ye26_ ye27_ ye28_ ye29_ ye30_ ye31_ ye32_ ye33_ ye34_ ye35_ ye36_ ye37_ ye38_ ye39_ ye40_ ye41_ ye42_ ye43_ ye44_ ye45_ ye46_ ye47_ ye48_ ye49_ ye50_ ye51_ ye52_ ye53_ ye54_ ye55_ ye56_ ye57_ ye58_ ye59_ ye60_ ye61_ ye62_ ye63_ ye64_ ye65_ i hl HL hL6 k1 hi hiL va vc yb0_ yb1_ chk sy hk2 want on tw HW HO HT yb2_ yb3_ yb4_ hiI yf0_ b16 wz ye66_ ye67_ ye68_ ye69_ ye70_ ye71_ yh0_ yh1_ yh2_ yh3_ yh4_ yh5_ yh6_ yh7_ yh8_ yh9_ yh10_ yh11_ yh12_ yh13_ yh14_ yh15_ yh16_ yh17_ yh18_ yh19_ yh20_ yh21_ yh22_ yh23_ yh24_ yh25_ yh26_ yh27_ yh28_ yh29_ yh30_ yh31_ yh32_ yh33_ yh34_ yh35_ yh36_ yh37_ yh38_ yh39_ yh40_ yh41_ yh42_ yh43_ yh44_ yh45_ yh46_ yh47_ yh48_ yh49_ yh50_ yh51_ yh52_ yh53_ yh54_ yh55_ yh56_ yh57_ yh58_ yh59_ yh60_ yh61_ yh62_ yh63_ yh64_ yh65_ yh66_ yh67_ yh68_ yh69_ yh70_ yh71_ yh72_ yh73_ yh74_ yh75_ yh76_ yh77_ yh78_ yh79_ yh80_ yh81_ yh82_ yh83_ yh84_ yh85_ yh86_ yh87_ yh88_ yh89_ yh90_ yh91_ yh92_ yh93_ yh94_ yh95_ yh96_ yh97_ yh98_ yh99_ yh100_ yh101_ yh102_ yh103_ yh104_ yh105_ yh106_ yh107_ yh108_ yh109_ yh110_ yh111_ yh112_ yg0_ yg1_ yg2_ yg3_ yg4_ yg5_ yg6_ yg7_ yh113_ yh114_ yh115_ yh116_ yh117_ yh118_ yh119_ yh120_ yh121_ yh122_ yh123_ yh124_ yh125_ yh126_ yh127_ yh128_ yh129_ yh130_ yh131_ yh132_ yh133_ yh134_ yh135_ yh136_ yh137_ yh138_ yh139_ yh140_ yh141_ yh142_ yh143_ yh144_ yh145_ yh146_ yh147_ yh148_ yh149_ yh150_ yh151_ yh152_ yh153_ yh154_ yh155_ yh156_ yh157_ yh158_ yh159_ yh160_ yh161_ yh162_ yh163_ yh164_ yh165_ yh166_ yh167_ yh168_ yh169_ yh170_ yh171_ yh172_ yh173_ yh174_ yh175_ yh176_ yh177_ yh178_ yh179_ yh180_ yh181_ yh182_ yh183_ yh184_ yh185_ yh186_ yh187_ yh188_ yh189_ yh190_ yh191_ yh192_ yh193_ yh194_ yh195_ yh196_ yh197_ yh198_ yh199_ yh200_ yh201_ yh202_ yh203_ yh204_ yh205_ yh206_ yh207_ yh208_ yh209_ yh210_ yh211_ yh212_ yh213_ yh214_ yh215_ yh216_ yh217_ yh218_ yh219_ yh220_ yh221_ yh222_ yh223_ yh224_ yh225_ yh226_ yh227_ yh228_ yh229_ yh230_ yh231_ yh232_ yh233_ yh234_ yh235_ yh236_ yh237_ yh238_ yh239_ yh240_ yh241_ wc1 bva bvk wc2 xva xvk c1 c2 hg1 hg2 q HQ0 b20 b22 yh242_ yh243_ yh244_ yh245_ yh246_ yh247_ yh248_ yh249_ yc0_ yc1_ yc2_ yc3_ yc4_ yc5_ yc6_ yc7_ yc8_ yc9_ yc10_ yc11_ yc12_ yc13_ yc14_ yc15_ yc16_ yc17_ yc18_ yc19_ yc20_ yc21_ yc22_ yc23_ yc24_ yc25_ yc26_ yc27_ yc28_ yc29_ yc30_ yc31_ yc32_ yc33_ yc34_ yc35_ yc36_ yc37_ yc38_ yc39_ yc40_ yc41_ yc42_ yc43_ yc44_ yc45_ yc46_ yc47_ yc48_ yc49_ yc50_ yc51_ yc52_ yc53_ yc54_ yc55_ yc56_ yc57_ yc58_ yc59_ yc60_ yc61_ yc62_ yc63_ yc64_ yc65_ yc66_ yc67_ yc68_ yc69_ yc70_ yc71_ yc72_ yc73_ yc74_ yc75_ yc76_ yc77_ yc78_ yc79_ yc80_ yc81_ yc82_ yc83_ yc84_ yc85_ yc86_ yc87_ yc88_ yc89_ yc90_ yc91_ yc92_ yc93_ yc94_ yc95_ yc96_ yc97_ yc98_ yc99_ yc100_ yc101_ yc102_ yc103_ yc104_ yc105_ yc106_ yc107_ yc108_ yc109_ yc110_ yc111_ yc112_ yc113_ yc114_ yc115_ yc116_ yc117_ yc118_ yc119_ yc120_ yc121_ yi0_ yi1_ yi2_ yi3_ yi4_ yi5_ yi6_ yi7_ yi8_ yi9_ yi10_ yi11_ yi12_ yi13_ yi14_ yc122_ yc123_ yc124_ yc125_ yc126_ yc127_ yc128_ yc129_ yc130_ yc131_ yc132_ yc133_ yc134_ yc135_ yc136_ yc137_ yc138_ yc139_ yc140_ yc141_ yc142_ yc143_ yc144_ yc145_ yc146_ yc147_ yc148_ yc149_ yc150_ yc151_ yc152_ yc153_ yc154_ yc155_ yc156_ yc157_ yc158_ yc159_ yc160_ yc161_ yc162_ yc163_ yc164_ yc165_ yc166_ yc167_ yc168_ yc169_ yc170_ yc171_ yc172_ yc173_ yc174_ yc175_ yc176_ yc177_ yc178_ yc179_ yc180_ yc181_ yc182_ yc183_ yc184_ yc185_ yc186_ yc187_ yc188_ yc189_ yc190_ yc191_ yc192_ yc193_ yc194_ yc195_ yc196_ yc197_ yc198_ yc199_ yc200_ yc201_ yc202_ yc203_ yc204_ yc205_ yc206_ yc207_ yc208_ yc209_ yc210_ yc211_ yc212_ yc213_ yc214_ yc215_ yc216_ yc217_ yc218_ yc219_ yc220_ yc221_ yc222_ yc223_ yc224_ yc225_ yc226_ yc227_ yc228_ yc229_ yc230_ yc231_ yc232_ yc233_ yc234_ yc235_ yc236_ yc237_ yc238_ yc239_ yc240_ yc241_ yc242_ yc243_ yc244_ yc245_ yc246_ yc247_ yc248_ yc249_ u26 u27 u28 u29 u30 u31 u32 u33 u34 u35 u36 u37 u38 u39 u40 u41 u42 u43 u44 u45 u46 u47 u48 u49 u50 u51 u52 u53 u54 u55 u56 u57 u58 u59 u60 u61 u62 u63 u64 u65 u66 u67 u68 u69 u70 u71 u72 u73 u74 u75 u76 u77 u78 u79 u80 u81 u82 u83 u84 u85 u86 u87 u88 u89 u90 u91 u92 u93 u94 u95 u96 u97 u98 u99 u100 u101 u102 u103 u104 u105 u106 u107 u108 u109 u110 u111 u112 u113 u114 u115 u116 u117 u118 u119 u120 u121 u122 u123 u124 u125 u126 u127 u128 u129 u130 u131 u132 u133 u134 u135 u136 u137 u138 u139 u140 u141 u142 u143 u144 u145 u146 u147 u148 u149 u150 u151 u152 u153 u154 u155 u156 u157 u158 u159 u160 u161 u162 u163 u164 u165 u166 u167 u168 u169 u170 u171 u172 u173 u174 u175 u176 u177 u178 u179 u180 u181 u182 u183 u184 u185 u186 u187 u188 u189 u190 u191 u192 u193 u194 u195 u196 u197 u198 u199 u200 u201 u202 u203 u204 u205 u206 u207 u208 u209 u210 u211 u212 u213 u214 u215 u216 u217 u218 u219 u220 u221 yd0_ yd1_ yd2_ yd3_ yd4_ yd5_ yd6_ yd7_ yd8_ yd9_ yd10_ yd11_ yd12_ yd13_ yd14_ yd15_ yd16_ yd17_ yd18_ yd19_ yd20_ yd21_ yd22_ yd23_ yd24_ yd25_ yd26_ yd27_ yd28_ yd29_ yd30_ yd31_ yd32_ yd33_ yd34_ yd35_ yd36_ u259 u260 u261 u262 u263 u264 u265 u266 u267 u268 u269 u270 u271 u272 u273 u274 u275 wc3 ra1 rl1 rk1 wc4 ra2 rl2 rk2 wc5 ra3 rl3 rk3 Q1 Q2 Q3 Q4 Q5 HQ' wc6 Eb W7 wc8 ra4 rl4 rk4 wc9 wc10 hin hwo hro hbv hxv bSb bEb HL1 HL2 HL3 HL4 yd37_ yd38_ yd39_ yd40_ wc u222 u223 u224 u225 u226 u227 u228 u229 u230 u231 u232 u233 u234 u235 u236 u237 u238 u239 u240 u241 u242 u243 u244 u245 u246 u247 u248 u249 u250 u251 u252 u253 u254 u255 u256 u257 u258 hcut
  skip
  obtain ⟨rfl, rfl⟩ := hcut
  have cv1 := lvec_any wc10 ba bc qb.length qb (HQB.out.call hin.bel) hob (by omega) (by omega)
  ((go_wp2_with fail); (((with_reducible refine (cv1).mono ?_))); (rintro e wc11 ⟨⟨bw, rfl, hbw⟩, hb⟩); (clear cv1); (replace hin := hin.call hb); (replace hwo := hwo.call hb); (replace hro := hro.call hb); (replace hbv := hbv.call hb); (replace hxv := hxv.call hb); (replace bSb := bSb.call hb); (replace bEb := bEb.call hb); (clear hb))
  rw [mList_vl] at hbw
  obtain ⟨bwa, bwk, he⟩ := hbw.shape
  rw [vl_length] at he
  subst he
  have cs1 := vsame_any wc11 _ _ _ _ hbv hbw (by rw [vl_length]; omega)
  rw [decide_eq_true rfl] at cs1
  ((go_wp2_with fail); (((with_reducible refine (cs1).mono ?_))); (rintro e wc12 ⟨rfl, hb⟩); (clear cs1 hbw hbv); (replace hin := hin.call hb); (replace hwo := hwo.call hb); (replace hro := hro.call hb); (replace hxv := hxv.call hb); (replace bSb := bSb.call hb); (replace bEb := bEb.call hb); (clear hb))
  have cv1 := lvec_any wc12 sa sc qs.length qs (HQS.out.call hin.bel) hos (by omega) (by omega)
  ((go_wp2_with fail); (((with_reducible refine (cv1).mono ?_))); (rintro e wc13 ⟨⟨xw, rfl, hxw⟩, hb⟩); (clear cv1); (replace hin := hin.call hb); (replace hwo := hwo.call hb); (replace hro := hro.call hb); (replace hxv := hxv.call hb); (replace bSb := bSb.call hb); (replace bEb := bEb.call hb); (clear hb))
  rw [mList_vl] at hxw
  obtain ⟨xwa, xwk, he⟩ := hxw.shape
  rw [vl_length] at he
  subst he
  have cs1 := vsame_any wc13 _ _ _ _ hxv hxw (by rw [vl_length]; omega)
  rw [decide_eq_true rfl] at cs1
  ((go_wp2_with fail); (((with_reducible refine (cs1).mono ?_))); (rintro e wc14 ⟨rfl, hb⟩); (clear cs1 hxw hxv); (replace hin := hin.call hb); (replace hwo := hwo.call hb); (replace hro := hro.call hb); (replace bSb := bSb.call hb); (replace bEb := bEb.call hb); (clear hb))
  ((go_wp2_with fail); (((with_reducible refine (cz _).mono ?_))); (rintro e wc15 ⟨rfl, hb⟩); (skip); (replace hin := hin.call hb); (replace hwo := hwo.call hb); (replace hro := hro.call hb); (replace bSb := bSb.call hb); (replace bEb := bEb.call hb); (clear hb))
  go_wp2_with fail
  go_ret
  exact ⟨rfl, hin.bel⟩
set_option maxRecDepth 100000 in
set_option maxHeartbeats 100000000 in
theorem errors_any (w : World) (n m : Int) (a : Option Addr) (cap : Nat) (es : List (List EQ)) (hR : RawAt w a es) (hok : ∀ l ∈ es, EOk l) (hl : es.length ≤ maxLen) (hll : ∀ l ∈ es, l.length ≤ maxLen) (ba sa : Option Addr) (bc sc : Nat) (qb qs : List (Int × Int)) (hqb : QAt w ba qb) (hqs : QAt w sa qs) (hob : QOk qb) (hos : QOk qs) (hLb : qb.length ≤ maxLen) (hLs : qs.length ≤ maxLen) :
    Calls Tryz.prog 6 #[.agg #[.int .i64 n, .int .i64 m, .slice a es.length cap], .slice ba qb.length bc, .slice sa qs.length sc] w fun e w' => e = .returned (.bool true) ∧ Below w.heap.size w w' := (errors_any_q1.2 (errors_any_q2.2 (errors_any_q3.2 (errors_any_q4.2 (errors_any_q5.2 (errors_any_q6.2 (errors_any_q7.2 (errors_any_q8.2 (errors_any_q9.2 (errors_any_q10.2 errors_any_q11)))))))))) w n m a cap es hR hok hl hll ba sa bc sc qb qs hqb hqs hob hos hLb hLs
end Gus
end
