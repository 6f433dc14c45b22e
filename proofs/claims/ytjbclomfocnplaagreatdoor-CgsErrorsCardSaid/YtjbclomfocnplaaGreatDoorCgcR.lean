/- Proved here: parts of the proof: Cgc Cgx Cgd Cgs Wkc. Conditions: those that each theorem states. -/
import Derived.Test.YtjbclomfocnplaaGreatDoorRvlR
import Derived.Test.YtjbclomfocnplaaGreatDoorCgoR
import Derived.Test.YtjbclomfocnplaaGreatDoorMmuR
import Derived.Test.YtjbclomfocnplaaGreatDoorShelfVR
import Derived.Test.YtjbclomfocnplaaGreatDoorSameR
section
/- cgs: the outer functions on a valid symmetric matrix. -/
namespace Gus
open Go Go.RowKit Go.Proofs
theorem rawK_spm {w : World} {S : Value} {n m : Nat} {A : Nat → Nat → Rat} (h : SpM w S n n A) (hn : n ≤ 7) (hsy : Sym n A) (hz : ∀ i k, i < n → k < n → SzK m (A i k)) (hm : 0 < m) (hM : m ≤ 150000000000) : RawK w S 0 true := by
  refine ⟨fun W hW => scheck_ok (h.call hW.bel) (by omega) (by omega), fun W hW => ?_⟩
  have h2 := spm_dense (h.call hW.bel)
  have hq : n * n * (m + 1) ≤ 49 * (m + 1) := Nat.mul_le_mul_right _ (Nat.mul_le_mul hn hn)
  have := symm_any (j := m) W S n n _ h2 (by omega) (by omega) (fun i k => dense_szk hz hm _) (by omega)
  rw [show sameM n n (mvals n (dense n n A)) n n (fun k i => mvals n (dense n n A) i k) = true from sameM_self fun i k hi hk => by
    rw [mvals_dense _ hi hk, mvals_dense _ hk hi]; exact hsy i k hi hk] at this
  exact this
theorem beginE_zero {n a b : Nat} (ha : a = n) (hb : b = n) (hn : n ≤ 2048) : beginE 0 true [a, b] (n : Int) = 0 := by
  subst ha hb
  have : ¬ 2048 < b := by omega
  simp [beginE, this]
theorem beginE_zero1 {n a : Nat} (ha : a = n) (hn : n ≤ 2048) : beginE 0 true [a] (n : Int) = 0 := by
  subst ha
  have : ¬ 2048 < a := by omega
  simp [beginE, this]
section
variable {n m : Nat} {A : Nat → Nat → Rat} {b : Vc} {s0 : Cg}
/-- what a run gives -/
def RunP (n : Nat) (A : Nat → Nat → Rat) (b : Vc) (s0 : Cg) (v : Value) (w : World) : Prop :=
  (∃ j d, Fin n A s0 j ∧ v = .tuple #[d, .int .i64 0] ∧ StepsAt w d n (j + 1) (runD n A b s0 j)) ∨ ((¬ ∃ j, Fin n A s0 j) ∧ v = .tuple #[.slice none 0 0, .int .i64 11])
theorem RunP.stable : Stable (RunP n A b s0) := fun v w w' h hs => by
  rcases h with ⟨j, d, h1, h2, h3⟩ | h
  · exact .inl ⟨j, d, h1, h2, h3.call hs⟩
  · exact .inr h
theorem RunP.tup {v : Value} {w : World} (h : RunP n A b s0 v w) : TupP (RunP n A b s0) v w := by
  refine ⟨?_, h⟩
  rcases h with ⟨j, d, _, rfl, h3⟩ | ⟨_, rfl⟩
  · obtain ⟨a, cap, rfl, _⟩ := h3
    exact ⟨_, _, _, _, rfl⟩
  · exact ⟨_, _, _, _, rfl⟩
theorem from_vl (w : World) (S bv xv : Value) (hS : SpM w S n n A) (hsy : Sym n A) (hb : VecAt w bv (vl n b)) (hx : VecAt w xv (vl n s0.x)) (h0r : ∀ i, i < n → s0.r i = b i - mv n A s0.x i) (h0p : s0.p = s0.r) (hz : RunS n m A b s0) :
    Calls Tryz.prog 16 #[S, bv, xv] w fun e w' => (∃ v, e = .returned v ∧ RunP n A b s0 v w') ∧ Below w.heap.size w w' := by
  have hn := hz.hn
  have hk := rawK_spm (m := m) hS hn hsy hz.hA.szk (by have := hz.hm; omega) hz.hM
  obtain ⟨ra, rc, rfl⟩ := hS.shape
  obtain ⟨ba, bc, rfl⟩ := hb.shape
  obtain ⟨xa, xc, rfl⟩ := hx.shape
  rw [vl_length] at hb hx ⊢
  rw [vl_length]
  refine (from_ok w n n ra n rc ba xa n bc n xc 0 true hk (beginE_zero rfl rfl (by omega)) (vl n s0.x) hx (by rw [vl_length]; omega) (RunP n A b s0) RunP.stable fun W d hW hd => ?_).mono fun e w' ⟨⟨v, h1, h2⟩, h3⟩ => ⟨⟨v, h1, h2.2⟩, h3⟩
  refine (crun_vl (m := m) W _ d ⟨ra, rc, ba, bc, rfl, hS.call hW.bel, hb.call hW.bel⟩ hd h0r h0p hz).mono fun e w' ⟨h1, h2⟩ => ⟨?_, h2⟩
  rcases h1 with ⟨j, v, h1, rfl, h3⟩ | ⟨h1, rfl⟩
  · exact ⟨_, rfl, RunP.tup (.inl ⟨j, v, h1, rfl, h3⟩)⟩
  · exact ⟨_, rfl, RunP.tup (.inr ⟨h1, rfl⟩)⟩
theorem vl_zero (n : Nat) : vl n (fun _ => 0) = List.replicate n 0 := by
  unfold vl; rw [List.map_const']; simp
theorem run_vl (w : World) (S bv : Value) (hS : SpM w S n n A) (hsy : Sym n A) (hb : VecAt w bv (vl n b)) (hx : s0.x = fun _ => 0) (h0r : ∀ i, i < n → s0.r i = b i - mv n A s0.x i) (h0p : s0.p = s0.r) (hz : RunS n m A b s0) :
    Calls Tryz.prog 34 #[S, bv] w fun e w' => (∃ v, e = .returned v ∧ RunP n A b s0 v w') ∧ Below w.heap.size w w' := by
  have hn := hz.hn
  have hk := rawK_spm (m := m) hS hn hsy hz.hA.szk (by have := hz.hm; omega) hz.hM
  obtain ⟨ra, rc, rfl⟩ := hS.shape
  obtain ⟨ba, bc, rfl⟩ := hb.shape
  rw [vl_length] at hb ⊢
  refine (run_ok w n n ra n rc ba n bc 0 true hk (beginE_zero1 rfl (by omega)) (by omega) (RunP n A b s0) RunP.stable fun W d hW hd => ?_).mono fun e w' ⟨⟨v, h1, h2⟩, h3⟩ => ⟨⟨v, h1, h2.2⟩, h3⟩
  rw [← vl_zero, ← hx] at hd
  refine (crun_vl (m := m) W _ d ⟨ra, rc, ba, bc, rfl, hS.call hW.bel, hb.call hW.bel⟩ hd h0r h0p hz).mono fun e w' ⟨h1, h2⟩ => ⟨?_, h2⟩
  rcases h1 with ⟨j, v, h1, rfl, h3⟩ | ⟨h1, rfl⟩
  · exact ⟨_, rfl, RunP.tup (.inl ⟨j, v, h1, rfl, h3⟩)⟩
  · exact ⟨_, rfl, RunP.tup (.inr ⟨h1, rfl⟩)⟩
/-- what Solve gives -/
def SolP (n : Nat) (A : Nat → Nat → Rat) (s0 : Cg) (v : Value) (w : World) : Prop :=
  (∃ j d, Fin n A s0 j ∧ v = .tuple #[d, .int .i64 0] ∧ VecAt w d (vl n (s0.at n A j).x)) ∨ ((¬ ∃ j, Fin n A s0 j) ∧ v = .tuple #[.slice none 0 0, .int .i64 11])
theorem solve_vl (w : World) (S bv : Value) (hS : SpM w S n n A) (hsy : Sym n A) (hb : VecAt w bv (vl n b)) (hx : s0.x = fun _ => 0) (h0r : ∀ i, i < n → s0.r i = b i - mv n A s0.x i) (h0p : s0.p = s0.r) (hz : RunS n m A b s0) :
    Calls Tryz.prog 39 #[S, bv] w fun e w' => (∃ v, e = .returned v ∧ SolP n A s0 v w') ∧ Below w.heap.size w w' := by
  have hrun := fun W (hW : In w.heap.size w W) => run_vl (m := m) W S bv (hS.call hW.bel) hsy (hb.call hW.bel) hx h0r h0p hz
  obtain ⟨ra, rc, rfl⟩ := hS.shape
  by_cases hj : ∃ j, Fin n A s0 j
  · obtain ⟨j, hj⟩ := hj
    refine (solve_ok (k := n) (j := j) (F := runD n A b s0 j) w n n ra n rc bv (by have := hj.1; have := hz.hn; omega) fun W hW => (hrun W hW).mono fun e w' ⟨⟨v, h1, h2⟩, h3⟩ => ⟨?_, h3⟩).mono fun e w' ⟨⟨d, h1, h2⟩, h3⟩ => ⟨⟨_, h1, .inl ⟨j, d, hj, rfl, h2⟩⟩, h3⟩
    rcases h2 with ⟨j', d, h4, rfl, h5⟩ | ⟨h4, _⟩
    · obtain rfl := h4.unique hj
      exact ⟨d, h1, h5⟩
    · exact absurd ⟨j, hj⟩ h4
  · refine (solve_bad (E := 11) w n n ra n rc bv (by decide) fun W hW => (hrun W hW).mono fun e w' ⟨⟨v, h1, h2⟩, h3⟩ => ⟨?_, h3⟩).mono fun e w' ⟨h1, h3⟩ => ⟨⟨_, h1, .inr ⟨hj, rfl⟩⟩, h3⟩
    rcases h2 with ⟨j', d, h4, _⟩ | ⟨_, rfl⟩
    · exact absurd ⟨j', h4⟩ hj
    · exact h1
/-- Left, Energy: the sizes of the matrix, the right-hand side and the vector -/
structure OneS (n m : Nat) (A : Nat → Nat → Rat) (b x : Vc) : Prop where
  hn : n ≤ 7
  hm : 20 ≤ m
  hM : m ≤ 150000000000
  hA : CM n m m A
  hb : CS n m m b
  hx : CS n m m x
theorem OneS.mv3 {x : Vc} (h : OneS n m A b x) : CS n (3 * m) (3 * m) (mv n A x) := (h.hA.mv h.hx).mono (by omega) (by have := h.hm; have := h.hn; omega)
theorem left_vl {x : Vc} (w : World) (S bv xv : Value) (hS : SpM w S n n A) (hsy : Sym n A) (hb : VecAt w bv (vl n b)) (hx : VecAt w xv (vl n x)) (hz : OneS n m A b x) :
    Calls Tryz.prog 17 #[S, bv, xv] w fun e w' => (∃ d, e = .returned (.tuple #[d, .int .i64 0]) ∧ VecAt w' d (vl n fun i => b i - mv n A x i)) ∧ Below w.heap.size w w' := by
  have hn := hz.hn; have hm := hz.hm; have hM := hz.hM
  have hk := rawK_spm (m := m) hS hn hsy hz.hA.szk (by omega) hM
  obtain ⟨ra, rc, rfl⟩ := hS.shape
  obtain ⟨ba, bc, rfl⟩ := hb.shape
  obtain ⟨xa, xc, rfl⟩ := hx.shape
  rw [vl_length] at hb hx ⊢
  rw [vl_length]
  have hq : n * n * (m + m + 1) ≤ 49 * (m + m + 1) := Nat.mul_le_mul_right _ (Nat.mul_le_mul hn hn)
  refine left_ok w n n ra n rc ba xa n bc n xc 0 true hk (beginE_zero rfl rfl (by omega)) _ fun W hW => ?_
  exact cleft_vl (j := m) (l := m) (m := m) (k := 3 * m) W _ _ A b x ⟨ra, rc, ba, bc, rfl, hS.call hW.bel, hb.call hW.bel⟩ (hx.call hW.bel) (by omega) hz.hA.szk (hz.hx.szk (Nat.le_refl _) (Nat.le_refl _)) (hz.hb.szk (Nat.le_refl _) (Nat.le_refl _)) (hz.mv3.szk (Nat.le_refl _) (Nat.le_refl _)) (by omega) (by omega) (by omega) (by omega)
theorem energy_vl {x : Vc} (w : World) (S bv xv : Value) (hS : SpM w S n n A) (hsy : Sym n A) (hb : VecAt w bv (vl n b)) (hx : VecAt w xv (vl n x)) (hz : OneS n m A b x) :
    Calls Tryz.prog 22 #[S, bv, xv] w fun e w' => e = .returned (.tuple #[fracV (en n A b x), .int .i64 0]) ∧ Below w.heap.size w w' := by
  have hn := hz.hn; have hm := hz.hm; have hM := hz.hM
  have hk := rawK_spm (m := m) hS hn hsy hz.hA.szk (by omega) hM
  obtain ⟨ra, rc, rfl⟩ := hS.shape
  obtain ⟨ba, bc, rfl⟩ := hb.shape
  obtain ⟨xa, xc, rfl⟩ := hx.shape
  rw [vl_length] at hb hx ⊢
  rw [vl_length]
  refine energy_ok w n n ra n rc ba xa n bc n xc 0 true hk (beginE_zero rfl rfl (by omega)) _ fun W hW => ?_
  exact cenergy_vl (m := m) W _ _ A b x ⟨ra, rc, ba, bc, rfl, hS.call hW.bel, hb.call hW.bel⟩ (hx.call hW.bel) hn (by omega) hM hz.hA.szk (hz.hx.szk (Nat.le_refl _) (Nat.le_refl _)) (hz.hb.szk (Nat.le_refl _) (Nat.le_refl _)) (hz.mv3.szk (Nat.le_refl _) (Nat.le_refl _))
    ((hz.hx.dt hz.mv3).szk (by omega) (by omega)) ((hz.hb.dt hz.hx).szk (by omega) (by omega))
end
/-- the sizes of a run, step by step -/
def szN (a n : Nat) : Nat → Nat → Nat
  | s, 0 => s
  | s, k + 1 => 21 * szN a n s k + 6 * a + 14 * n + 4
theorem szN_mono {a n s : Nat} : ∀ {k l : Nat}, k ≤ l → szN a n s k ≤ szN a n s l
  | k, 0, h => by obtain rfl : k = 0 := by omega
                  exact Nat.le_refl _
  | k, l + 1, h => by
    by_cases e : k = l + 1
    · rw [e]; exact Nat.le_refl _
    · have := szN_mono (a := a) (n := n) (s := s) (show k ≤ l by omega)
      show _ ≤ 21 * szN a n s l + 6 * a + 14 * n + 4
      omega
theorem CgS.mono {n s s' : Nat} {t : Cg} (h : CgS n s t) (hs : s ≤ s') : CgS n s' t := ⟨h.x.mono hs hs, h.r.mono hs hs, h.p.mono hs hs⟩
theorem CgS.at {n a s : Nat} {A : Nat → Nat → Rat} {t : Cg} (hA : CM n a a A) (h : CgS n s t) : ∀ k, CgS n (szN a n s k) (t.at n A k)
  | 0 => h
  | k + 1 => (CgS.at hA h k).next hA
theorem CM.mono {n d k d' k' : Nat} {A : Nat → Nat → Rat} (h : CM n d k A) (hd : d ≤ d') (hk : k ≤ k') : CM n d' k' A := by
  obtain ⟨D, z, h0, h1, h2⟩ := h
  exact ⟨D, z, h0, Nat.lt_of_lt_of_le h1 (Nat.pow_le_pow_right (by decide) hd), fun i j hi hj => ⟨Nat.lt_of_lt_of_le (h2 i j hi hj).1 (Nat.pow_le_pow_right (by decide) hk), (h2 i j hi hj).2⟩⟩
theorem runS_of {n a s c : Nat} {A : Nat → Nat → Rat} {b : Vc} {t : Cg} (hn : n ≤ 7) (hA : CM n a a A) (hb : CS n c c b) (h : CgS n s t) (hM : szN a n s n ≤ 150000000000) (ha : a ≤ 150000000000) (hc : c ≤ 150000000000) : RunS n 150000000000 A b t :=
  ⟨hn, by decide, Nat.le_refl _, hA.mono ha ha, hb.mono hc hc, fun k hk => (CgS.at hA h k).mono (Nat.le_trans (szN_mono hk) hM)⟩
end Gus
end
section
/- The systems of the laws of layer 19: sizes, symmetry, positive definiteness. -/
namespace Gus
open Go Go.RowKit Go.Proofs
theorem qOf_ss {n d : Int} (h : nearQ (n, d) = true) (hd : 0 ≤ d) : SS 10 10 (qOf n d) := by
  simp only [nearQ, Bool.and_eq_true, decide_eq_true_eq] at h
  obtain ⟨h1, h2, h3⟩ := h
  have hp : 0 < max d 1 := by omega
  refine ⟨(max d 1).toNat, n, by omega, by omega, by omega, ?_⟩
  unfold qOf
  have e : (((max d 1).toNat : Nat) : Rat) = ((max d 1 : Int) : Rat) := by
    have h4 : (((max d 1).toNat : Nat) : Int) = max d 1 := by omega
    calc (((max d 1).toNat : Nat) : Rat) = ((((max d 1).toNat : Nat) : Int) : Rat) := rfl
      _ = ((max d 1 : Int) : Rat) := by rw [h4]
  rw [e]
  exact Rat.div_mul_cancel (fun h0 => by
    have : max d 1 = 0 := by exact_mod_cast h0
    omega)
theorem mEl_ss {qs : List (Int × Int)} (h : qs.all nearQ = true) (hok : QOk qs) (i : Nat) : SS 10 10 (mEl qs i) := by
  unfold mEl
  by_cases hi : i < qs.length
  · have e : qs.getD i (0, 0) = qs[i] := by rw [List.getD_eq_getElem?_getD, List.getElem?_eq_getElem hi]; rfl
    rw [e]
    exact qOf_ss (List.all_eq_true.1 h _ (List.getElem_mem hi)) (hok _ (List.getElem_mem hi)).2.2.1
  · rw [List.getD_eq_getElem?_getD, List.getElem?_eq_none (by omega)]
    exact qOf_ss (by decide) (by decide)
theorem mEl_cs {qs : List (Int × Int)} (h : qs.all nearQ = true) (hok : QOk qs) (n : Nat) : CS n (10 * n + 1) (10 * n + 1) (mEl qs) := vec_cs fun i _ => mEl_ss h hok i
theorem mList_vl (qs : List (Int × Int)) (n : Nat) : mList qs n = vl n (mEl qs) := rfl
theorem CS.congr {n d k : Nat} {u v : Vc} (h : CS n d k u) (e : ∀ i, i < n → v i = u i) : CS n d k v := by
  obtain ⟨D, z, h0, h1, h2⟩ := h
  exact ⟨D, z, h0, h1, fun i hi => ⟨(h2 i hi).1, by rw [e i hi]; exact (h2 i hi).2⟩⟩
/-- the state at the start -/
def startC (n : Nat) (A : Nat → Nat → Rat) (b x : Vc) : Cg := ⟨x, fun i => b i - mv n A x i, fun i => b i - mv n A x i⟩
theorem start_size {n a c s : Nat} {A : Nat → Nat → Rat} {b x : Vc} (hA : CM n a a A) (hb : CS n c c b) (hx : CS n c c x) (hs : a + 2 * c + n + 2 ≤ s) : CgS n s (startC n A b x) := by
  have h1 : SS 1 1 (-1) := ⟨1, -1, by decide, by decide, by decide, by decide +kernel⟩
  have hr : CS n s s fun i => b i - mv n A x i := by
    refine CS.congr ((CS.axp (K := a + 2 * c + n + 1) h1 (hA.mv hx) hb (by omega) (by omega)).mono (by omega) (by omega)) fun i _ => ?_
    unfold axp; grind
  exact ⟨hx.mono (by omega) (by omega), hr, hr⟩
theorem start_sizeb {n a c : Nat} {A : Nat → Nat → Rat} {b : Vc} (hb : CS n c c b) (_hA : CM n a a A) : CgS n c (startC n A b fun _ => 0) := by
  have h0 : CS n c c fun _ => 0 := by
    obtain ⟨D, z, h0, h1, h2⟩ := hb
    exact ⟨1, fun _ => 0, by decide, by omega, fun i _ => ⟨Nat.pow_pos (by decide), by show (0 : Rat) * ((1 : Nat) : Rat) = ((0 : Int) : Rat); decide +kernel⟩⟩
  have hr : CS n c c fun i => b i - mv n A (fun _ => 0) i := hb.congr fun i _ => by
    have : mv n A (fun _ => 0) i = 0 := by
      unfold mv
      rw [sm_congr n (G := fun _ => 0) fun k _ => Rat.mul_zero _, sm_zero]
    rw [this]; grind
  exact ⟨h0, hr, hr⟩
theorem OneS.of {n a c : Nat} {A : Nat → Nat → Rat} {b x : Vc} (hn : n ≤ 7) (hA : CM n a a A) (hb : CS n c c b) {d : Nat} (hx : CS n d d x) (ha : a ≤ 150000000000) (hc : c ≤ 150000000000) (hd : d ≤ 150000000000) : OneS n 150000000000 A b x :=
  ⟨hn, by decide, Nat.le_refl _, hA.mono ha ha, hb.mono hc hc, hx.mono hd hd⟩
/-- the iterates' sizes, for Left and Energy -/
theorem RunS.one {n m k : Nat} {A : Nat → Nat → Rat} {b : Vc} {s0 : Cg} (h : RunS n m A b s0) (hk : k ≤ n) : OneS n m A b (s0.at n A k).x := ⟨h.hn, h.hm, h.hM, h.hA, h.hb, (h.hs k hk).x⟩
end Gus
end
section
/- Steps as the laws read them. -/
namespace Gus
open Go Go.RowKit Go.Proofs
/-- step i of a run that lies at b, off -/
structure StepK (w : World) (b off n i : Nat) (xa ra pa : Option Addr) (xk rk pk : Nat) (s : StepD) : Prop where
  lt : b < w.heap.size
  c0 : w.cell? ⟨b, off + i * 13, none⟩ = some (.slice xa n xk)
  c1 : w.cell? ⟨b, off + i * 13 + 1, none⟩ = some (.slice ra n rk)
  c2 : w.cell? ⟨b, off + i * 13 + 2, none⟩ = some (.slice pa n pk)
  cf : ∀ j, j < 5 → w.cell? ⟨b, off + i * 13 + (3 + j), none⟩ = (fcs s.far)[j]?
  ce : ∀ j, j < 5 → w.cell? ⟨b, off + i * 13 + (8 + j), none⟩ = (fcs s.en)[j]?
  x : VecAt w (.slice xa n xk) (vl n s.x)
  r : VecAt w (.slice ra n rk) (vl n s.r)
  p : VecAt w (.slice pa n pk) (vl n s.p)
theorem StepsAt.open {w : World} {v : Value} {n L : Nat} {F : Nat → StepD} (h : StepsAt w v n (L + 1) F) :
    ∃ b off cap, v = .slice (some ⟨b, off, none⟩) (L + 1) cap ∧ ∀ i, i < L + 1 → ∃ xa ra pa xk rk pk, StepK w b off n i xa ra pa xk rk pk (F i) := by
  obtain ⟨a, cap, rfl, h⟩ := h
  obtain ⟨b, off, _, _, _, rfl, _⟩ := h 0 (Nat.succ_pos _)
  refine ⟨b, off, cap, rfl, fun i hi => ?_⟩
  obtain ⟨b', off', xv, rv, pv, he, hl, hc, hx, hr, hp⟩ := h i hi
  obtain ⟨rfl, rfl⟩ : b = b' ∧ off = off' := by simpa using he
  obtain ⟨xa, xk, rfl⟩ := hx.shape
  obtain ⟨ra, rk, rfl⟩ := hr.shape
  obtain ⟨pa, pk, rfl⟩ := hp.shape
  rw [vl_length] at hx hr hp hc
  rw [vl_length, vl_length] at hc
  refine ⟨xa, ra, pa, xk, rk, pk, hl, hc 0 (by decide), hc 1 (by decide), hc 2 (by decide), fun j hj => ?_, fun j hj => ?_, hx, hr, hp⟩
  · rw [← Nat.add_assoc, Nat.add_assoc, hc (3 + j) (by omega)]
    have h5 : j = 0 ∨ j = 1 ∨ j = 2 ∨ j = 3 ∨ j = 4 := by omega
    rcases h5 with rfl | rfl | rfl | rfl | rfl <;> rfl
  · rw [← Nat.add_assoc, Nat.add_assoc, hc (8 + j) (by omega)]
    have h5 : j = 0 ∨ j = 1 ∨ j = 2 ∨ j = 3 ∨ j = 4 := by omega
    rcases h5 with rfl | rfl | rfl | rfl | rfl <;> rfl
theorem StepK.call {w w' : World} {b off n i : Nat} {xa ra pa : Option Addr} {xk rk pk : Nat} {s : StepD} (h : StepK w b off n i xa ra pa xk rk pk s) (hb : Below w.heap.size w w') : StepK w' b off n i xa ra pa xk rk pk s := by
  have e : ∀ o, w'.cell? ⟨b, o, none⟩ = w.cell? ⟨b, o, none⟩ := fun o => hb.cell (p := ⟨b, o, none⟩) h.lt
  exact ⟨Nat.lt_of_lt_of_le h.lt hb.size, by rw [e]; exact h.c0, by rw [e]; exact h.c1, by rw [e]; exact h.c2, fun j hj => by rw [e]; exact h.cf j hj, fun j hj => by rw [e]; exact h.ce j hj, h.x.call hb, h.r.call hb, h.p.call hb⟩
/-- the two vectors handed to gussetlaw19.small -/
theorem qs_two {w : World} {V : Nat} {ba sa : Option Addr} {bc sc : Nat} {qb qs : List (Int × Int)} (h : Bx w V 25 [.slice ba qb.length bc, .slice sa qs.length sc]) (hb : QAt w ba qb) (hs : QAt w sa qs) : QsAt w (some ⟨V, 0, none⟩) [qb, qs] := fun i hi => by
  have h2 : i = 0 ∨ i = 1 := by simp at hi; omega
  rcases h2 with rfl | rfl
  · exact ⟨V, 0, ba, bc, rfl, h.lt, h.c0, hb⟩
  · exact ⟨V, 0, sa, sc, rfl, h.lt, h.c1, hs⟩
theorem small_split {l : List TQ} {qb qs : List (Int × Int)} (h : smallT l [qb, qs] = true) : l.length ≤ 30 ∧ l.all (fun t => nearQ t.2.2) = true ∧ qb.all nearQ = true ∧ qs.all nearQ = true ∧ qb.length ≤ 12 ∧ qs.length ≤ 12 := by
  simp only [smallT, smallV, List.all_cons, List.all_nil, Bool.and_true, Bool.and_eq_true, decide_eq_true_eq] at h
  exact ⟨h.1, h.2.1, h.2.2.1.2, h.2.2.2.2, h.2.2.1.1, h.2.2.2.1⟩
end Gus
end
section
/- The chapter's example of conjugate gradients: gussetlaw19.works. -/
namespace Gus
open Go Go.RowKit Go.Proofs
def wkA : Nat → Nat → Rat := foldA (fun _ _ => 0) [(0, 0, 4), (0, 1, 1), (1, 0, 1), (1, 1, 3)]
def wkb : Vc := fun i => if i = 0 then 1 else 2
def wks : Cg := ⟨fun _ => 0, wkb, wkb⟩
theorem wk_fin : Fin 2 wkA wks 2 := ⟨Nat.le_refl _, by decide +kernel, fun k hk => by rcases two hk with rfl | rfl <;> constructor <;> decide +kernel⟩
theorem wk_sym : Sym 2 wkA := fun i k hi hk => by rcases two hi with rfl | rfl <;> rcases two hk with rfl | rfl <;> decide +kernel
theorem wk_cm : CM 2 10 10 wkA := ⟨1, fun i j => (wkA i j).num, by decide, by decide, fun i j hi hj => by rcases two hi with rfl | rfl <;> rcases two hj with rfl | rfl <;> constructor <;> decide +kernel⟩
theorem wk_cb : CS 2 10 10 wkb := ⟨1, fun i => (wkb i).num, by decide, by decide, fun i hi => by rcases two hi with rfl | rfl <;> constructor <;> decide +kernel⟩
theorem wk_runS : RunS 2 150000000000 wkA wkb wks :=
  runS_of (a := 10) (s := 10) (c := 10) (by decide) wk_cm wk_cb ⟨⟨1, fun _ => 0, by decide, by decide, fun i _ => ⟨by show ((0 : Int)).natAbs < 2 ^ 10; decide, by show (0 : Rat) * ((1 : Nat) : Rat) = ((0 : Int) : Rat); decide +kernel⟩⟩, wk_cb, wk_cb⟩ (by decide) (by decide) (by decide)
theorem wk_one {x : Vc} (h : CS 2 10 10 x) : OneS 2 1000 wkA wkb x := ⟨by decide, by decide, by decide, wk_cm.mono (by decide) (by decide), wk_cb.mono (by decide) (by decide), h.mono (by decide) (by decide)⟩
def wk1 : Vc := fun _ => 1
theorem wk_c1 : CS 2 10 10 wk1 := ⟨1, fun _ => 1, by decide, by decide, fun i _ => ⟨by show ((1 : Int)).natAbs < 2 ^ 10; decide, by show (1 : Rat) * ((1 : Nat) : Rat) = ((1 : Int) : Rat); decide +kernel⟩⟩
theorem wk_c2 : CS 2 10 10 (runD 2 wkA wkb wks 2 2).x := ⟨11, fun i => ((runD 2 wkA wkb wks 2 2).x i * 11).num, by decide, by decide, fun i hi => by rcases two hi with rfl | rfl <;> constructor <;> decide +kernel⟩
theorem wk_b : vl 2 wkb = [1, 2] := by decide +kernel
theorem wk_1 : vl 2 wk1 = [1, 1] := by decide +kernel
theorem wk_x0 : vl 2 (runD 2 wkA wkb wks 2 0).x = [0, 0] := by decide +kernel
theorem wk_r0 : vl 2 (runD 2 wkA wkb wks 2 0).r = [1, 2] := by decide +kernel
theorem wk_f0 : (runD 2 wkA wkb wks 2 0).far = 1 / 4 := by decide +kernel
theorem wk_x1 : vl 2 (runD 2 wkA wkb wks 2 1).x = [1 / 4, 1 / 2] := by decide +kernel
theorem wk_r1 : vl 2 (runD 2 wkA wkb wks 2 1).r = [-1 / 2, 1 / 4] := by decide +kernel
theorem wk_f1 : (runD 2 wkA wkb wks 2 1).far = 4 / 11 := by decide +kernel
theorem wk_x2 : vl 2 (runD 2 wkA wkb wks 2 2).x = [1 / 11, 7 / 11] := by decide +kernel
theorem wk_r2 : vl 2 (runD 2 wkA wkb wks 2 2).r = [0, 0] := by decide +kernel
theorem wk_f2 : (runD 2 wkA wkb wks 2 2).far = 0 := by decide +kernel
theorem wk_en : en 2 wkA wkb (runD 2 wkA wkb wks 2 2).x = -15 / 22 := by decide +kernel
theorem wk_left : vl 2 (fun i => wkb i - mv 2 wkA wk1 i) = [-4, -2] := by decide +kernel
theorem wk_t00 : vecT [0, 0] = [91, 48, 32, 48, 93] := by
  simp [vecT, ratT, intT, natT, Lib.decDigits, Lib.join, List.intercalate]
theorem wk_t12 : vecT [1, 2] = [91, 49, 32, 50, 93] := by
  simp [vecT, ratT, intT, natT, Lib.decDigits, Lib.join, List.intercalate]
theorem wk_tx1 : vecT [1 / 4, 1 / 2] = [91, 49, 47, 52, 32, 49, 47, 50, 93] := by
  have n0 : (1 / 2 : Rat).num = 1 := by decide +kernel
  have d0 : (1 / 2 : Rat).den = 2 := by decide +kernel
  have n1 : (1 / 4 : Rat).num = 1 := by decide +kernel
  have d1 : (1 / 4 : Rat).den = 4 := by decide +kernel
  simp [vecT, ratT, intT, natT, Lib.decDigits, Lib.join, List.intercalate, n0, d0, n1, d1]
theorem wk_tr1 : vecT [-1 / 2, 1 / 4] = [91, 45, 49, 47, 50, 32, 49, 47, 52, 93] := by
  have n0 : (-1 / 2 : Rat).num = -1 := by decide +kernel
  have d0 : (-1 / 2 : Rat).den = 2 := by decide +kernel
  have n1 : (1 / 4 : Rat).num = 1 := by decide +kernel
  have d1 : (1 / 4 : Rat).den = 4 := by decide +kernel
  simp [vecT, ratT, intT, natT, Lib.decDigits, Lib.join, List.intercalate, n0, d0, n1, d1]
theorem wk_tx2 : vecT [1 / 11, 7 / 11] = [91, 49, 47, 49, 49, 32, 55, 47, 49, 49, 93] := by
  have n0 : (1 / 11 : Rat).num = 1 := by decide +kernel
  have d0 : (1 / 11 : Rat).den = 11 := by decide +kernel
  have n1 : (7 / 11 : Rat).num = 7 := by decide +kernel
  have d1 : (7 / 11 : Rat).den = 11 := by decide +kernel
  simp [vecT, ratT, intT, natT, Lib.decDigits, Lib.join, List.intercalate, n0, d0, n1, d1]
theorem wk_tl : vecT [-4, -2] = [91, 45, 52, 32, 45, 50, 93] := by
  have n0 : (-2 : Rat).num = -2 := by decide +kernel
  have d0 : (-2 : Rat).den = 1 := by decide +kernel
  have n1 : (-4 : Rat).num = -4 := by decide +kernel
  have d1 : (-4 : Rat).den = 1 := by decide +kernel
  simp [vecT, ratT, intT, natT, Lib.decDigits, Lib.join, List.intercalate, n0, d0, n1, d1]
theorem wk_t14 : ratT (1 / 4) = [49, 47, 52] := by
  have n0 : (1 / 4 : Rat).num = 1 := by decide +kernel
  have d0 : (1 / 4 : Rat).den = 4 := by decide +kernel
  simp [ratT, intT, natT, Lib.decDigits, n0, d0]
theorem wk_t411 : ratT (4 / 11) = [52, 47, 49, 49] := by
  have n0 : (4 / 11 : Rat).num = 4 := by decide +kernel
  have d0 : (4 / 11 : Rat).den = 11 := by decide +kernel
  simp [ratT, intT, natT, Lib.decDigits, n0, d0]
theorem wk_ten : ratT (-15 / 22) = [45, 49, 53, 47, 50, 50] := by
  have n0 : (-15 / 22 : Rat).num = -15 := by decide +kernel
  have d0 : (-15 / 22 : Rat).den = 22 := by decide +kernel
  simp [ratT, intT, natT, Lib.decDigits, n0, d0]
theorem wk_of {N : Nat} (x y : Int) (hx : -9223372036854775808 ≤ x ∧ x < 9223372036854775808) (hy : -9223372036854775808 ≤ y ∧ y < 9223372036854775808) (L : List Rat) (hL : L = [(x : Rat), (y : Rat)]) (W : World) (v : Value) (h : NewS N 2 [.int .i64 x, .int .i64 y] 2 v W) :
    Calls Tryz.prog 48 #[v] W fun e w' => (∃ d, e = .returned d ∧ VcQ L d w') ∧ Below W.heap.size W w' := by
  obtain ⟨G, rfl, _, hG⟩ := h
  have := vof_any W (some ⟨G, 0, none⟩) 2 [x, y] (fun i hi => ⟨G, 0, rfl, hG.lt, by
    rcases two (show i < 2 by simpa using hi) with rfl | rfl
    · exact hG.c0
    · exact hG.c1⟩) (by simp) (fun i => by
    rcases Nat.lt_or_ge i 2 with hi | hi
    · rcases two hi with rfl | rfl
      · exact hx
      · exact hy
    · rw [List.getD_eq_getElem?_getD, List.getElem?_eq_none (by simp; omega)]; decide)
  refine this.mono ?_
  rintro e w' ⟨g, rfl, hg, hv, hb⟩
  subst hL
  exact ⟨⟨_, rfl, VBx.at hv 2 rfl 2⟩, hb⟩
theorem tups_out {a b c d x y : Value} (h1 : a = .tuple #[x, y]) (h2 : MvS a b) (h3 : FstS b c) (h4 : SndS b d) : b = .tuple #[x, y] ∧ c = x ∧ d = y := by
  obtain ⟨rfl, _⟩ := h2
  obtain ⟨a1, l1, k1, e1, h5, rfl⟩ := h3
  obtain ⟨a2, l2, k2, e2, h6, rfl⟩ := h4
  rw [h1] at h5 h6
  simp only [Value.tuple.injEq, Array.mk.injEq, List.cons.injEq, and_true] at h5 h6
  exact ⟨h1, h5.1.symm, h6.2.symm⟩
def WkP (n j : Nat) (F : Nat → StepD) (v : Value) (w : World) : Prop := ∃ d, v = .tuple #[d, .int .i64 0] ∧ StepsAt w d n (j + 1) F
theorem WkP.stable (n j : Nat) (F : Nat → StepD) : Stable (WkP n j F) := fun _ _ _ ⟨d, h1, h2⟩ hs => ⟨d, h1, h2.call hs⟩
theorem WkP.tup {n j : Nat} {F : Nat → StepD} {v : Value} {w : World} (h : WkP n j F v w) : TupP (WkP n j F) v w := by
  refine ⟨?_, h⟩
  obtain ⟨d, rfl, h3⟩ := h
  obtain ⟨a, cap, rfl, _⟩ := h3
  exact ⟨_, _, _, _, rfl⟩
theorem wk_run (w : World) (S bv : Value) (hS : SpM w S 2 2 wkA) (hb : VecAt w bv (vl 2 wkb)) :
    Calls Tryz.prog 34 #[S, bv] w fun e w' => (∃ v, e = .returned v ∧ TupP (WkP 2 2 (runD 2 wkA wkb wks 2)) v w') ∧ Below w.heap.size w w' := by
  refine (run_vl (m := 150000000000) w S bv hS wk_sym hb rfl (fun i hi => by rcases two hi with rfl | rfl <;> decide +kernel) rfl wk_runS).mono ?_
  rintro e w' ⟨⟨v, h1, h2⟩, h3⟩
  refine ⟨⟨v, h1, WkP.tup ?_⟩, h3⟩
  rcases h2 with ⟨j, d, h4, rfl, h5⟩ | ⟨h4, _⟩
  · obtain rfl := h4.unique wk_fin
    exact ⟨d, rfl, h5⟩
  · exact absurd ⟨2, wk_fin⟩ h4
/-- known cells of a block -/
structure CellsK (w : World) (b : Nat) (l : List (Nat × Value)) : Prop where
  lt : b < w.heap.size
  get : ∀ x ∈ l, w.cell? ⟨b, x.1, none⟩ = some x.2
theorem CellsK.call {w w' : World} {b : Nat} {l : List (Nat × Value)} (h : CellsK w b l) (hb : Below w.heap.size w w') : CellsK w' b l :=
  ⟨Nat.lt_of_lt_of_le h.lt hb.size, fun x hx => by rw [hb.cell (p := ⟨b, x.1, none⟩) h.lt]; exact h.get x hx⟩
theorem wk_sp (W : World) (Z : Nat) (h : Bx W Z 111 [.int .i64 0, .int .i64 0, .int .u64 4, .string ⟨#[]⟩, .bool false, .int .u64 0, .string ⟨#[]⟩, .int .i64 0, .int .i64 1, .int .u64 1, .string ⟨#[]⟩, .bool false, .int .u64 0, .string ⟨#[]⟩, .int .i64 1, .int .i64 0, .int .u64 1, .string ⟨#[]⟩, .bool false, .int .u64 0, .string ⟨#[]⟩, .int .i64 1, .int .i64 1, .int .u64 3, .string ⟨#[]⟩, .bool false, .int .u64 0, .string ⟨#[]⟩]) :
    Calls Tryz.prog 49 #[.int .i64 2, .int .i64 2, .slice (some ⟨Z, 0, none⟩) 4 4] W fun e w' => (∃ sa sk, e = .returned (.tuple #[.agg #[.int .i64 2, .int .i64 2, .slice sa 2 sk], .int .i64 0]) ∧ SpM w' (.agg #[.int .i64 2, .int .i64 2, .slice sa 2 sk]) 2 2 wkA) ∧ Below W.heap.size W w' := by
  have := of_ok (j := 4) W 2 2 (some ⟨Z, 0, none⟩) 4 [(0, 0, 4), (0, 1, 1), (1, 0, 1), (1, 1, 3)] (fun i hi => ⟨Z, 0, rfl, h.lt, fun j hj => by
    have hi4 : i = 0 ∨ i = 1 ∨ i = 2 ∨ i = 3 := by simp at hi; omega
    have hj7 : j = 0 ∨ j = 1 ∨ j = 2 ∨ j = 3 ∨ j = 4 ∨ j = 5 ∨ j = 6 := by omega
    rw [h.cell]
    rcases hi4 with rfl | rfl | rfl | rfl <;> rcases hj7 with rfl | rfl | rfl | rfl | rfl | rfl | rfl <;> rfl⟩) (by decide) (by decide) (by decide) (fun i => by
    by_cases hi : i < 4
    · have hi4 : i = 0 ∨ i = 1 ∨ i = 2 ∨ i = 3 := by omega
      rcases hi4 with rfl | rfl | rfl | rfl <;> constructor <;> decide +kernel
    · rw [List.getD_eq_getElem?_getD, List.getElem?_eq_none (by simp; omega)]; constructor <;> decide +kernel) (by decide)
  refine this.mono ?_
  rintro e w' ⟨⟨_, v, h1, h2⟩ | ⟨h1, _⟩, hb⟩
  · have h3 : SpM w' v 2 2 wkA := h2.m
    obtain ⟨sa, sk, rfl⟩ := h3.shape
    exact ⟨⟨sa, sk, h1, h3⟩, hb⟩
  · exact absurd h1 (by decide +kernel)
theorem wk_txt (W : World) (v : Value) (qs : List Rat) (bs : List UInt8) (hv : VecAt W v qs) (hl : qs.length ≤ 10) (hq : ∀ q ∈ qs, q.num.natAbs < 100 ∧ q.den < 100) (ht : vecT qs = bs) :
    Calls Tryz.prog 69 #[v] W fun e w' => e = .returned (strV bs) ∧ Below W.heap.size W w' := by
  subst ht
  exact vtext_any W W v qs 10 hv (In.self W) (by omega) (fun i hi => by
    have hm : qs.getD i 0 ∈ qs := by rw [List.getD_eq_getElem?_getD, List.getElem?_eq_getElem hi]; exact List.getElem_mem _
    exact ratTx_small W _ (hq _ hm).1 (hq _ hm).2) (by omega)
theorem wk_rtx (W : World) (q : Rat) (v : Value) (bs : List UInt8) (hv : fracV q = v) (h1 : q.num.natAbs < 100) (h2 : q.den < 100) (ht : ratT q = bs) :
    Calls Tryz.prog 70 #[v] W fun e w' => e = .returned (strV bs) ∧ Below W.heap.size W w' := by
  subst ht hv
  exact (ratTx_small W q h1 h2).1 W (In.self W)
theorem wk_fc0 : fcs (runD 2 wkA wkb wks 2 0).far = [.int .u64 1, .string ⟨#[]⟩, .bool false, .int .u64 3, .string ⟨#[]⟩] := by
  rw [wk_f0]
  have h1 : (1 / 4 : Rat).num = 1 := by decide +kernel
  have h2 : (1 / 4 : Rat).den = 4 := by decide +kernel
  unfold fcs
  rw [h1, h2]; rfl
theorem wk_fv0 : fracV (1 / 4) = .agg #[.int .u64 1, .string ⟨#[]⟩, .bool false, .int .u64 3, .string ⟨#[]⟩] := by
  have h1 : (1 / 4 : Rat).num = 1 := by decide +kernel
  have h2 : (1 / 4 : Rat).den = 4 := by decide +kernel
  unfold fracV
  rw [h1, h2]; rfl
theorem wk_fc1 : fcs (runD 2 wkA wkb wks 2 1).far = [.int .u64 4, .string ⟨#[]⟩, .bool false, .int .u64 10, .string ⟨#[]⟩] := by
  rw [wk_f1]
  have h1 : (4 / 11 : Rat).num = 4 := by decide +kernel
  have h2 : (4 / 11 : Rat).den = 11 := by decide +kernel
  unfold fcs
  rw [h1, h2]; rfl
theorem wk_fv1 : fracV (4 / 11) = .agg #[.int .u64 4, .string ⟨#[]⟩, .bool false, .int .u64 10, .string ⟨#[]⟩] := by
  have h1 : (4 / 11 : Rat).num = 4 := by decide +kernel
  have h2 : (4 / 11 : Rat).den = 11 := by decide +kernel
  unfold fracV
  rw [h1, h2]; rfl
theorem wk_fc2 : fcs (runD 2 wkA wkb wks 2 2).far = [.int .u64 0, .string ⟨#[]⟩, .bool false, .int .u64 0, .string ⟨#[]⟩] := by rw [wk_f2]; rfl
theorem wk_ev2 : fracV (-15 / 22) = .agg #[.int .u64 15, .string ⟨#[]⟩, .bool true, .int .u64 21, .string ⟨#[]⟩] := by
  have h1 : (-15 / 22 : Rat).num = -15 := by decide +kernel
  have h2 : (-15 / 22 : Rat).den = 22 := by decide +kernel
  unfold fracV
  rw [h1, h2]; rfl
theorem wk_ev : fracV (en 2 wkA wkb (runD 2 wkA wkb wks 2 2).x) = .agg #[.int .u64 15, .string ⟨#[]⟩, .bool true, .int .u64 21, .string ⟨#[]⟩] := by
  rw [wk_en]
  have h1 : (-15 / 22 : Rat).num = -15 := by decide +kernel
  have h2 : (-15 / 22 : Rat).den = 22 := by decide +kernel
  unfold fracV
  rw [h1, h2]; rfl
set_option maxRecDepth 100000 in
set_option maxHeartbeats 8000000 in
theorem cgworks_any (w : World) : Calls Tryz.prog 13 #[] w fun e w' => e = .returned (.bool true) ∧ Below w.heap.size w w' := by
  have c4 := fracInt_any 4 (by decide) (by decide)
  have c1 := fracInt_any 1 (by decide) (by decide)
  have c3 := fracInt_any 3 (by decide) (by decide)
  rw [show fracV ((4 : Int) : Rat) = .agg #[.int .u64 4, .string ⟨#[]⟩, .bool false, .int .u64 0, .string ⟨#[]⟩] from rfl] at c4
  rw [show fracV ((1 : Int) : Rat) = .agg #[.int .u64 1, .string ⟨#[]⟩, .bool false, .int .u64 0, .string ⟨#[]⟩] from rfl] at c1
  rw [show fracV ((3 : Int) : Rat) = .agg #[.int .u64 3, .string ⟨#[]⟩, .bool false, .int .u64 0, .string ⟨#[]⟩] from rfl] at c3
  have hin := In.self w
  go_enter Tryz.func13, Tryz.ntmps13
  skip
  ((go_wp2_with fail); (((with_reducible refine (c4 _).mono ?_))); (rintro e wc1 ⟨rfl, hb⟩); (skip); (replace hin := hin.call hb); (clear hb))
  ((go_wp2_with fail); (((with_reducible refine (c1 _).mono ?_))); (rintro e wc2 ⟨rfl, hb⟩); (skip); (replace hin := hin.call hb); (clear hb))
  ((go_wp2_with fail); (((with_reducible refine (c1 _).mono ?_))); (rintro e wc3 ⟨rfl, hb⟩); (skip); (replace hin := hin.call hb); (clear hb))
  ((go_wp2_with fail); (((with_reducible refine (c3 _).mono ?_))); (rintro e wc4 ⟨rfl, hb⟩); (skip); (replace hin := hin.call hb); (clear hb))
  go_wp2_with fail
  ((obtain ⟨Z, hZ⟩ : ∃ z, z = wc4.heap.size := ⟨_, rfl⟩); (have bZ := Bx.new_at wc4 #[.int .i64 0, .int .i64 0, .int .u64 4, .string ⟨#[]⟩, .bool false, .int .u64 0, .string ⟨#[]⟩, .int .i64 0, .int .i64 1, .int .u64 1, .string ⟨#[]⟩, .bool false, .int .u64 0, .string ⟨#[]⟩, .int .i64 1, .int .i64 0, .int .u64 1, .string ⟨#[]⟩, .bool false, .int .u64 0, .string ⟨#[]⟩, .int .i64 1, .int .i64 1, .int .u64 3, .string ⟨#[]⟩, .bool false, .int .u64 0, .string ⟨#[]⟩] 111 hZ); (replace hin := hin.alloc (.cells #[.int .i64 0, .int .i64 0, .int .u64 4, .string ⟨#[]⟩, .bool false, .int .u64 0, .string ⟨#[]⟩, .int .i64 0, .int .i64 1, .int .u64 1, .string ⟨#[]⟩, .bool false, .int .u64 0, .string ⟨#[]⟩, .int .i64 1, .int .i64 0, .int .u64 1, .string ⟨#[]⟩, .bool false, .int .u64 0, .string ⟨#[]⟩, .int .i64 1, .int .i64 1, .int .u64 3, .string ⟨#[]⟩, .bool false, .int .u64 0, .string ⟨#[]⟩] 111)); (rw [← hZ]); (clear hZ); (generalize wc4.alloc (.cells #[.int .i64 0, .int .i64 0, .int .u64 4, .string ⟨#[]⟩, .bool false, .int .u64 0, .string ⟨#[]⟩, .int .i64 0, .int .i64 1, .int .u64 1, .string ⟨#[]⟩, .bool false, .int .u64 0, .string ⟨#[]⟩, .int .i64 1, .int .i64 0, .int .u64 1, .string ⟨#[]⟩, .bool false, .int .u64 0, .string ⟨#[]⟩, .int .i64 1, .int .i64 1, .int .u64 3, .string ⟨#[]⟩, .bool false, .int .u64 0, .string ⟨#[]⟩] 111) = W5 at *))
  ((((with_reducible refine (wk_sp _ _ bZ).mono ?_))); (rintro e wc6 ⟨⟨sa, sk, rfl, hs⟩, hb⟩); (clear bZ c1 c3 c4); (replace hin := hin.call hb); (clear hb))
  go_upto_region 2 with fail
  ((obtain ⟨S, hS⟩ : ∃ z, z = wc6.heap.size := ⟨_, rfl⟩); (have bS := Bx.new_at wc6 #[.int .i64 2, .int .i64 2, .slice sa 2 sk] 30 hS); (replace hin := hin.alloc (.cells #[.int .i64 2, .int .i64 2, .slice sa 2 sk] 30)); (replace hs := hs.call ((Below.refl _ _).alloc (Nat.le_refl _) (.cells #[.int .i64 2, .int .i64 2, .slice sa 2 sk] 30))); (rw [← hS]); (clear hS); (generalize wc6.alloc (.cells #[.int .i64 2, .int .i64 2, .slice sa 2 sk] 30) = W7 at *))
  ((have s0 := bS.c0); (have s1 := bS.c1); (have s2 := bS.c2); (have sl := bS.lt))
  have h := In.self W7; have hc := h.cell; have hf := h.frozen; refine wp_region_flow 7 (by kernel_rfl) (by kernel_rfl) (fun _ _ d _ _ h => by cases d <;> exact h) ?_; simp only [List.take_succ_cons, List.take_zero, List.drop_succ_cons, List.drop_zero]; simp only [putAll, Act.put, List.setIfInBounds_toArray, List.set]; (try simp only [Nat.reduceAdd]); (try simp only [Nat.zero_add]); (repeat (first | ((with_reducible refine flow_float (v := ?_) ?_ ?_ ?_); rotate_left 1; (focus (with_reducible rfl)); (focus (intro u w1 hw hd w2; (try simp only [depH] at hd); (try simp only [ext] at hd); (try simp only [extU] at hd); (try simp only [Nat.reduceAdd] at hd); (try simp only [Nat.reduceEqDiff] at hd); (try simp only [reduceIte] at hd); (try simp only [and_true] at hd); (try simp only [true_and] at hd); go_simp; exact rfl))) | ((first | ((with_reducible refine flow_pure0 (v := ?_) ?_ ?_ ?_ ?_); rotate_left 1; (focus (with_reducible rfl)); (focus rfl)) | ((with_reducible refine flow_pureg (v := ?_) (j := ?_) (b := ?_) ?_ ?_ ?_ ?_); rotate_left 3; (focus (with_reducible rfl)); (focus (intro u w1 hw hd; (try simp only [depH] at hd); (try simp only [ext] at hd); (try simp only [extU] at hd); (try simp only [Nat.reduceAdd] at hd); (try simp only [Nat.reduceEqDiff] at hd); (try simp only [reduceIte] at hd); (try simp only [and_true] at hd); (try simp only [true_and] at hd); simp [yielded, hd]; done)))); (focus (intro u w1 hw hd; (try simp only [depH] at hd); (try simp only [ext] at hd); (try simp only [extU] at hd); (try simp only [Nat.reduceAdd] at hd); (try simp only [Nat.reduceEqDiff] at hd); (try simp only [reduceIte] at hd); (try simp only [and_true] at hd); (try simp only [true_and] at hd); have hc' := hw.cell; go_simp; exact rfl))) | ((with_reducible refine flow_skipg (j := ?_) (b := ?_) ?_ ?_ ?_); rotate_left 2; (focus (with_reducible rfl)); (focus (intro u w1 hw hd; (try simp only [depH] at hd); (try simp only [ext] at hd); (try simp only [extU] at hd); (try simp only [Nat.reduceAdd] at hd); (try simp only [Nat.reduceEqDiff] at hd); (try simp only [reduceIte] at hd); (try simp only [and_true] at hd); (try simp only [true_and] at hd); simp [yielded, hd]; done))) | ((with_reducible refine flow_alloc (t := ?_) (zs := ?_) ?_ ?_ ?_ ?_); rotate_left 2; (focus (with_reducible rfl)); (focus rfl); (focus (intro u w1; go_simp; exact rfl)))))
  ((with_reducible refine flow_slice (t := 2) (zs := #[.int .i64 1, .int .i64 2]) (n := 2) ?_ ?_ ?_ ?_); (focus (with_reducible rfl)); (focus rfl); (focus (intro u w1 hw hd; (try simp only [depH] at hd); (try simp only [ext] at hd); (try simp only [extU] at hd); (try simp only [Nat.reduceAdd] at hd); (try simp only [Nat.reduceEqDiff] at hd); (try simp only [reduceIte] at hd); (try simp only [and_true] at hd); (try simp only [true_and] at hd); (try go_simp); (try exact rfl))))
  (with_reducible refine flow_rel (Vi := VcQ (vl 2 wkb)) false ?_ ?_ ?_ ?_ ?_ ?_); (focus rfl); (focus rfl); (focus exact stable_vcq _); (focus exact placed_false _); (focus (intro u w1 hw hd; (try simp only [depH] at hd); (try simp only [ext] at hd); (try simp only [extU] at hd); (try simp only [Nat.reduceAdd] at hd); (try simp only [Nat.reduceEqDiff] at hd); (try simp only [reduceIte] at hd); (try simp only [and_true] at hd); (try simp only [true_and] at hd); obtain hd := hd; have hc' := hw.cell; go_simp; (try simp only [okUpon]); go_at_call 48; ((with_reducible refine (wk_of 1 2 (by decide) (by decide) _ wk_b _ _ hd).mono ?_)); rintro e w'' ⟨⟨v, rfl, hv⟩, hb⟩; exact ⟨v, rfl, ⟨hv, fun h => by cases h⟩, hb⟩))
  (with_reducible refine flow_rel (Vi := TupP (WkP 2 2 (runD 2 wkA wkb wks 2))) false ?_ ?_ ?_ ?_ ?_ ?_); (focus rfl); (focus rfl); (focus exact stable_tupp (WkP.stable _ _ _)); (focus exact placed_false _); (focus (intro u w1 hw hd; (try simp only [depH] at hd); (try simp only [ext] at hd); (try simp only [extU] at hd); (try simp only [Nat.reduceAdd] at hd); (try simp only [Nat.reduceEqDiff] at hd); (try simp only [reduceIte] at hd); (try simp only [and_true] at hd); (try simp only [true_and] at hd); obtain ⟨hd1, hd2⟩ := hd; have hc' := hw.cell; go_simp; (try simp only [okUpon]); go_at_call 34; ((with_reducible refine (wk_run _ _ _ (hs.call hw.ins.bel) hd2.1.v).mono ?_)); rintro e w'' ⟨⟨v, rfl, hv⟩, hb⟩; exact ⟨v, rfl, ⟨hv, fun h => by cases h⟩, hb⟩))
  (((with_reducible refine flow_link (k := 3) (R := MvS) ?_ ?_ ?_ ?_); (focus rfl); (focus rfl); (focus (intro u w1 hw hd; (try simp only [depH] at hd); (try simp only [ext] at hd); (try simp only [extU] at hd); (try simp only [Nat.reduceAdd] at hd); (try simp only [Nat.reduceEqDiff] at hd); (try simp only [reduceIte] at hd); (try simp only [and_true] at hd); (try simp only [true_and] at hd); obtain ⟨⟨a, l, k, e, h3⟩, _⟩ := hd; exact ⟨u 3, fun w2 => (by go_simp), rfl, a, l, k, e, h3⟩))); ((with_reducible refine flow_link (k := 4) (R := FstS) ?_ ?_ ?_ ?_); (focus rfl); (focus rfl); (focus (intro u w1 hw hd; (try simp only [depH] at hd); (try simp only [ext] at hd); (try simp only [extU] at hd); (try simp only [Nat.reduceAdd] at hd); (try simp only [Nat.reduceEqDiff] at hd); (try simp only [reduceIte] at hd); (try simp only [and_true] at hd); (try simp only [true_and] at hd); obtain ⟨h4, a, l, k, e, h5⟩ := hd; exact ⟨.slice a l k, fun w2 => (by clear h4; go_simp), a, l, k, e, h5, rfl⟩))); ((with_reducible refine flow_link (k := 4) (R := SndS) ?_ ?_ ?_ ?_); (focus rfl); (focus rfl); (focus (intro u w1 hw hd; (try simp only [depH] at hd); (try simp only [ext] at hd); (try simp only [extU] at hd); (try simp only [Nat.reduceAdd] at hd); (try simp only [Nat.reduceEqDiff] at hd); (try simp only [reduceIte] at hd); (try simp only [and_true] at hd); (try simp only [true_and] at hd); obtain ⟨h4, a, l, k, e, h5⟩ := hd; exact ⟨.int .i64 e, fun w2 => (by clear h4; go_simp), a, l, k, e, h5, rfl⟩))))
  skip
  (try clear hc hf h); intro u w' h ha hdi; replace h := h.ins; (try simp only [World.size_alloc] at h); (try dsimp only at ha); (repeat rw [World.size_alloc] at ha); (try simp only [allH] at ha); (try simp only [ext] at ha); (try simp only [extU] at ha); (try simp only [Nat.reduceAdd] at ha); (try simp only [Nat.reduceEqDiff] at ha); (try simp only [reduceIte] at ha); (try simp only [and_true] at ha); (try simp only [true_and] at ha); have hc := h.cell; have hf := h.frozen; have hb := h.bel; clear hdi hc hf; clear s0 s1 s2 sl; replace hin := hin.call hb; replace hs := hs.call hb; replace bS := bS.call hb; clear hb h; rename World => Wa
  obtain ⟨⟨⟨⟨⟨⟨h0, h1⟩, h2⟩, h3⟩, h4⟩, h5⟩, h6⟩ := ha
  obtain ⟨_, d, g3, hst⟩ := h3
  obtain ⟨g4, g5, g6⟩ := tups_out g3 h4 h5 h6
  (try dsimp only)
  simp only [g5, g6]
  clear h0 h1 h2 h4 h5 h6 g3 g4 g5 g6
  obtain ⟨b, off, cap, he, hall⟩ := hst.open
  replace he : d = .slice (some ⟨b, off, none⟩) 3 cap := he
  subst he
  obtain ⟨xa0, ra0, pa0, xk0, rk0, pk0, K0⟩ := hall 0 (by decide)
  obtain ⟨xa1, ra1, pa1, xk1, rk1, pk1, K1⟩ := hall 1 (by decide)
  obtain ⟨xa2, ra2, pa2, xk2, rk2, pk2, K2⟩ := hall 2 (by decide)
  clear hst hall
  skip
  have HK := Lib.hid (show b < Wa.heap.size from K2.lt)
  go_upto_region 5 with fail
  ((have s0 := bS.c0); (have s1 := bS.c1); (have s2 := bS.c2); (have sl := bS.lt))
  have k0 := K2.c0
  have kl := K2.lt
  skip
  have c5 := fun W v (h : In Wa.heap.size Wa W) (hv : VcQ (vl 2 wkb) v W) => energy_vl (m := 1000) W _ v _ (hs.call h.bel) wk_sym hv (K2.x.call h.bel) (wk_one wk_c2)
  rw [wk_ev] at c5
  have h := In.self Wa; have hc := h.cell; have hf := h.frozen; refine wp_region_flow 12 (by kernel_rfl) (by kernel_rfl) (fun _ _ d _ _ h => by cases d <;> exact h) ?_; simp only [List.take_succ_cons, List.take_zero, List.drop_succ_cons, List.drop_zero]; simp only [putAll, Act.put, List.setIfInBounds_toArray, List.set]; (try simp only [Nat.reduceAdd]); (try simp only [Nat.zero_add]); (repeat (first | ((with_reducible refine flow_float (v := ?_) ?_ ?_ ?_); rotate_left 1; (focus (with_reducible rfl)); (focus (intro u w1 hw hd w2; (try simp only [depH] at hd); (try simp only [ext] at hd); (try simp only [extU] at hd); (try simp only [Nat.reduceAdd] at hd); (try simp only [Nat.reduceEqDiff] at hd); (try simp only [reduceIte] at hd); (try simp only [and_true] at hd); (try simp only [true_and] at hd); go_simp; exact rfl))) | ((first | ((with_reducible refine flow_pure0 (v := ?_) ?_ ?_ ?_ ?_); rotate_left 1; (focus (with_reducible rfl)); (focus rfl)) | ((with_reducible refine flow_pureg (v := ?_) (j := ?_) (b := ?_) ?_ ?_ ?_ ?_); rotate_left 3; (focus (with_reducible rfl)); (focus (intro u w1 hw hd; (try simp only [depH] at hd); (try simp only [ext] at hd); (try simp only [extU] at hd); (try simp only [Nat.reduceAdd] at hd); (try simp only [Nat.reduceEqDiff] at hd); (try simp only [reduceIte] at hd); (try simp only [and_true] at hd); (try simp only [true_and] at hd); simp [yielded, hd]; done)))); (focus (intro u w1 hw hd; (try simp only [depH] at hd); (try simp only [ext] at hd); (try simp only [extU] at hd); (try simp only [Nat.reduceAdd] at hd); (try simp only [Nat.reduceEqDiff] at hd); (try simp only [reduceIte] at hd); (try simp only [and_true] at hd); (try simp only [true_and] at hd); have hc' := hw.cell; go_simp; exact rfl))) | ((with_reducible refine flow_skipg (j := ?_) (b := ?_) ?_ ?_ ?_); rotate_left 2; (focus (with_reducible rfl)); (focus (intro u w1 hw hd; (try simp only [depH] at hd); (try simp only [ext] at hd); (try simp only [extU] at hd); (try simp only [Nat.reduceAdd] at hd); (try simp only [Nat.reduceEqDiff] at hd); (try simp only [reduceIte] at hd); (try simp only [and_true] at hd); (try simp only [true_and] at hd); simp [yielded, hd]; done))) | ((with_reducible refine flow_alloc (t := ?_) (zs := ?_) ?_ ?_ ?_ ?_); rotate_left 2; (focus (with_reducible rfl)); (focus rfl); (focus (intro u w1; go_simp; exact rfl)))))
  ((with_reducible refine flow_slice (t := 2) (zs := #[.int .i64 1, .int .i64 2]) (n := 2) ?_ ?_ ?_ ?_); (focus (with_reducible rfl)); (focus rfl); (focus (intro u w1 hw hd; (try simp only [depH] at hd); (try simp only [ext] at hd); (try simp only [extU] at hd); (try simp only [Nat.reduceAdd] at hd); (try simp only [Nat.reduceEqDiff] at hd); (try simp only [reduceIte] at hd); (try simp only [and_true] at hd); (try simp only [true_and] at hd); (try go_simp); (try exact rfl))))
  (with_reducible refine flow_rel (Vi := VcQ (vl 2 wkb)) false ?_ ?_ ?_ ?_ ?_ ?_); (focus rfl); (focus rfl); (focus exact stable_vcq _); (focus exact placed_false _); (focus (intro u w1 hw hd; (try simp only [depH] at hd); (try simp only [ext] at hd); (try simp only [extU] at hd); (try simp only [Nat.reduceAdd] at hd); (try simp only [Nat.reduceEqDiff] at hd); (try simp only [reduceIte] at hd); (try simp only [and_true] at hd); (try simp only [true_and] at hd); obtain hd := hd; have hc' := hw.cell; go_simp; (try simp only [okUpon]); go_at_call 48; ((with_reducible refine (wk_of 1 2 (by decide) (by decide) _ wk_b _ _ hd).mono ?_)); rintro e w'' ⟨⟨v, rfl, hv⟩, hb⟩; exact ⟨v, rfl, ⟨hv, fun h => by cases h⟩, hb⟩))
  (repeat (first | ((with_reducible refine flow_float (v := ?_) ?_ ?_ ?_); rotate_left 1; (focus (with_reducible rfl)); (focus (intro u w1 hw hd w2; (try simp only [depH] at hd); (try simp only [ext] at hd); (try simp only [extU] at hd); (try simp only [Nat.reduceAdd] at hd); (try simp only [Nat.reduceEqDiff] at hd); (try simp only [reduceIte] at hd); (try simp only [and_true] at hd); (try simp only [true_and] at hd); go_simp; exact rfl))) | ((first | ((with_reducible refine flow_pure0 (v := ?_) ?_ ?_ ?_ ?_); rotate_left 1; (focus (with_reducible rfl)); (focus rfl)) | ((with_reducible refine flow_pureg (v := ?_) (j := ?_) (b := ?_) ?_ ?_ ?_ ?_); rotate_left 3; (focus (with_reducible rfl)); (focus (intro u w1 hw hd; (try simp only [depH] at hd); (try simp only [ext] at hd); (try simp only [extU] at hd); (try simp only [Nat.reduceAdd] at hd); (try simp only [Nat.reduceEqDiff] at hd); (try simp only [reduceIte] at hd); (try simp only [and_true] at hd); (try simp only [true_and] at hd); simp [yielded, hd]; done)))); (focus (intro u w1 hw hd; (try simp only [depH] at hd); (try simp only [ext] at hd); (try simp only [extU] at hd); (try simp only [Nat.reduceAdd] at hd); (try simp only [Nat.reduceEqDiff] at hd); (try simp only [reduceIte] at hd); (try simp only [and_true] at hd); (try simp only [true_and] at hd); have hc' := hw.cell; go_simp; exact rfl))) | ((with_reducible refine flow_skipg (j := ?_) (b := ?_) ?_ ?_ ?_); rotate_left 2; (focus (with_reducible rfl)); (focus (intro u w1 hw hd; (try simp only [depH] at hd); (try simp only [ext] at hd); (try simp only [extU] at hd); (try simp only [Nat.reduceAdd] at hd); (try simp only [Nat.reduceEqDiff] at hd); (try simp only [reduceIte] at hd); (try simp only [and_true] at hd); (try simp only [true_and] at hd); simp [yielded, hd]; done))) | ((with_reducible refine flow_alloc (t := ?_) (zs := ?_) ?_ ?_ ?_ ?_); rotate_left 2; (focus (with_reducible rfl)); (focus rfl); (focus (intro u w1; go_simp; exact rfl)))))
  (with_reducible refine flow_pure0 (v := .tuple #[.agg #[.int .u64 15, .string ⟨#[]⟩, .bool true, .int .u64 21, .string ⟨#[]⟩], .int .i64 0]) ?_ ?_ ?_ ?_); (focus (with_reducible rfl)); (focus rfl); (focus (intro u w1 hw hd; (try simp only [depH] at hd); (try simp only [ext] at hd); (try simp only [extU] at hd); (try simp only [Nat.reduceAdd] at hd); (try simp only [Nat.reduceEqDiff] at hd); (try simp only [reduceIte] at hd); (try simp only [and_true] at hd); (try simp only [true_and] at hd); obtain ⟨hd1, hd2, hd3⟩ := hd; have hc' := hw.cell; go_simp; go_at_call 22; ((with_reducible refine (c5 _ _ hw.ins hd2).mono ?_)); rintro e w'' ⟨rfl, hb⟩; exact ⟨rfl, hb⟩))
  (repeat (first | ((with_reducible refine flow_float (v := ?_) ?_ ?_ ?_); rotate_left 1; (focus (with_reducible rfl)); (focus (intro u w1 hw hd w2; (try simp only [depH] at hd); (try simp only [ext] at hd); (try simp only [extU] at hd); (try simp only [Nat.reduceAdd] at hd); (try simp only [Nat.reduceEqDiff] at hd); (try simp only [reduceIte] at hd); (try simp only [and_true] at hd); (try simp only [true_and] at hd); go_simp; exact rfl))) | ((first | ((with_reducible refine flow_pure0 (v := ?_) ?_ ?_ ?_ ?_); rotate_left 1; (focus (with_reducible rfl)); (focus rfl)) | ((with_reducible refine flow_pureg (v := ?_) (j := ?_) (b := ?_) ?_ ?_ ?_ ?_); rotate_left 3; (focus (with_reducible rfl)); (focus (intro u w1 hw hd; (try simp only [depH] at hd); (try simp only [ext] at hd); (try simp only [extU] at hd); (try simp only [Nat.reduceAdd] at hd); (try simp only [Nat.reduceEqDiff] at hd); (try simp only [reduceIte] at hd); (try simp only [and_true] at hd); (try simp only [true_and] at hd); simp [yielded, hd]; done)))); (focus (intro u w1 hw hd; (try simp only [depH] at hd); (try simp only [ext] at hd); (try simp only [extU] at hd); (try simp only [Nat.reduceAdd] at hd); (try simp only [Nat.reduceEqDiff] at hd); (try simp only [reduceIte] at hd); (try simp only [and_true] at hd); (try simp only [true_and] at hd); have hc' := hw.cell; go_simp; exact rfl))) | ((with_reducible refine flow_skipg (j := ?_) (b := ?_) ?_ ?_ ?_); rotate_left 2; (focus (with_reducible rfl)); (focus (intro u w1 hw hd; (try simp only [depH] at hd); (try simp only [ext] at hd); (try simp only [extU] at hd); (try simp only [Nat.reduceAdd] at hd); (try simp only [Nat.reduceEqDiff] at hd); (try simp only [reduceIte] at hd); (try simp only [and_true] at hd); (try simp only [true_and] at hd); simp [yielded, hd]; done))) | ((with_reducible refine flow_alloc (t := ?_) (zs := ?_) ?_ ?_ ?_ ?_); rotate_left 2; (focus (with_reducible rfl)); (focus rfl); (focus (intro u w1; go_simp; exact rfl)))))
  (try clear hc hf h); intro u w' h ha hdi; replace h := h.ins; (try simp only [World.size_alloc] at h); (try dsimp only at ha); (repeat rw [World.size_alloc] at ha); (try simp only [allH] at ha); (try simp only [ext] at ha); (try simp only [extU] at ha); (try simp only [Nat.reduceAdd] at ha); (try simp only [Nat.reduceEqDiff] at ha); (try simp only [reduceIte] at ha); (try simp only [and_true] at ha); (try simp only [true_and] at ha); have hc := h.cell; have hf := h.frozen; clear hdi hc hf; rename World => wf
  clear c5
  obtain ⟨ha, E, hu, hE, bE⟩ := ha
  (try dsimp only)
  simp only [ha, hu]
  clear ha hu
  skip
  ((have p0 := bE.c0); (have p1 := bE.c1); (have p2 := bE.c2); (have p3 := bE.c3); (have p4 := bE.c4); (have pf0 := bE.frozen 0); (have pf1 := bE.frozen 1); (have pf2 := bE.frozen 2); (have pf3 := bE.frozen 3); (have pf4 := bE.frozen 4); (have pl := bE.lt); (have KS := Lib.hid (((((bE.set 0 (.int .u64 15)).set 1 (.string ⟨#[]⟩)).set 2 (.bool true)).set 3 (.int .u64 21)).set 4 (.string ⟨#[]⟩))); (have KH := Lib.hid (((((h.setCell (p := ⟨E, 0, none⟩) (by first | exact hE | (simp; omega)) (.int .u64 15)).setCell (p := ⟨E, 1, none⟩) (by first | exact hE | (simp; omega)) (.string ⟨#[]⟩)).setCell (p := ⟨E, 2, none⟩) (by first | exact hE | (simp; omega)) (.bool true)).setCell (p := ⟨E, 3, none⟩) (by first | exact hE | (simp; omega)) (.int .u64 21)).setCell (p := ⟨E, 4, none⟩) (by first | exact hE | (simp; omega)) (.string ⟨#[]⟩))); (clear h bE); (go_upto_region 6 with fail); (have hb := KH.out.bel); (have bE := KS.out); (simp only [List.set] at bE); (clear s0 s1 s2 sl k0 kl); (replace hin := hin.call hb); (replace hs := hs.call hb); (replace K0 := K0.call hb); (replace K1 := K1.call hb); (replace K2 := K2.call hb); (replace bS := bS.call hb); (clear KS KH hb pl p0 p1 p2 p3 p4 pf0 pf1 pf2 pf3 pf4); (generalize ((((wf.setCell ⟨E, 0, none⟩ (.int .u64 15)).setCell ⟨E, 1, none⟩ (.string ⟨#[]⟩)).setCell ⟨E, 2, none⟩ (.bool true)).setCell ⟨E, 3, none⟩ (.int .u64 21)).setCell ⟨E, 4, none⟩ (.string ⟨#[]⟩) = Wb at *))
  ((have s0 := bS.c0); (have s1 := bS.c1); (have s2 := bS.c2); (have sl := bS.lt))
  have c6 := fun W v (h : In Wb.heap.size Wb W) (hb : VcQ (vl 2 wkb) v W) u (hu : VcQ (vl 2 wk1) u W) => (left_vl (m := 1000) W _ v u (hs.call h.bel) wk_sym hb hu (wk_one wk_c1)).mono fun _ _ h => tupv_mk h
  rw [wk_left] at c6
  have h := In.self Wb; have hc := h.cell; have hf := h.frozen; refine wp_region_flow 9 (by kernel_rfl) (by kernel_rfl) (fun _ _ d _ _ h => by cases d <;> exact h) ?_; simp only [List.take_succ_cons, List.take_zero, List.drop_succ_cons, List.drop_zero]; simp only [putAll, Act.put, List.setIfInBounds_toArray, List.set]; (try simp only [Nat.reduceAdd]); (try simp only [Nat.zero_add]); (repeat (first | ((with_reducible refine flow_float (v := ?_) ?_ ?_ ?_); rotate_left 1; (focus (with_reducible rfl)); (focus (intro u w1 hw hd w2; (try simp only [depH] at hd); (try simp only [ext] at hd); (try simp only [extU] at hd); (try simp only [Nat.reduceAdd] at hd); (try simp only [Nat.reduceEqDiff] at hd); (try simp only [reduceIte] at hd); (try simp only [and_true] at hd); (try simp only [true_and] at hd); go_simp; exact rfl))) | ((first | ((with_reducible refine flow_pure0 (v := ?_) ?_ ?_ ?_ ?_); rotate_left 1; (focus (with_reducible rfl)); (focus rfl)) | ((with_reducible refine flow_pureg (v := ?_) (j := ?_) (b := ?_) ?_ ?_ ?_ ?_); rotate_left 3; (focus (with_reducible rfl)); (focus (intro u w1 hw hd; (try simp only [depH] at hd); (try simp only [ext] at hd); (try simp only [extU] at hd); (try simp only [Nat.reduceAdd] at hd); (try simp only [Nat.reduceEqDiff] at hd); (try simp only [reduceIte] at hd); (try simp only [and_true] at hd); (try simp only [true_and] at hd); simp [yielded, hd]; done)))); (focus (intro u w1 hw hd; (try simp only [depH] at hd); (try simp only [ext] at hd); (try simp only [extU] at hd); (try simp only [Nat.reduceAdd] at hd); (try simp only [Nat.reduceEqDiff] at hd); (try simp only [reduceIte] at hd); (try simp only [and_true] at hd); (try simp only [true_and] at hd); have hc' := hw.cell; go_simp; exact rfl))) | ((with_reducible refine flow_skipg (j := ?_) (b := ?_) ?_ ?_ ?_); rotate_left 2; (focus (with_reducible rfl)); (focus (intro u w1 hw hd; (try simp only [depH] at hd); (try simp only [ext] at hd); (try simp only [extU] at hd); (try simp only [Nat.reduceAdd] at hd); (try simp only [Nat.reduceEqDiff] at hd); (try simp only [reduceIte] at hd); (try simp only [and_true] at hd); (try simp only [true_and] at hd); simp [yielded, hd]; done))) | ((with_reducible refine flow_alloc (t := ?_) (zs := ?_) ?_ ?_ ?_ ?_); rotate_left 2; (focus (with_reducible rfl)); (focus rfl); (focus (intro u w1; go_simp; exact rfl)))))
  ((with_reducible refine flow_slice (t := 2) (zs := #[.int .i64 1, .int .i64 2]) (n := 2) ?_ ?_ ?_ ?_); (focus (with_reducible rfl)); (focus rfl); (focus (intro u w1 hw hd; (try simp only [depH] at hd); (try simp only [ext] at hd); (try simp only [extU] at hd); (try simp only [Nat.reduceAdd] at hd); (try simp only [Nat.reduceEqDiff] at hd); (try simp only [reduceIte] at hd); (try simp only [and_true] at hd); (try simp only [true_and] at hd); (try go_simp); (try exact rfl))))
  (with_reducible refine flow_rel (Vi := VcQ (vl 2 wkb)) false ?_ ?_ ?_ ?_ ?_ ?_); (focus rfl); (focus rfl); (focus exact stable_vcq _); (focus exact placed_false _); (focus (intro u w1 hw hd; (try simp only [depH] at hd); (try simp only [ext] at hd); (try simp only [extU] at hd); (try simp only [Nat.reduceAdd] at hd); (try simp only [Nat.reduceEqDiff] at hd); (try simp only [reduceIte] at hd); (try simp only [and_true] at hd); (try simp only [true_and] at hd); obtain hd := hd; have hc' := hw.cell; go_simp; (try simp only [okUpon]); go_at_call 48; ((with_reducible refine (wk_of 1 2 (by decide) (by decide) _ wk_b _ _ hd).mono ?_)); rintro e w'' ⟨⟨v, rfl, hv⟩, hb⟩; exact ⟨v, rfl, ⟨hv, fun h => by cases h⟩, hb⟩))
  ((with_reducible refine flow_slice (t := 2) (zs := #[.int .i64 1, .int .i64 1]) (n := 2) ?_ ?_ ?_ ?_); (focus (with_reducible rfl)); (focus rfl); (focus (intro u w1 hw hd; (try simp only [depH] at hd); (try simp only [ext] at hd); (try simp only [extU] at hd); (try simp only [Nat.reduceAdd] at hd); (try simp only [Nat.reduceEqDiff] at hd); (try simp only [reduceIte] at hd); (try simp only [and_true] at hd); (try simp only [true_and] at hd); (try go_simp); (try exact rfl))))
  (with_reducible refine flow_rel (Vi := VcQ (vl 2 wk1)) false ?_ ?_ ?_ ?_ ?_ ?_); (focus rfl); (focus rfl); (focus exact stable_vcq _); (focus exact placed_false _); (focus (intro u w1 hw hd; (try simp only [depH] at hd); (try simp only [ext] at hd); (try simp only [extU] at hd); (try simp only [Nat.reduceAdd] at hd); (try simp only [Nat.reduceEqDiff] at hd); (try simp only [reduceIte] at hd); (try simp only [and_true] at hd); (try simp only [true_and] at hd); obtain ⟨hd1, hd2⟩ := hd; have hc' := hw.cell; go_simp; (try simp only [okUpon]); go_at_call 48; ((with_reducible refine (wk_of 1 1 (by decide) (by decide) _ wk_1 _ _ hd1).mono ?_)); rintro e w'' ⟨⟨v, rfl, hv⟩, hb⟩; exact ⟨v, rfl, ⟨hv, fun h => by cases h⟩, hb⟩))
  (with_reducible refine flow_rel (Vi := TupV [-4, -2]) false ?_ ?_ ?_ ?_ ?_ ?_); (focus rfl); (focus rfl); (focus exact stable_tupv _); (focus exact placed_false _); (focus (intro u w1 hw hd; (try simp only [depH] at hd); (try simp only [ext] at hd); (try simp only [extU] at hd); (try simp only [Nat.reduceAdd] at hd); (try simp only [Nat.reduceEqDiff] at hd); (try simp only [reduceIte] at hd); (try simp only [and_true] at hd); (try simp only [true_and] at hd); obtain ⟨hd1, hd2, hd3⟩ := hd; have hc' := hw.cell; go_simp; (try simp only [okUpon]); go_at_call 17; ((with_reducible refine (c6 _ _ hw.ins hd2 _ hd3.1).mono ?_)); rintro e w'' ⟨⟨v, rfl, hv⟩, hb⟩; exact ⟨v, rfl, ⟨hv, fun h => by cases h⟩, hb⟩))
  (((with_reducible refine flow_link (k := 5) (R := MvS) ?_ ?_ ?_ ?_); (focus rfl); (focus rfl); (focus (intro u w1 hw hd; (try simp only [depH] at hd); (try simp only [ext] at hd); (try simp only [extU] at hd); (try simp only [Nat.reduceAdd] at hd); (try simp only [Nat.reduceEqDiff] at hd); (try simp only [reduceIte] at hd); (try simp only [and_true] at hd); (try simp only [true_and] at hd); obtain ⟨⟨a, l, k, e, h3⟩, _⟩ := hd; exact ⟨u 5, fun w2 => (by go_simp), rfl, a, l, k, e, h3⟩))); ((with_reducible refine flow_link (k := 6) (R := FstS) ?_ ?_ ?_ ?_); (focus rfl); (focus rfl); (focus (intro u w1 hw hd; (try simp only [depH] at hd); (try simp only [ext] at hd); (try simp only [extU] at hd); (try simp only [Nat.reduceAdd] at hd); (try simp only [Nat.reduceEqDiff] at hd); (try simp only [reduceIte] at hd); (try simp only [and_true] at hd); (try simp only [true_and] at hd); obtain ⟨h4, a, l, k, e, h5⟩ := hd; exact ⟨.slice a l k, fun w2 => (by clear h4; go_simp), a, l, k, e, h5, rfl⟩))); ((with_reducible refine flow_link (k := 6) (R := SndS) ?_ ?_ ?_ ?_); (focus rfl); (focus rfl); (focus (intro u w1 hw hd; (try simp only [depH] at hd); (try simp only [ext] at hd); (try simp only [extU] at hd); (try simp only [Nat.reduceAdd] at hd); (try simp only [Nat.reduceEqDiff] at hd); (try simp only [reduceIte] at hd); (try simp only [and_true] at hd); (try simp only [true_and] at hd); obtain ⟨h4, a, l, k, e, h5⟩ := hd; exact ⟨.int .i64 e, fun w2 => (by clear h4; go_simp), a, l, k, e, h5, rfl⟩))))
  skip
  (try clear hc hf h); intro u w' h ha hdi; replace h := h.ins; (try simp only [World.size_alloc] at h); (try dsimp only at ha); (repeat rw [World.size_alloc] at ha); (try simp only [allH] at ha); (try simp only [ext] at ha); (try simp only [extU] at ha); (try simp only [Nat.reduceAdd] at ha); (try simp only [Nat.reduceEqDiff] at ha); (try simp only [reduceIte] at ha); (try simp only [and_true] at ha); (try simp only [true_and] at ha); have hc := h.cell; have hf := h.frozen; have hb := h.bel; clear hdi hc hf; clear s0 s1 s2 sl c6; replace hin := hin.call hb; replace hs := hs.call hb; replace K0 := K0.call hb; replace K1 := K1.call hb; replace K2 := K2.call hb; replace bS := bS.call hb; replace bE := bE.call hb; clear hb h; rename World => Wc
  obtain ⟨⟨⟨⟨⟨⟨⟨⟨h0, h1⟩, h2⟩, h3⟩, h4⟩, h5⟩, h6⟩, h7⟩, h8⟩ := ha
  obtain ⟨_, dl, g5, hl⟩ := h5
  obtain ⟨g6, g7, g8⟩ := tups_out g5 h6 h7 h8
  (try dsimp only)
  simp only [g7, g8]
  clear h0 h1 h2 h3 h4 h6 h7 h8 g5 g6 g7 g8
  obtain ⟨la, lk, he⟩ := hl.shape
  replace he : dl = .slice la 2 lk := he
  subst he
  have x0 := K0.x
  have x1 := K1.x
  have x2 := K2.x
  have r0 := K0.r
  have r1 := K1.r
  have r2 := K2.r
  rw [wk_x0] at x0
  rw [wk_x1] at x1
  rw [wk_x2] at x2
  rw [wk_r0] at r0
  rw [wk_r1] at r1
  rw [wk_r2] at r2
  have CK : CellsK Wc b [(off, .slice xa0 2 xk0), (off + 1, .slice ra0 2 rk0), (off + 3, .int .u64 1), (off + 4, .string ⟨#[]⟩), (off + 5, .bool false), (off + 6, .int .u64 3), (off + 7, .string ⟨#[]⟩), (off + 13, .slice xa1 2 xk1), (off + 14, .slice ra1 2 rk1), (off + 16, .int .u64 4), (off + 17, .string ⟨#[]⟩), (off + 18, .bool false), (off + 19, .int .u64 10), (off + 20, .string ⟨#[]⟩), (off + 26, .slice xa2 2 xk2), (off + 27, .slice ra2 2 rk2), (off + 29, .int .u64 0), (off + 30, .string ⟨#[]⟩), (off + 31, .bool false), (off + 32, .int .u64 0), (off + 33, .string ⟨#[]⟩)] := ⟨K0.lt, fun x hx => by
    simp only [List.mem_cons, List.not_mem_nil, or_false] at hx
    rcases hx with rfl | rfl | rfl | rfl | rfl | rfl | rfl | rfl | rfl | rfl | rfl | rfl | rfl | rfl | rfl | rfl | rfl | rfl | rfl | rfl | rfl
    · exact K0.c0
    · exact K0.c1
    · exact (K0.cf 0 (by decide)).trans (by rw [wk_fc0]; rfl)
    · exact (K0.cf 1 (by decide)).trans (by rw [wk_fc0]; rfl)
    · exact (K0.cf 2 (by decide)).trans (by rw [wk_fc0]; rfl)
    · exact (K0.cf 3 (by decide)).trans (by rw [wk_fc0]; rfl)
    · exact (K0.cf 4 (by decide)).trans (by rw [wk_fc0]; rfl)
    · exact K1.c0
    · exact K1.c1
    · exact (K1.cf 0 (by decide)).trans (by rw [wk_fc1]; rfl)
    · exact (K1.cf 1 (by decide)).trans (by rw [wk_fc1]; rfl)
    · exact (K1.cf 2 (by decide)).trans (by rw [wk_fc1]; rfl)
    · exact (K1.cf 3 (by decide)).trans (by rw [wk_fc1]; rfl)
    · exact (K1.cf 4 (by decide)).trans (by rw [wk_fc1]; rfl)
    · exact K2.c0
    · exact K2.c1
    · exact (K2.cf 0 (by decide)).trans (by rw [wk_fc2]; rfl)
    · exact (K2.cf 1 (by decide)).trans (by rw [wk_fc2]; rfl)
    · exact (K2.cf 2 (by decide)).trans (by rw [wk_fc2]; rfl)
    · exact (K2.cf 3 (by decide)).trans (by rw [wk_fc2]; rfl)
    · exact (K2.cf 4 (by decide)).trans (by rw [wk_fc2]; rfl)⟩
  clear K0 K1 K2 hs bS
  skip
  go_upto_region 7 with fail
  go_step
  simp only [List.append_eq, List.cons_append, List.nil_append]
  skip
  have ckl := CK.lt
  have ck0 : Wc.cell? ⟨b, off, none⟩ = some (.slice xa0 2 xk0) := CK.get (off, .slice xa0 2 xk0) (List.mem_of_getElem? (i := 0) rfl)
  have ct := fun W v (h : VecAt W v [0, 0]) => wk_txt W v [0, 0] _ h (by decide) (by decide +kernel) wk_t00
  ((go_wp2_with fail); (((with_reducible refine (ct _ _ x0).mono ?_))); (rintro e wc11 ⟨rfl, hb⟩); (clear ck0 ckl ct); (replace hin := hin.call hb); (replace x0 := x0.call hb); (replace x1 := x1.call hb); (replace x2 := x2.call hb); (replace r0 := r0.call hb); (replace r1 := r1.call hb); (replace r2 := r2.call hb); (replace CK := CK.call hb); (replace hl := hl.call hb); (replace bE := bE.call hb); (clear hb))
  skip
  have ckl := CK.lt
  have ck1 : wc11.cell? ⟨b, off + 1, none⟩ = some (.slice ra0 2 rk0) := CK.get (off + 1, .slice ra0 2 rk0) (List.mem_of_getElem? (i := 1) rfl)
  have ct := fun W v (h : VecAt W v [1, 2]) => wk_txt W v [1, 2] _ h (by decide) (by decide +kernel) wk_t12
  ((go_wp2_with fail); (((with_reducible refine (ct _ _ r0).mono ?_))); (rintro e wc12 ⟨rfl, hb⟩); (clear ck1 ckl ct); (replace hin := hin.call hb); (replace x0 := x0.call hb); (replace x1 := x1.call hb); (replace x2 := x2.call hb); (replace r0 := r0.call hb); (replace r1 := r1.call hb); (replace r2 := r2.call hb); (replace CK := CK.call hb); (replace hl := hl.call hb); (replace bE := bE.call hb); (clear hb))
  skip
  have ckl := CK.lt
  have ck2 : wc12.cell? ⟨b, off + 3, none⟩ = some (.int .u64 1) := CK.get (off + 3, .int .u64 1) (List.mem_of_getElem? (i := 2) rfl)
  have ck3 : wc12.cell? ⟨b, off + 4, none⟩ = some (.string ⟨#[]⟩) := CK.get (off + 4, .string ⟨#[]⟩) (List.mem_of_getElem? (i := 3) rfl)
  have ck4 : wc12.cell? ⟨b, off + 5, none⟩ = some (.bool false) := CK.get (off + 5, .bool false) (List.mem_of_getElem? (i := 4) rfl)
  have ck5 : wc12.cell? ⟨b, off + 6, none⟩ = some (.int .u64 3) := CK.get (off + 6, .int .u64 3) (List.mem_of_getElem? (i := 5) rfl)
  have ck6 : wc12.cell? ⟨b, off + 7, none⟩ = some (.string ⟨#[]⟩) := CK.get (off + 7, .string ⟨#[]⟩) (List.mem_of_getElem? (i := 6) rfl)
  have ct := fun W => wk_rtx W (1 / 4) _ _ wk_fv0 (by decide +kernel) (by decide +kernel) wk_t14
  ((go_wp2_with fail); (((with_reducible refine (ct _).mono ?_))); (rintro e wc13 ⟨rfl, hb⟩); (clear ck2 ck3 ck4 ck5 ck6 ckl ct); (replace hin := hin.call hb); (replace x0 := x0.call hb); (replace x1 := x1.call hb); (replace x2 := x2.call hb); (replace r0 := r0.call hb); (replace r1 := r1.call hb); (replace r2 := r2.call hb); (replace CK := CK.call hb); (replace hl := hl.call hb); (replace bE := bE.call hb); (clear hb))
  skip
  have ckl := CK.lt
  have ck7 : wc13.cell? ⟨b, off + 13, none⟩ = some (.slice xa1 2 xk1) := CK.get (off + 13, .slice xa1 2 xk1) (List.mem_of_getElem? (i := 7) rfl)
  have ct := fun W v (h : VecAt W v [1 / 4, 1 / 2]) => wk_txt W v [1 / 4, 1 / 2] _ h (by decide) (by decide +kernel) wk_tx1
  ((go_wp2_with fail); (((with_reducible refine (ct _ _ x1).mono ?_))); (rintro e wc14 ⟨rfl, hb⟩); (clear ck7 ckl ct); (replace hin := hin.call hb); (replace x0 := x0.call hb); (replace x1 := x1.call hb); (replace x2 := x2.call hb); (replace r0 := r0.call hb); (replace r1 := r1.call hb); (replace r2 := r2.call hb); (replace CK := CK.call hb); (replace hl := hl.call hb); (replace bE := bE.call hb); (clear hb))
  skip
  have ckl := CK.lt
  have ck8 : wc14.cell? ⟨b, off + 14, none⟩ = some (.slice ra1 2 rk1) := CK.get (off + 14, .slice ra1 2 rk1) (List.mem_of_getElem? (i := 8) rfl)
  have ct := fun W v (h : VecAt W v [-1 / 2, 1 / 4]) => wk_txt W v [-1 / 2, 1 / 4] _ h (by decide) (by decide +kernel) wk_tr1
  ((go_wp2_with fail); (((with_reducible refine (ct _ _ r1).mono ?_))); (rintro e wc15 ⟨rfl, hb⟩); (clear ck8 ckl ct); (replace hin := hin.call hb); (replace x0 := x0.call hb); (replace x1 := x1.call hb); (replace x2 := x2.call hb); (replace r0 := r0.call hb); (replace r1 := r1.call hb); (replace r2 := r2.call hb); (replace CK := CK.call hb); (replace hl := hl.call hb); (replace bE := bE.call hb); (clear hb))
  skip
  have ckl := CK.lt
  have ck9 : wc15.cell? ⟨b, off + 16, none⟩ = some (.int .u64 4) := CK.get (off + 16, .int .u64 4) (List.mem_of_getElem? (i := 9) rfl)
  have ck10 : wc15.cell? ⟨b, off + 17, none⟩ = some (.string ⟨#[]⟩) := CK.get (off + 17, .string ⟨#[]⟩) (List.mem_of_getElem? (i := 10) rfl)
  have ck11 : wc15.cell? ⟨b, off + 18, none⟩ = some (.bool false) := CK.get (off + 18, .bool false) (List.mem_of_getElem? (i := 11) rfl)
  have ck12 : wc15.cell? ⟨b, off + 19, none⟩ = some (.int .u64 10) := CK.get (off + 19, .int .u64 10) (List.mem_of_getElem? (i := 12) rfl)
  have ck13 : wc15.cell? ⟨b, off + 20, none⟩ = some (.string ⟨#[]⟩) := CK.get (off + 20, .string ⟨#[]⟩) (List.mem_of_getElem? (i := 13) rfl)
  have ct := fun W => wk_rtx W (4 / 11) _ _ wk_fv1 (by decide +kernel) (by decide +kernel) wk_t411
  ((go_wp2_with fail); (((with_reducible refine (ct _).mono ?_))); (rintro e wc16 ⟨rfl, hb⟩); (clear ck9 ck10 ck11 ck12 ck13 ckl ct); (replace hin := hin.call hb); (replace x0 := x0.call hb); (replace x1 := x1.call hb); (replace x2 := x2.call hb); (replace r0 := r0.call hb); (replace r1 := r1.call hb); (replace r2 := r2.call hb); (replace CK := CK.call hb); (replace hl := hl.call hb); (replace bE := bE.call hb); (clear hb))
  skip
  have ckl := CK.lt
  have ck14 : wc16.cell? ⟨b, off + 26, none⟩ = some (.slice xa2 2 xk2) := CK.get (off + 26, .slice xa2 2 xk2) (List.mem_of_getElem? (i := 14) rfl)
  have ct := fun W v (h : VecAt W v [1 / 11, 7 / 11]) => wk_txt W v [1 / 11, 7 / 11] _ h (by decide) (by decide +kernel) wk_tx2
  ((go_wp2_with fail); (((with_reducible refine (ct _ _ x2).mono ?_))); (rintro e wc17 ⟨rfl, hb⟩); (clear ck14 ckl ct); (replace hin := hin.call hb); (replace x0 := x0.call hb); (replace x1 := x1.call hb); (replace x2 := x2.call hb); (replace r0 := r0.call hb); (replace r1 := r1.call hb); (replace r2 := r2.call hb); (replace CK := CK.call hb); (replace hl := hl.call hb); (replace bE := bE.call hb); (clear hb))
  skip
  have ckl := CK.lt
  have ck15 : wc17.cell? ⟨b, off + 27, none⟩ = some (.slice ra2 2 rk2) := CK.get (off + 27, .slice ra2 2 rk2) (List.mem_of_getElem? (i := 15) rfl)
  have ct := fun W v (h : VecAt W v [0, 0]) => wk_txt W v [0, 0] _ h (by decide) (by decide +kernel) wk_t00
  ((go_wp2_with fail); (((with_reducible refine (ct _ _ r2).mono ?_))); (rintro e wc18 ⟨rfl, hb⟩); (clear ck15 ckl ct); (replace hin := hin.call hb); (replace x0 := x0.call hb); (replace x1 := x1.call hb); (replace x2 := x2.call hb); (replace r0 := r0.call hb); (replace r1 := r1.call hb); (replace r2 := r2.call hb); (replace CK := CK.call hb); (replace hl := hl.call hb); (replace bE := bE.call hb); (clear hb))
  skip
  have ckl := CK.lt
  have ck16 : wc18.cell? ⟨b, off + 29, none⟩ = some (.int .u64 0) := CK.get (off + 29, .int .u64 0) (List.mem_of_getElem? (i := 16) rfl)
  have ck17 : wc18.cell? ⟨b, off + 30, none⟩ = some (.string ⟨#[]⟩) := CK.get (off + 30, .string ⟨#[]⟩) (List.mem_of_getElem? (i := 17) rfl)
  have ck18 : wc18.cell? ⟨b, off + 31, none⟩ = some (.bool false) := CK.get (off + 31, .bool false) (List.mem_of_getElem? (i := 18) rfl)
  have ck19 : wc18.cell? ⟨b, off + 32, none⟩ = some (.int .u64 0) := CK.get (off + 32, .int .u64 0) (List.mem_of_getElem? (i := 19) rfl)
  have ck20 : wc18.cell? ⟨b, off + 33, none⟩ = some (.string ⟨#[]⟩) := CK.get (off + 33, .string ⟨#[]⟩) (List.mem_of_getElem? (i := 20) rfl)
  go_upto_region 9 with fail
  clear ck16 ck17 ck18 ck19 ck20 ckl CK
  ((have e0 := bE.c0); (have e1 := bE.c1); (have e2 := bE.c2); (have e3 := bE.c3); (have e4 := bE.c4); (have el := bE.lt))
  have ct := fun W => wk_rtx W (-15 / 22) _ _ wk_ev2 (by decide +kernel) (by decide +kernel) wk_ten
  ((go_wp2_with fail); (((with_reducible refine (ct _).mono ?_))); (rintro e wc19 ⟨rfl, hb⟩); (clear e0 e1 e2 e3 e4 el ct bE); (replace hin := hin.call hb); (replace x0 := x0.call hb); (replace x1 := x1.call hb); (replace x2 := x2.call hb); (replace r0 := r0.call hb); (replace r1 := r1.call hb); (replace r2 := r2.call hb); (replace hl := hl.call hb); (clear hb))
  have ct := fun W v (h : VecAt W v [-4, -2]) => wk_txt W v [-4, -2] _ h (by decide) (by decide +kernel) wk_tl
  ((go_wp2_with fail); (((with_reducible refine (ct _ _ hl).mono ?_))); (rintro e wc20 ⟨rfl, hb⟩); (clear ct); (replace hin := hin.call hb); (replace x0 := x0.call hb); (replace x1 := x1.call hb); (replace x2 := x2.call hb); (replace r0 := r0.call hb); (replace r1 := r1.call hb); (replace r2 := r2.call hb); (replace hl := hl.call hb); (clear hb))
  go_wp2_with fail
  go_ret
  exact ⟨rfl, hin.bel⟩
end Gus
end
