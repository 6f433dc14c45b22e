/- Proved here: parts of the proof: Rvl Cgm Cgb Fcm Ing Cgv Vmx Cga Cgq Cgk Cgp Cln Cgr. Conditions: those that each theorem states. -/
import Derived.Test.YtjbclomfocnplaaGreatDoorSameR
import Derived.Test.YtjbclomfocnplaaGreatDoorRat
import Derived.Test.YtjbclomfocnplaaGreatDoorSpGR
import Derived.Test.YtjbclomfocnplaaGreatDoorIntR
import Derived.Test.YtjbclomfocnplaaGreatDoorFracDR
import Derived.Test.YtjbclomfocnplaaGreatDoorShelfUR
import Derived.Test.YtjbclomfocnplaaGreatDoorMmuR
section
/- Valid raw matrices are matrices by their values. -/
namespace Gus
open Go Go.RowKit Go.Proofs
theorem rowOk_spec (m : Int) : ∀ (es : List EntI) (last : Int), rowOk m last es = true → es.Pairwise (fun a b => a.1 < b.1) ∧ ∀ x ∈ es, last < x.1 ∧ x.1 < m ∧ x.2 ≠ 0
  | [], _, _ => ⟨.nil, fun x hx => by cases hx⟩
  | e :: es, last, h => by
    unfold rowOk at h
    simp only [Bool.and_eq_true, decide_eq_true_eq] at h
    obtain ⟨⟨⟨h1, h2⟩, h3⟩, h4⟩ := h
    obtain ⟨k1, k2⟩ := rowOk_spec m es e.1 h4
    refine ⟨List.pairwise_cons.2 ⟨fun x hx => (k2 x hx).1, k1⟩, fun x hx => ?_⟩
    rcases List.mem_cons.1 hx with rfl | hx
    · exact ⟨h1, h2, h3⟩
    · have := k2 x hx
      exact ⟨by omega, this.2⟩
/-- the value at a column -/
def colF : List EntI → Nat → Rat
  | [], _ => 0
  | e :: es, k => if e.1 = (k : Int) then e.2 else colF es k
theorem colF_mem : ∀ {es : List EntI} {k : Nat} {q : Rat}, es.Pairwise (fun a b => a.1 < b.1) → (∀ x ∈ es, x.2 ≠ 0) → (((k : Int), q) ∈ es ↔ colF es k ≠ 0 ∧ q = colF es k)
  | [], k, q, _, _ => by simp [colF]
  | e :: es, k, q, hp, h0 => by
    have hp' := List.pairwise_cons.1 hp
    have ih := colF_mem (k := k) (q := q) hp'.2 fun x hx => h0 x (.tail _ hx)
    unfold colF
    by_cases he : e.1 = (k : Int)
    · rw [if_pos he]
      constructor
      · intro h
        rcases List.mem_cons.1 h with h | h
        · exact ⟨h0 e (.head _), by rw [← h]⟩
        · have := hp'.1 _ h
          simp only at this; omega
      · rintro ⟨_, rfl⟩
        exact List.mem_cons.2 (.inl (Prod.ext he.symm rfl))
    · rw [if_neg he, ← ih]
      constructor
      · intro h
        rcases List.mem_cons.1 h with h | h
        · exact absurd (congrArg Prod.fst h).symm he
        · exact h
      · exact fun h => .tail _ h
theorem row_is (M : Nat) (es : List EntI) (h : rowOk M (-1) es = true) : es = (rowOf (colF es) M).map cI := by
  obtain ⟨h1, h2⟩ := rowOk_spec M es (-1) h
  obtain ⟨es', he'⟩ : ∃ es' : List Ent, es' = es.map fun x => (x.1.toNat, x.2) := ⟨_, rfl⟩
  have hb : es'.map cI = es := by
    rw [he', List.map_map]
    conv => rhs; rw [← List.map_id es]
    refine List.map_congr_left fun x hx => ?_
    have := h2 x hx
    show (((x.1.toNat : Nat) : Int), x.2) = x
    exact Prod.ext (by show ((x.1.toNat : Nat) : Int) = x.1; omega) rfl
  have ha : Asc es' := by
    unfold Asc
    rw [he', List.pairwise_map]
    have h3 : es.Pairwise (fun a b => a.1 < b.1 ∧ -1 < a.1) := by
      rw [List.pairwise_iff_getElem] at h1 ⊢
      exact fun i j hi hj hij => ⟨h1 i j hi hj hij, (h2 _ (List.getElem_mem hi)).1⟩
    exact h3.imp fun hx => by omega
  rw [← asc_ext ha (rowOf_asc (colF es) M) fun ⟨k, q⟩ => ?_, hb]
  rw [mem_rowOf]
  have h5 := colF_mem (k := k) (q := q) h1 fun x hx => (h2 x hx).2.2
  have h6 : (k, q) ∈ es' ↔ ((k : Int), q) ∈ es := by
    rw [he', List.mem_map]
    constructor
    · rintro ⟨x, hx, he⟩
      have := h2 x hx
      injection he with e1 e2
      subst e2
      rwa [show ((k : Int), x.2) = x from Prod.ext (by show (k : Int) = x.1; omega) rfl]
    · intro hx
      exact ⟨_, hx, by simp⟩
  rw [h6, h5]
  constructor
  · rintro ⟨k1, k2⟩
    have := h2 _ (h5.2 ⟨k1, k2⟩)
    exact ⟨by simp only at this; omega, k1, k2⟩
  · rintro ⟨_, k1, k2⟩; exact ⟨k1, k2⟩
theorem RowG.to {w : World} {v : Value} {es : List Ent} (h : RowG w v (es.map cI)) : RowAt w v es := by
  obtain ⟨a, cap, h1, h2⟩ := h
  rw [List.length_map] at h1 h2
  refine ⟨a, cap, h1, fun i hi => ?_⟩
  obtain ⟨b, off, h3, h4, h5⟩ := h2 i hi
  refine ⟨b, off, h3, h4, fun j hj => ?_⟩
  rw [Nat.mul_comm 6 i, h5 j hj, ← ecsI_cI]
  congr 2
  simp only [List.getD_eq_getElem?_getD, List.getElem?_map, List.getElem?_eq_getElem hi]; rfl
theorem SpG.to {w : World} {v : Value} {r c : Nat} {rows : List (List Ent)} (h : SpG w v r c (rows.map fun es => es.map cI)) : SpAt w v r c rows := by
  obtain ⟨a, cap, h1, h2⟩ := h
  rw [List.length_map] at h1 h2
  refine ⟨a, cap, h1, fun i hi => ?_⟩
  obtain ⟨b, off, x, h3, h4, h5, h6⟩ := h2 i hi
  refine ⟨b, off, x, h3, h4, h5, ?_⟩
  have e : (rows.map fun es => es.map cI).getD i [] = (rows.getD i []).map cI := by
    simp only [List.getD_eq_getElem?_getD, List.getElem?_map, List.getElem?_eq_getElem hi]; rfl
  rw [e] at h6; exact h6.to
/-- a raw matrix that Check accepts -/
theorem checkS_ok {n m : Int} {rows : List (List EntI)} (h : checkS n m rows = 0) : ∃ N M : Nat, n = N ∧ m = M ∧ N ≤ 2048 ∧ M ≤ 2048 ∧ rows = (mrows N M fun i k => colF (rows.getD i []) k).map fun es => es.map cI := by
  unfold checkS at h
  split at h
  · rename_i h0; exact absurd h h0
  rename_i h0
  have h0 : sidesE n m = 0 := Decidable.not_not.1 h0
  unfold sidesE at h0
  split at h0
  · omega
  split at h0
  · omega
  rename_i h1 h2
  split at h
  · omega
  rename_i h3
  split at h
  · rename_i h4
    refine ⟨n.toNat, m.toNat, by omega, by omega, by omega, by omega, ?_⟩
    have hN : rows.length = n.toNat := by omega
    rw [List.all_eq_true] at h4
    apply List.ext_getElem
    · rw [List.length_map, mrows_length]; exact hN
    · intro i hi hi'
      have hi2 : i < (mrows n.toNat m.toNat fun i k => colF (rows.getD i []) k).length := by rw [mrows_length]; omega
      have h5 := mrows_getD m.toNat (fun i k => colF (rows.getD i []) k) (i := i) (r := n.toNat) (by omega)
      rw [List.getD_eq_getElem?_getD, List.getElem?_eq_getElem hi2, Option.getD_some] at h5
      rw [List.getElem_map, h5]
      have h6 := h4 rows[i] (List.getElem_mem hi)
      have e : rows.getD i [] = rows[i] := by rw [List.getD_eq_getElem?_getD, List.getElem?_eq_getElem hi]; rfl
      rw [e]
      refine row_is m.toNat rows[i] ?_
      rwa [show ((m.toNat : Nat) : Int) = m by omega]
  · omega
end Gus
end
section
/- Conjugate gradients over the rationals, as plain arithmetic. -/
namespace Gus
def sm (F : Nat → Rat) : Nat → Rat
  | 0 => 0
  | n + 1 => sm F n + F n
theorem sm_congr {F G : Nat → Rat} : ∀ n, (∀ i, i < n → F i = G i) → sm F n = sm G n
  | 0, _ => rfl
  | n + 1, h => by rw [sm, sm, sm_congr n (fun i hi => h i (by omega)), h n (by omega)]
theorem sm_zero : ∀ n, sm (fun _ => 0) n = 0
  | 0 => rfl
  | n + 1 => by rw [sm, sm_zero n, Rat.add_zero]
theorem sm_nonneg {F : Nat → Rat} : ∀ n, (∀ i, i < n → 0 ≤ F i) → 0 ≤ sm F n
  | 0, _ => Rat.le_refl
  | n + 1, h => by rw [sm]; exact Rat.add_nonneg (sm_nonneg n fun i hi => h i (by omega)) (h n (by omega))
theorem sm_eq_zero {F : Nat → Rat} : ∀ n, (∀ i, i < n → 0 ≤ F i) → sm F n = 0 → ∀ i, i < n → F i = 0
  | 0, _, _, i, hi => absurd hi (Nat.not_lt_zero _)
  | n + 1, h, h0, i, hi => by
    rw [sm] at h0
    have h1 := sm_nonneg n fun i hi => h i (by omega)
    have h2 := h n (by omega)
    have h3 : sm F n = 0 := by grind
    by_cases e : i = n
    · subst e; grind
    · exact sm_eq_zero n (fun i hi => h i (by omega)) h3 i (by omega)
abbrev Vc := Nat → Rat
def dt (n : Nat) (u v : Vc) : Rat := sm (fun i => u i * v i) n
def mv (n : Nat) (A : Nat → Nat → Rat) (v : Vc) : Vc := fun i => sm (fun k => A i k * v k) n
/-- c u + v -/
def axp (c : Rat) (u v : Vc) : Vc := fun i => c * u i + v i
def Sym (n : Nat) (A : Nat → Nat → Rat) : Prop := ∀ i k, i < n → k < n → A i k = A k i
theorem sq_zero {q : Rat} (h : q * q = 0) : q = 0 := by
  rcases Rat.mul_eq_zero.1 h with h | h <;> exact h
theorem dt_self {n : Nat} {u : Vc} (h : dt n u u = 0) : ∀ i, i < n → u i = 0 := fun i hi => sq_zero (sm_eq_zero n (fun i _ => by
  rcases Rat.le_total (a := 0) (b := u i) with h | h
  · exact Rat.mul_nonneg h h
  · have := Rat.mul_nonneg (show 0 ≤ - u i by grind) (show 0 ≤ - u i by grind)
    grind) h i hi)
/-- the state of a run: X, R, P -/
structure Cg where
  x : Vc
  r : Vc
  p : Vc
def Cg.far (n : Nat) (A : Nat → Nat → Rat) (s : Cg) : Rat := dt n s.r s.r / dt n s.p (mv n A s.p)
def Cg.next (n : Nat) (A : Nat → Nat → Rat) (s : Cg) : Cg :=
  let r' := axp (-s.far n A) (mv n A s.p) s.r
  { x := axp (s.far n A) s.p s.x, r := r', p := axp (dt n r' r' / dt n s.r s.r) s.p r' }
def Cg.at (n : Nat) (A : Nat → Nat → Rat) (s : Cg) : Nat → Cg
  | 0 => s
  | k + 1 => (Cg.at n A s k).next n A
/-- half the form, less the right-hand side -/
def en (n : Nat) (A : Nat → Nat → Rat) (b x : Vc) : Rat := 1 / 2 * dt n x (mv n A x) - dt n b x
/-- a fraction of d and k binary digits, not always in lowest terms -/
def SS (d k : Nat) (q : Rat) : Prop := ∃ (D : Nat) (z : Int), 0 < D ∧ D < 2 ^ d ∧ z.natAbs < 2 ^ k ∧ q * (D : Rat) = (z : Rat)
/-- a vector with a common denominator -/
def CS (n d k : Nat) (v : Vc) : Prop := ∃ (D : Nat) (z : Nat → Int), 0 < D ∧ D < 2 ^ d ∧ ∀ i, i < n → (z i).natAbs < 2 ^ k ∧ v i * (D : Rat) = (z i : Rat)
def CM (n d k : Nat) (A : Nat → Nat → Rat) : Prop := ∃ (D : Nat) (z : Nat → Nat → Int), 0 < D ∧ D < 2 ^ d ∧ ∀ i j, i < n → j < n → (z i j).natAbs < 2 ^ k ∧ A i j * (D : Rat) = (z i j : Rat)
theorem castD {D : Nat} (h : 0 < D) : (D : Rat) ≠ 0 := by
  intro e
  have : D = 0 := by exact_mod_cast e
  omega
theorem SS.mono {d k d' k' : Nat} {q : Rat} (h : SS d k q) (hd : d ≤ d') (hk : k ≤ k') : SS d' k' q := by
  obtain ⟨D, z, h0, h1, h2, h3⟩ := h
  exact ⟨D, z, h0, Nat.lt_of_lt_of_le h1 (Nat.pow_le_pow_right (by decide) hd), Nat.lt_of_lt_of_le h2 (Nat.pow_le_pow_right (by decide) hk), h3⟩
theorem CS.mono {n d k d' k' : Nat} {v : Vc} (h : CS n d k v) (hd : d ≤ d') (hk : k ≤ k') : CS n d' k' v := by
  obtain ⟨D, z, h0, h1, h2⟩ := h
  exact ⟨D, z, h0, Nat.lt_of_lt_of_le h1 (Nat.pow_le_pow_right (by decide) hd), fun i hi => ⟨Nat.lt_of_lt_of_le (h2 i hi).1 (Nat.pow_le_pow_right (by decide) hk), (h2 i hi).2⟩⟩
theorem SS.szk {d k m : Nat} {q : Rat} (h : SS d k q) (hd : d ≤ m) (hk : k ≤ m) : SzK m q := by
  obtain ⟨D, z, h0, h1, h2, h3⟩ := (h.mono hd hk)
  have e : q = mkRat z D := by
    rw [Rat.mkRat_eq_div, ← h3]
    have := castD h0
    rw [Rat.mul_div_cancel this]
  rw [e]
  exact .mk (by omega) h2 h1
theorem CS.at {n d k : Nat} {v : Vc} (h : CS n d k v) {i : Nat} (hi : i < n) : SS d k (v i) := by
  obtain ⟨D, z, h0, h1, h2⟩ := h
  exact ⟨D, z i, h0, h1, (h2 i hi).1, (h2 i hi).2⟩
theorem SS.neg {d k : Nat} {q : Rat} (h : SS d k q) : SS d k (-q) := by
  obtain ⟨D, z, h0, h1, h2, h3⟩ := h
  exact ⟨D, -z, h0, h1, by rw [Int.natAbs_neg]; exact h2, by rw [Rat.neg_mul, h3]; push_cast; rfl⟩
def smz (F : Nat → Int) : Nat → Int
  | 0 => 0
  | n + 1 => smz F n + F n
theorem smz_lt {F : Nat → Int} {k : Nat} : ∀ n, (∀ i, i < n → (F i).natAbs < 2 ^ k) → (smz F n).natAbs < 2 ^ (k + n)
  | 0, _ => by simp [smz, Nat.pow_pos]
  | n + 1, h => by
    have h1 := smz_lt n fun i hi => h i (by omega)
    have h2 := h n (by omega)
    have h3 := Int.natAbs_add_le (smz F n) (F n)
    have h4 : 2 ^ k ≤ 2 ^ (k + n) := Nat.pow_le_pow_right (by decide) (by omega)
    have e : 2 ^ (k + (n + 1)) = 2 ^ (k + n) + 2 ^ (k + n) := by rw [← Nat.add_assoc, Nat.pow_succ]; omega
    rw [smz, e]; omega
theorem sm_cast {F : Nat → Rat} {z : Nat → Int} {c : Rat} : ∀ n, (∀ i, i < n → F i * c = (z i : Rat)) → sm F n * c = ((smz z n : Int) : Rat)
  | 0, _ => by simp [sm, smz, Rat.zero_mul]
  | n + 1, h => by
    rw [sm, smz, Rat.add_mul, sm_cast n (fun i hi => h i (by omega)), h n (by omega)]
    push_cast; rfl
theorem abs_mul_lt {a b : Int} {i j : Nat} (ha : a.natAbs < 2 ^ i) (hb : b.natAbs < 2 ^ j) : (a * b).natAbs < 2 ^ (i + j) := by
  rw [Int.natAbs_mul]; exact mul_lt_pow ha hb
theorem CS.dt {n d k d' k' : Nat} {u v : Vc} (h : CS n d k u) (h' : CS n d' k' v) : SS (d + d') (k + k' + n) (dt n u v) := by
  obtain ⟨D, z, h0, h1, h2⟩ := h
  obtain ⟨D', z', h0', h1', h2'⟩ := h'
  refine ⟨D * D', smz (fun i => z i * z' i) n, Nat.mul_pos h0 h0', mul_lt_pow h1 h1', smz_lt n fun i hi => abs_mul_lt (h2 i hi).1 (h2' i hi).1, ?_⟩
  unfold Gus.dt
  refine sm_cast n fun i hi => ?_
  have e1 := (h2 i hi).2
  have e2 := (h2' i hi).2
  push_cast
  rw [← e1, ← e2]
  grind
theorem CM.mv {n a b d k : Nat} {A : Nat → Nat → Rat} {v : Vc} (hA : CM n a b A) (h : CS n d k v) : CS n (a + d) (b + k + n) (mv n A v) := by
  obtain ⟨D, z, h0, h1, h2⟩ := hA
  obtain ⟨D', z', h0', h1', h2'⟩ := h
  refine ⟨D * D', fun i => smz (fun j => z i j * z' j) n, Nat.mul_pos h0 h0', mul_lt_pow h1 h1', fun i hi => ⟨smz_lt n fun j hj => abs_mul_lt (h2 i j hi hj).1 (h2' j hj).1, ?_⟩⟩
  unfold Gus.mv
  refine sm_cast n fun j hj => ?_
  have e1 := (h2 i j hi hj).2
  have e2 := (h2' j hj).2
  push_cast
  rw [← e1, ← e2]
  grind
theorem CS.axp {n d1 k1 d2 k2 d3 k3 K : Nat} {c : Rat} {u v : Vc} (hc : SS d1 k1 c) (hu : CS n d2 k2 u) (hv : CS n d3 k3 v) (ha : k1 + k2 + d3 ≤ K) (hb : k3 + d1 + d2 ≤ K) : CS n (d1 + d2 + d3) (K + 1) (axp c u v) := by
  obtain ⟨D1, z1, p1, q1, r1, s1⟩ := hc
  obtain ⟨D2, z2, p2, q2, r2⟩ := hu
  obtain ⟨D3, z3, p3, q3, r3⟩ := hv
  refine ⟨D1 * D2 * D3, fun i => z1 * z2 i * D3 + z3 i * (D1 * D2), Nat.mul_pos (Nat.mul_pos p1 p2) p3, mul_lt_pow (mul_lt_pow q1 q2) q3, fun i hi => ⟨?_, ?_⟩⟩
  · have h1 := abs_mul_lt (abs_mul_lt r1 (r2 i hi).1) (show (D3 : Int).natAbs < 2 ^ d3 by rw [Int.natAbs_natCast]; exact q3)
    have h2 := abs_mul_lt (r3 i hi).1 (abs_mul_lt (show (D1 : Int).natAbs < 2 ^ d1 by rw [Int.natAbs_natCast]; exact q1) (show (D2 : Int).natAbs < 2 ^ d2 by rw [Int.natAbs_natCast]; exact q2))
    have h3 := Int.natAbs_add_le (z1 * z2 i * D3) (z3 i * (D1 * D2))
    have h4 : 2 ^ (k1 + k2 + d3) ≤ 2 ^ K := Nat.pow_le_pow_right (by decide) ha
    have h5 : 2 ^ (k3 + (d1 + d2)) ≤ 2 ^ K := Nat.pow_le_pow_right (by decide) (by omega)
    show (z1 * z2 i * (D3 : Int) + z3 i * ((D1 : Int) * D2)).natAbs < 2 ^ (K + 1)
    rw [Nat.pow_succ]; omega
  · have e2 := (r2 i hi).2
    have e3 := (r3 i hi).2
    push_cast
    rw [← s1, ← e2, ← e3]
    unfold Gus.axp
    grind
theorem SS.div {d1 k1 d2 k2 : Nat} {a b : Rat} (ha : SS d1 k1 a) (hb : SS d2 k2 b) : SS (d1 + k2) (k1 + d2) (a / b) := by
  obtain ⟨D1, z1, p1, q1, r1, s1⟩ := ha
  obtain ⟨D2, z2, p2, q2, r2, s2⟩ := hb
  by_cases h0 : b = 0
  · subst h0
    refine ⟨1, 0, by decide, ?_, by simp [Nat.pow_pos], by rw [Rat.div_def, Rat.inv_zero]; simp⟩
    have : 2 ^ d1 ≤ 2 ^ (d1 + k2) := Nat.pow_le_pow_right (by decide) (by omega)
    omega
  · have hz : z2 ≠ 0 := fun e => by
      rw [e] at s2
      rcases Rat.mul_eq_zero.1 (show b * (D2 : Rat) = 0 by rw [s2]; rfl) with h | h
      · exact h0 h
      · exact castD p2 h
    refine ⟨D1 * z2.natAbs, z1 * D2 * z2.sign, Nat.mul_pos p1 (by omega), mul_lt_pow q1 r2, ?_, ?_⟩
    · have h1 := abs_mul_lt r1 (show (D2 : Int).natAbs < 2 ^ d2 by rw [Int.natAbs_natCast]; exact q2)
      rw [Int.natAbs_mul, Int.natAbs_sign_of_ne_zero hz, Nat.mul_one]
      exact h1
    · have e1 : ((z2.natAbs : Nat) : Rat) = (z2 : Rat) * ((z2.sign : Int) : Rat) := by
        have : ((z2.natAbs : Nat) : Int) = z2 * z2.sign := by rw [Int.mul_sign_self]
        have h := congrArg (fun x : Int => (x : Rat)) this
        push_cast at h
        simpa using h
      push_cast
      rw [e1, ← s1, ← s2]
      have e2 : a / b * b = a := Rat.div_mul_cancel h0
      generalize a / b = q at e2
      rw [← e2]
      grind
/-- the sizes of a run -/
structure CgS (n s : Nat) (t : Cg) : Prop where
  x : CS n s s t.x
  r : CS n s s t.r
  p : CS n s s t.p
theorem CgS.sp {n a s : Nat} {A : Nat → Nat → Rat} {t : Cg} (hA : CM n a a A) (h : CgS n s t) : CS n (a + s) (a + s + n) (mv n A t.p) := hA.mv h.p
theorem CgS.far {n a s : Nat} {A : Nat → Nat → Rat} {t : Cg} (hA : CM n a a A) (h : CgS n s t) : SS (4 * s + a + 2 * n) (4 * s + a + n) (t.far n A) := by
  have h1 := (h.r.dt h.r).div (h.p.dt (h.sp hA))
  exact h1.mono (by omega) (by omega)
theorem CgS.next {n a s : Nat} {A : Nat → Nat → Rat} {t : Cg} (hA : CM n a a A) (h : CgS n s t) : CgS n (21 * s + 6 * a + 14 * n + 4) (t.next n A) := by
  have hx : CS n (6 * s + 2 * a + 4 * n) (6 * s + 2 * a + 4 * n + 1) (t.next n A).x := (CS.axp (K := 6 * s + a + 2 * n) (h.far hA) h.p h.x (by omega) (by omega)).mono (by omega) (by omega)
  have hr : CS n (6 * s + 2 * a + 4 * n) (6 * s + 2 * a + 4 * n + 1) (t.next n A).r := (CS.axp (K := 6 * s + 2 * a + 2 * n) (h.far hA).neg (h.sp hA) h.r (by omega) (by omega)).mono (by omega) (by omega)
  have hb := (hr.dt hr).div (h.r.dt h.r)
  have hp : CS n (21 * s + 6 * a + 14 * n + 4) (21 * s + 6 * a + 14 * n + 3 + 1) (t.next n A).p := (CS.axp (K := 21 * s + 6 * a + 13 * n + 3) hb h.p hr (by omega) (by omega)).mono (by omega) (by omega)
  exact ⟨hx.mono (by omega) (by omega), hr.mono (by omega) (by omega), hp⟩
end Gus
end
section
/- Matrices of additions, as the laws of conjugate gradients build them: symmetric, positive definite, of bounded size. -/
namespace Gus
abbrev Trp := Nat × Nat × Rat
def absR (q : Rat) : Rat := if q < 0 then -q else q
theorem absR_nonneg (q : Rat) : 0 ≤ absR q := by
  unfold absR
  split <;> grind
/-- additions of bounded size have a common denominator of bounded size -/
theorem sumAt_size (n : Nat) : ∀ (l : List Trp), (∀ x ∈ l, SS 10 10 x.2.2) → ∃ (D : Nat) (z : Nat → Nat → Int), 0 < D ∧ D < 2 ^ (10 * l.length + 1) ∧ ∀ i j, (z i j).natAbs < 2 ^ (11 * l.length + 1) ∧ sumAt l i j * (D : Rat) = (z i j : Rat)
  | [], _ => ⟨1, fun _ _ => 0, by decide, by decide, fun i j => ⟨Nat.pow_pos (by decide), by simp [sumAt]⟩⟩
  | x :: l, h => by
    obtain ⟨D, z, h0, h1, h2⟩ := sumAt_size n l fun y hy => h y (.tail _ hy)
    obtain ⟨D', z', g0, g1, g2, g3⟩ := h x (.head _)
    refine ⟨D * D', fun i j => z i j * D' + (if x.1 = i ∧ x.2.1 = j then z' * D else 0), Nat.mul_pos h0 g0, ?_, fun i j => ⟨?_, ?_⟩⟩
    · rw [List.length_cons, show 10 * (l.length + 1) + 1 = 10 * l.length + 1 + 10 by omega]; exact mul_lt_pow h1 g1
    · have k1 := abs_mul_lt (h2 i j).1 (show (D' : Int).natAbs < 2 ^ 10 by rw [Int.natAbs_natCast]; exact g1)
      have k2 := abs_mul_lt g2 (show (D : Int).natAbs < 2 ^ (10 * l.length + 1) by rw [Int.natAbs_natCast]; exact h1)
      have k3 : (if x.1 = i ∧ x.2.1 = j then z' * D else 0 : Int).natAbs < 2 ^ (10 + (10 * l.length + 1)) := by
        split
        · exact k2
        · exact Nat.pow_pos (by decide)
      have k4 := Int.natAbs_add_le (z i j * D') (if x.1 = i ∧ x.2.1 = j then z' * D else 0)
      have k5 : 2 ^ (10 + (10 * l.length + 1)) ≤ 2 ^ (11 * l.length + 1 + 10) := Nat.pow_le_pow_right (by decide) (by omega)
      have e : 2 ^ (11 * (x :: l).length + 1) = 2 ^ (11 * l.length + 1 + 10) * 2 := by rw [List.length_cons, ← Nat.pow_succ]; congr 1
      rw [e]
      show (z i j * (D' : Int) + (if x.1 = i ∧ x.2.1 = j then z' * (D : Int) else 0)).natAbs < _
      omega
    · rw [sumAt]
      have e := (h2 i j).2
      push_cast
      by_cases hx : x.1 = i ∧ x.2.1 = j
      · rw [if_pos hx, if_pos hx]
        push_cast
        rw [← e, ← g3]
        grind
      · rw [if_neg hx, if_neg hx]
        push_cast
        rw [← e]
        grind
theorem sumAt_cm (n : Nat) {l : List Trp} (h : ∀ x ∈ l, SS 10 10 x.2.2) {m : Nat} (hm : l.length ≤ m) : CM n (11 * m + 1) (11 * m + 1) (sumAt l) := by
  obtain ⟨D, z, h0, h1, h2⟩ := sumAt_size n l h
  exact ⟨D, z, h0, Nat.lt_of_lt_of_le h1 (Nat.pow_le_pow_right (by decide) (by omega)), fun i j _ _ => ⟨Nat.lt_of_lt_of_le (h2 i j).1 (Nat.pow_le_pow_right (by decide) (by omega)), (h2 i j).2⟩⟩
/-- a vector of bounded fractions -/
theorem vec_size : ∀ (n : Nat) (v : Vc), (∀ i, i < n → SS 10 10 (v i)) → ∃ (D : Nat) (z : Nat → Int), 0 < D ∧ D < 2 ^ (10 * n + 1) ∧ ∀ i, i < n → (z i).natAbs < 2 ^ (10 * n + 1) ∧ v i * (D : Rat) = (z i : Rat)
  | 0, _, _ => ⟨1, fun _ => 0, by decide, by decide, fun i hi => absurd hi (Nat.not_lt_zero _)⟩
  | n + 1, v, h => by
    obtain ⟨D, z, h0, h1, h2⟩ := vec_size n v fun i hi => h i (by omega)
    obtain ⟨D', z', g0, g1, g2, g3⟩ := h n (by omega)
    have e10 : 10 * (n + 1) + 1 = 10 * n + 1 + 10 := by omega
    refine ⟨D * D', fun i => if i < n then z i * D' else z' * D, Nat.mul_pos h0 g0, by rw [e10]; exact mul_lt_pow h1 g1, fun i hi => ⟨?_, ?_⟩⟩
    · rw [e10]
      show (if i < n then z i * (D' : Int) else z' * (D : Int)).natAbs < _
      by_cases hn : i < n
      · rw [if_pos hn]
        exact abs_mul_lt (h2 i hn).1 (by rw [Int.natAbs_natCast]; exact g1)
      · rw [if_neg hn, Nat.add_comm (10 * n + 1)]
        exact abs_mul_lt g2 (by rw [Int.natAbs_natCast]; exact h1)
    · by_cases hn : i < n
      · simp only [if_pos hn]
        have e := (h2 i hn).2
        push_cast
        rw [← e]
        grind
      · obtain rfl : i = n := by omega
        simp only [if_neg hn]
        push_cast
        rw [← g3]
        grind
theorem vec_cs {n : Nat} {v : Vc} (h : ∀ i, i < n → SS 10 10 (v i)) : CS n (10 * n + 1) (10 * n + 1) v := by
  obtain ⟨D, z, h0, h1, h2⟩ := vec_size n v h
  exact ⟨D, z, h0, h1, h2⟩
end Gus
end
section
/- Comparing and the norm, as plain arithmetic. -/
namespace Gus
open Go Go.RowKit Go.Proofs
theorem neg_sgn (a : Int) : sgn (!decide (a < 0)) a.natAbs = -a := by
  unfold sgn
  by_cases h : a < 0
  · simp [h]; omega
  · simp [h]; omega
theorem absR_num (q : Rat) : (absR q).num = sgn false q.num.natAbs ∧ (absR q).den = q.den := by
  unfold absR sgn
  by_cases h : q < 0
  · rw [if_pos h, Rat.neg_num, Rat.neg_den]
    have : q.num < 0 := by have := (Rat.lt_iff q 0).1 h; simpa using this
    exact ⟨by simp; omega, rfl⟩
  · rw [if_neg h]
    have : 0 ≤ q.num := Rat.num_nonneg.2 (Rat.not_lt.1 h)
    exact ⟨by simp; omega, rfl⟩
/-- how fracs.Cmp compares -/
def cmpR (a b : Rat) : Int := isign (a.num * b.den - b.num * a.den)
theorem isign_pos (z : Int) : 0 < isign z ↔ 0 < z := by unfold isign; split <;> (try split) <;> omega
theorem cmpR_pos (a b : Rat) : 0 < cmpR a b ↔ b < a := by
  unfold cmpR; rw [isign_pos, Rat.lt_iff]; omega
theorem cmpR_same {a b : Rat} (h : a.den = b.den) : isign (a.num - b.num) = cmpR a b := by
  unfold cmpR
  rw [h, ← Int.sub_mul]
  have hp : (0 : Int) < b.den := by have := b.den_pos; omega
  generalize a.num - b.num = z
  unfold isign
  have h1 : z * (b.den : Int) = 0 ↔ z = 0 := by
    constructor
    · intro h; rcases Int.mul_eq_zero.1 h with h | h <;> omega
    · rintro rfl; simp
  have h2 : z * (b.den : Int) < 0 ↔ z < 0 := by
    constructor
    · intro h
      refine Decidable.by_contra fun hn => ?_
      have := Int.mul_nonneg (show 0 ≤ z by omega) (Int.le_of_lt hp)
      omega
    · intro h; exact Int.mul_neg_of_neg_of_pos h hp
  simp only [h1, h2]
/-- the greatest absolute value -/
def maxS (m x : Rat) : Rat := if 0 < cmpR (absR x) m then absR x else m
def maxA (qs : List Rat) : Rat := qs.foldl maxS 0
theorem absR_zero {x : Rat} (h : absR x = 0) : x = 0 := by
  unfold absR at h
  split at h <;> grind
theorem foldl_maxS : ∀ (qs : List Rat) (m : Rat), m ≤ qs.foldl maxS m ∧ ∀ x ∈ qs, absR x ≤ qs.foldl maxS m
  | [], m => ⟨Rat.le_refl, fun x hx => by cases hx⟩
  | y :: qs, m => by
    have ih := foldl_maxS qs (maxS m y)
    have h1 : m ≤ maxS m y ∧ absR y ≤ maxS m y := by
      unfold maxS
      split
      · rename_i h; exact ⟨Rat.le_of_lt ((cmpR_pos _ _).1 h), Rat.le_refl⟩
      · rename_i h; exact ⟨Rat.le_refl, Rat.not_lt.1 fun h2 => h ((cmpR_pos _ _).2 h2)⟩
    rw [List.foldl_cons]
    refine ⟨Rat.le_trans h1.1 ih.1, fun x hx => ?_⟩
    rcases List.mem_cons.1 hx with rfl | hx
    · exact Rat.le_trans h1.2 ih.1
    · exact ih.2 x hx
theorem maxA_zero (qs : List Rat) : maxA qs = 0 ↔ ∀ x ∈ qs, x = 0 := by
  constructor
  · intro h x hx
    have h1 := (foldl_maxS qs 0).2 x hx
    unfold maxA at h
    rw [h] at h1
    have h2 := absR_nonneg x
    exact absR_zero (by grind)
  · intro h
    unfold maxA
    induction qs with
    | nil => rfl
    | cons y qs ih =>
      have hy := h y (.head _)
      subst hy
      rw [List.foldl_cons]
      have e : maxS 0 0 = 0 := by unfold maxS absR; split <;> rfl
      rw [e]
      exact ih fun x hx => h x (.tail _ hx)
end Gus
end
section
/- Differences, negatives and comparisons of integers and fractions. -/
namespace Gus
open Go Go.RowKit Go.Proofs
set_option maxRecDepth 100000 in
theorem ineg_any (a : Int) (w : World) :
    Calls Tryz.prog 92 #[intV a] w fun e w' => e = .returned (intV (-a)) ∧ Below w.heap.size w w' := by
  have h0 := from_any (!decide (a < 0)) a.natAbs
  rw [neg_sgn] at h0
  obtain ⟨z, hz⟩ : ∃ z, z = -a := ⟨_, rfl⟩
  rw [← hz] at h0 ⊢
  unfold intV at h0 ⊢
  obtain ⟨p, hp⟩ : ∃ p, p = decide (a < 0) := ⟨_, rfl⟩
  rw [← hp] at h0 ⊢
  clear hz hp
  go_enter Tryz.func92, Tryz.ntmps92
  go_wp2_with fail
  (refine (h0 _).mono ?_; rintro e w' ⟨rfl, hb⟩; have h := (In.self _).call hb; (try simp only [World.size_alloc] at h); (try simp only [World.size_setCell] at h); clear hb; have hc := h.cell; have hf := h.frozen)
  go_wp2_with fail
  exact bodyPost_ret (v := .agg #[.int .u64 (lo z.natAbs), .string (bg z.natAbs), .bool (decide (z < 0))]) (by simp [results, Tryz.results92, go_sem, *]) rfl ⟨rfl, by (refine In.bel ?_; (repeat (first | (refine In.setCell ?_ (by first | omega | (simp; done) | (simp; omega)) _) | (refine In.alloc ?_ _) | (refine In.drew ?_))); (first | exact In.self _ | (refine In.out h ?_ (by first | omega | (simp; done) | (simp; omega)); (repeat (first | (refine In.setCell ?_ (by first | omega | (simp; done) | (simp; omega)) _) | (refine In.alloc ?_ _) | (refine In.drew ?_))); exact In.self _)))⟩
set_option maxRecDepth 100000 in
theorem isub_any (a b : Int) (ha : Wl a.natAbs) (hb : Wl b.natAbs) (w : World) :
    Calls Tryz.prog 178 #[intV a, intV b] w fun e w' => e = .returned (intV (a - b)) ∧ Below w.heap.size w w' := by
  have h1 := ineg_any b
  have h2 := told_plus a (-b) ha (by rw [Int.natAbs_neg]; exact hb)
  rw [← Int.sub_eq_add_neg] at h2
  clear ha hb
  go_enter Tryz.func178, Tryz.ntmps178
  go_wp2_with fail
  refine wp_region_tail (In _ _) 4 (by kernel_rfl) (by kernel_rfl) (In.drew (In.self _)) ?_; simp only [List.take_succ_cons, List.take_zero, List.drop_succ_cons, List.drop_zero]; (repeat (first | ((with_reducible refine wpQuiet_run0 (v := ?_) ?_ ?_ ?_); rotate_left 1; (focus (with_reducible rfl)); (focus (intro w' hw'; have hc' := hw'.cell; go_simp; exact rfl)); (try simp only [Act.put]); (try simp only [List.setIfInBounds_toArray]); (try simp only [List.set])) | ((with_reducible refine wpQuiet_skipg (j := ?_) (b := ?_) ?_ ?_ ?_); rotate_left 2; (focus (with_reducible rfl)); (focus rfl); (try simp only [Act.put]); (try simp only [List.setIfInBounds_toArray]); (try simp only [List.set])) | ((with_reducible refine wpQuiet_rung (v := ?_) (j := ?_) (b := ?_) ?_ ?_ ?_ ?_); rotate_left 3; (focus (with_reducible rfl)); (focus rfl); (focus (intro w' hw'; have hc' := hw'.cell; go_simp; exact rfl)); (try simp only [Act.put]); (try simp only [List.setIfInBounds_toArray]); (try simp only [List.set])) | ((with_reducible refine wpQuiet_run0 (v := ?_) ?_ ?_ ?_); rotate_left 1; (focus (with_reducible rfl)); (focus (intro w' hw'; (try simp only [World.size_alloc] at hw'); go_simp; go_at_call 92; refine (h1 _).mono ?_; rintro e w'' ⟨rfl, hb⟩; refine ⟨?_, hw'.call hb⟩; exact rfl)); (try simp only [Act.put]); (try simp only [List.setIfInBounds_toArray]); (try simp only [List.set])) | ((with_reducible refine wpQuiet_rung (v := ?_) (j := ?_) (b := ?_) ?_ ?_ ?_ ?_); rotate_left 3; (focus (with_reducible rfl)); (focus rfl); (focus (intro w' hw'; (try simp only [World.size_alloc] at hw'); go_simp; go_at_call 92; refine (h1 _).mono ?_; rintro e w'' ⟨rfl, hb⟩; refine ⟨?_, hw'.call hb⟩; exact rfl)); (try simp only [Act.put]); (try simp only [List.setIfInBounds_toArray]); (try simp only [List.set])) | ((with_reducible refine wpQuiet_run0 (v := ?_) ?_ ?_ ?_); rotate_left 1; (focus (with_reducible rfl)); (focus (intro w' hw'; (try simp only [World.size_alloc] at hw'); go_simp; go_at_call 162; refine (h2 _).mono ?_; rintro e w'' ⟨rfl, hb⟩; refine ⟨?_, hw'.call hb⟩; exact rfl)); (try simp only [Act.put]); (try simp only [List.setIfInBounds_toArray]); (try simp only [List.set])) | ((with_reducible refine wpQuiet_rung (v := ?_) (j := ?_) (b := ?_) ?_ ?_ ?_ ?_); rotate_left 3; (focus (with_reducible rfl)); (focus rfl); (focus (intro w' hw'; (try simp only [World.size_alloc] at hw'); go_simp; go_at_call 162; refine (h2 _).mono ?_; rintro e w'' ⟨rfl, hb⟩; refine ⟨?_, hw'.call hb⟩; exact rfl)); (try simp only [Act.put]); (try simp only [List.setIfInBounds_toArray]); (try simp only [List.set])))); refine wpQuiet_nil ?_; (try clear hc hf h); intro w' h; (try simp only [World.size_alloc] at h); have hc := h.cell; have hf := h.frozen
  go_wp2_with fail
  exact bodyPost_ret (v := intV (a - b)) (by simp [results, Tryz.results178, go_sem, *]) rfl ⟨rfl, by (refine In.bel ?_; (repeat (first | (refine In.setCell ?_ (by first | omega | (simp; done) | (simp; omega)) _) | (refine In.alloc ?_ _) | (refine In.drew ?_))); (first | exact In.self _ | (refine In.out h ?_ (by first | omega | (simp; done) | (simp; omega)); (repeat (first | (refine In.setCell ?_ (by first | omega | (simp; done) | (simp; omega)) _) | (refine In.alloc ?_ _) | (refine In.drew ?_))); exact In.self _)))⟩
set_option maxRecDepth 100000 in
theorem icmp_any (a b : Int) (ha : Wl a.natAbs) (hb : Wl b.natAbs) (w : World) :
    Calls Tryz.prog 101 #[intV a, intV b] w fun e w' => e = .returned (.int .i64 (isign (a - b))) ∧ Below w.heap.size w w' := by
  have h1 := isub_any a b ha hb
  have h2 := isign_any (a - b)
  clear ha hb
  go_enter Tryz.func101, Tryz.ntmps101
  go_wp2_with fail
  (refine (h1 _).mono ?_; rintro e w' ⟨rfl, hb⟩; have h := (In.self _).call hb; (try simp only [World.size_alloc] at h); (try simp only [World.size_setCell] at h); clear hb; have hc := h.cell; have hf := h.frozen)
  go_wp2_with fail
  (refine (h2 _).mono ?_; rintro e w' ⟨rfl, hb⟩; replace h := In.call (by first | exact h | exact h.drew | exact h.alloc _ | exact (h.alloc _).alloc _ | exact ((h.alloc _).alloc _).alloc _) hb; clear hb hc hf; have hc := h.cell; have hf := h.frozen)
  go_wp2_with fail
  go_ret
  exact ⟨rfl, by (refine In.bel ?_; (repeat (first | (refine In.setCell ?_ (by first | omega | (simp; done) | (simp; omega)) _) | (refine In.alloc ?_ _) | (refine In.drew ?_))); (first | exact In.self _ | (refine In.out h ?_ (by first | omega | (simp; done) | (simp; omega)); (repeat (first | (refine In.setCell ?_ (by first | omega | (simp; done) | (simp; omega)) _) | (refine In.alloc ?_ _) | (refine In.drew ?_))); exact In.self _)))⟩
set_option maxRecDepth 100000 in
theorem fneg_any (q : Rat) (w : World) :
    Calls Tryz.prog 29 #[fracV q] w fun e w' => e = .returned (fracV (-q)) ∧ Below w.heap.size w w' := by
  have h1 := ineg_any q.num
  rw [← Rat.neg_num] at h1
  have hd : q.den = (-q).den := (Rat.neg_den q).symm
  obtain ⟨r, hr⟩ : ∃ r, r = -q := ⟨_, rfl⟩
  rw [← hr] at h1 hd ⊢
  unfold fracV
  rw [hd]
  clear hr hd
  go_enter Tryz.func29, Tryz.ntmps29
  go_wp2_with fail
  refine wp_region_tail (In _ _) 6 (by kernel_rfl) (by kernel_rfl) (In.drew (In.self _)) ?_; simp only [List.take_succ_cons, List.take_zero, List.drop_succ_cons, List.drop_zero]; (repeat (first | ((with_reducible refine wpQuiet_run0 (v := ?_) ?_ ?_ ?_); rotate_left 1; (focus (with_reducible rfl)); (focus (intro w' hw'; have hc' := hw'.cell; go_simp; exact rfl)); (try simp only [Act.put]); (try simp only [List.setIfInBounds_toArray]); (try simp only [List.set])) | ((with_reducible refine wpQuiet_skipg (j := ?_) (b := ?_) ?_ ?_ ?_); rotate_left 2; (focus (with_reducible rfl)); (focus rfl); (try simp only [Act.put]); (try simp only [List.setIfInBounds_toArray]); (try simp only [List.set])) | ((with_reducible refine wpQuiet_rung (v := ?_) (j := ?_) (b := ?_) ?_ ?_ ?_ ?_); rotate_left 3; (focus (with_reducible rfl)); (focus rfl); (focus (intro w' hw'; have hc' := hw'.cell; go_simp; exact rfl)); (try simp only [Act.put]); (try simp only [List.setIfInBounds_toArray]); (try simp only [List.set])) | ((with_reducible refine wpQuiet_run0 (v := ?_) ?_ ?_ ?_); rotate_left 1; (focus (with_reducible rfl)); (focus (intro w' hw'; (try simp only [World.size_alloc] at hw'); go_simp; go_at_call 92; refine (h1 _).mono ?_; rintro e w'' ⟨rfl, hb⟩; refine ⟨?_, hw'.call hb⟩; exact rfl)); (try simp only [Act.put]); (try simp only [List.setIfInBounds_toArray]); (try simp only [List.set])) | ((with_reducible refine wpQuiet_rung (v := ?_) (j := ?_) (b := ?_) ?_ ?_ ?_ ?_); rotate_left 3; (focus (with_reducible rfl)); (focus rfl); (focus (intro w' hw'; (try simp only [World.size_alloc] at hw'); go_simp; go_at_call 92; refine (h1 _).mono ?_; rintro e w'' ⟨rfl, hb⟩; refine ⟨?_, hw'.call hb⟩; exact rfl)); (try simp only [Act.put]); (try simp only [List.setIfInBounds_toArray]); (try simp only [List.set])))); refine wpQuiet_nil ?_; (try clear hc hf h); intro w' h; (try simp only [World.size_alloc] at h); have hc := h.cell; have hf := h.frozen
  go_wp2_with fail
  exact bodyPost_ret (v := fracV r) (by simp [results, Tryz.results29, go_sem, *]) rfl ⟨rfl, by (refine In.bel ?_; (repeat (first | (refine In.setCell ?_ (by first | omega | (simp; done) | (simp; omega)) _) | (refine In.alloc ?_ _) | (refine In.drew ?_))); (first | exact In.self _ | (refine In.out h ?_ (by first | omega | (simp; done) | (simp; omega)); (repeat (first | (refine In.setCell ?_ (by first | omega | (simp; done) | (simp; omega)) _) | (refine In.alloc ?_ _) | (refine In.drew ?_))); exact In.self _)))⟩
set_option maxRecDepth 100000 in
theorem fabs_any (q : Rat) (w : World) :
    Calls Tryz.prog 79 #[fracV q] w fun e w' => e = .returned (fracV (absR q)) ∧ Below w.heap.size w w' := by
  have h1 := abs_any q.num
  have h2 := from_any false q.num.natAbs
  rw [← (absR_num q).1] at h2
  have hd := (absR_num q).2.symm
  obtain ⟨r, hr⟩ : ∃ r, r = absR q := ⟨_, rfl⟩
  rw [← hr] at h2 hd ⊢
  unfold fracV
  rw [hd]
  clear hr hd
  go_enter Tryz.func79, Tryz.ntmps79
  go_wp2_with fail
  refine wp_region_tail (In _ _) 7 (by kernel_rfl) (by kernel_rfl) (In.drew (In.self _)) ?_; simp only [List.take_succ_cons, List.take_zero, List.drop_succ_cons, List.drop_zero]; (repeat (first | ((with_reducible refine wpQuiet_run0 (v := ?_) ?_ ?_ ?_); rotate_left 1; (focus (with_reducible rfl)); (focus (intro w' hw'; have hc' := hw'.cell; go_simp; exact rfl)); (try simp only [Act.put]); (try simp only [List.setIfInBounds_toArray]); (try simp only [List.set])) | ((with_reducible refine wpQuiet_skipg (j := ?_) (b := ?_) ?_ ?_ ?_); rotate_left 2; (focus (with_reducible rfl)); (focus rfl); (try simp only [Act.put]); (try simp only [List.setIfInBounds_toArray]); (try simp only [List.set])) | ((with_reducible refine wpQuiet_rung (v := ?_) (j := ?_) (b := ?_) ?_ ?_ ?_ ?_); rotate_left 3; (focus (with_reducible rfl)); (focus rfl); (focus (intro w' hw'; have hc' := hw'.cell; go_simp; exact rfl)); (try simp only [Act.put]); (try simp only [List.setIfInBounds_toArray]); (try simp only [List.set])) | ((with_reducible refine wpQuiet_run0 (v := ?_) ?_ ?_ ?_); rotate_left 1; (focus (with_reducible rfl)); (focus (intro w' hw'; (try simp only [World.size_alloc] at hw'); go_simp; go_at_call 90; refine (h1 _).mono ?_; rintro e w'' ⟨rfl, hb⟩; refine ⟨?_, hw'.call hb⟩; exact rfl)); (try simp only [Act.put]); (try simp only [List.setIfInBounds_toArray]); (try simp only [List.set])) | ((with_reducible refine wpQuiet_rung (v := ?_) (j := ?_) (b := ?_) ?_ ?_ ?_ ?_); rotate_left 3; (focus (with_reducible rfl)); (focus rfl); (focus (intro w' hw'; (try simp only [World.size_alloc] at hw'); go_simp; go_at_call 90; refine (h1 _).mono ?_; rintro e w'' ⟨rfl, hb⟩; refine ⟨?_, hw'.call hb⟩; exact rfl)); (try simp only [Act.put]); (try simp only [List.setIfInBounds_toArray]); (try simp only [List.set])) | ((with_reducible refine wpQuiet_run0 (v := ?_) ?_ ?_ ?_); rotate_left 1; (focus (with_reducible rfl)); (focus (intro w' hw'; (try simp only [World.size_alloc] at hw'); go_simp; go_at_call 89; refine (h2 _).mono ?_; rintro e w'' ⟨rfl, hb⟩; refine ⟨?_, hw'.call hb⟩; exact rfl)); (try simp only [Act.put]); (try simp only [List.setIfInBounds_toArray]); (try simp only [List.set])) | ((with_reducible refine wpQuiet_rung (v := ?_) (j := ?_) (b := ?_) ?_ ?_ ?_ ?_); rotate_left 3; (focus (with_reducible rfl)); (focus rfl); (focus (intro w' hw'; (try simp only [World.size_alloc] at hw'); go_simp; go_at_call 89; refine (h2 _).mono ?_; rintro e w'' ⟨rfl, hb⟩; refine ⟨?_, hw'.call hb⟩; exact rfl)); (try simp only [Act.put]); (try simp only [List.setIfInBounds_toArray]); (try simp only [List.set])))); refine wpQuiet_nil ?_; (try clear hc hf h); intro w' h; (try simp only [World.size_alloc] at h); have hc := h.cell; have hf := h.frozen
  go_wp2_with fail
  exact bodyPost_ret (v := fracV r) (by simp [results, Tryz.results79, go_sem, *]) rfl ⟨rfl, by (refine In.bel ?_; (repeat (first | (refine In.setCell ?_ (by first | omega | (simp; done) | (simp; omega)) _) | (refine In.alloc ?_ _) | (refine In.drew ?_))); (first | exact In.self _ | (refine In.out h ?_ (by first | omega | (simp; done) | (simp; omega)); (repeat (first | (refine In.setCell ?_ (by first | omega | (simp; done) | (simp; omega)) _) | (refine In.alloc ?_ _) | (refine In.drew ?_))); exact In.self _)))⟩
set_option maxRecDepth 100000 in
theorem fsub_any {i j : Nat} (a b : Rat) (ha : SzK i a) (hb : SzK j b) (hij : i + j + 1 < 17592186044416) (w : World) :
    Calls Tryz.prog 24 #[fracV a, fracV b] w fun e w' => e = .returned (fracV (a - b)) ∧ Below w.heap.size w w' := by
  have h1 := fneg_any b
  have h2 := fadd_any a (-b) ha hb.neg hij
  rw [← Rat.sub_eq_add_neg] at h2
  obtain ⟨r, hr⟩ : ∃ r, r = -b := ⟨_, rfl⟩
  rw [← hr] at h1 h2
  clear ha hb hr
  go_enter Tryz.func24, Tryz.ntmps24
  go_wp2_with fail
  refine wp_region_tail (In _ _) 4 (by kernel_rfl) (by kernel_rfl) (In.drew (In.self _)) ?_; simp only [List.take_succ_cons, List.take_zero, List.drop_succ_cons, List.drop_zero]; (repeat (first | ((with_reducible refine wpQuiet_run0 (v := ?_) ?_ ?_ ?_); rotate_left 1; (focus (with_reducible rfl)); (focus (intro w' hw'; have hc' := hw'.cell; go_simp; exact rfl)); (try simp only [Act.put]); (try simp only [List.setIfInBounds_toArray]); (try simp only [List.set])) | ((with_reducible refine wpQuiet_skipg (j := ?_) (b := ?_) ?_ ?_ ?_); rotate_left 2; (focus (with_reducible rfl)); (focus rfl); (try simp only [Act.put]); (try simp only [List.setIfInBounds_toArray]); (try simp only [List.set])) | ((with_reducible refine wpQuiet_rung (v := ?_) (j := ?_) (b := ?_) ?_ ?_ ?_ ?_); rotate_left 3; (focus (with_reducible rfl)); (focus rfl); (focus (intro w' hw'; have hc' := hw'.cell; go_simp; exact rfl)); (try simp only [Act.put]); (try simp only [List.setIfInBounds_toArray]); (try simp only [List.set])) | ((with_reducible refine wpQuiet_run0 (v := ?_) ?_ ?_ ?_); rotate_left 1; (focus (with_reducible rfl)); (focus (intro w' hw'; (try simp only [World.size_alloc] at hw'); go_simp; go_at_call 29; refine (h1 _).mono ?_; rintro e w'' ⟨rfl, hb⟩; refine ⟨?_, hw'.call hb⟩; exact rfl)); (try simp only [Act.put]); (try simp only [List.setIfInBounds_toArray]); (try simp only [List.set])) | ((with_reducible refine wpQuiet_rung (v := ?_) (j := ?_) (b := ?_) ?_ ?_ ?_ ?_); rotate_left 3; (focus (with_reducible rfl)); (focus rfl); (focus (intro w' hw'; (try simp only [World.size_alloc] at hw'); go_simp; go_at_call 29; refine (h1 _).mono ?_; rintro e w'' ⟨rfl, hb⟩; refine ⟨?_, hw'.call hb⟩; exact rfl)); (try simp only [Act.put]); (try simp only [List.setIfInBounds_toArray]); (try simp only [List.set])) | ((with_reducible refine wpQuiet_run0 (v := ?_) ?_ ?_ ?_); rotate_left 1; (focus (with_reducible rfl)); (focus (intro w' hw'; (try simp only [World.size_alloc] at hw'); go_simp; go_at_call 44; refine (h2 _).mono ?_; rintro e w'' ⟨rfl, hb⟩; refine ⟨?_, hw'.call hb⟩; exact rfl)); (try simp only [Act.put]); (try simp only [List.setIfInBounds_toArray]); (try simp only [List.set])) | ((with_reducible refine wpQuiet_rung (v := ?_) (j := ?_) (b := ?_) ?_ ?_ ?_ ?_); rotate_left 3; (focus (with_reducible rfl)); (focus rfl); (focus (intro w' hw'; (try simp only [World.size_alloc] at hw'); go_simp; go_at_call 44; refine (h2 _).mono ?_; rintro e w'' ⟨rfl, hb⟩; refine ⟨?_, hw'.call hb⟩; exact rfl)); (try simp only [Act.put]); (try simp only [List.setIfInBounds_toArray]); (try simp only [List.set])))); refine wpQuiet_nil ?_; (try clear hc hf h); intro w' h; (try simp only [World.size_alloc] at h); have hc := h.cell; have hf := h.frozen
  go_wp2_with fail
  exact bodyPost_ret (v := fracV (a - b)) (by simp [results, Tryz.results24, go_sem, *]) rfl ⟨rfl, by (refine In.bel ?_; (repeat (first | (refine In.setCell ?_ (by first | omega | (simp; done) | (simp; omega)) _) | (refine In.alloc ?_ _) | (refine In.drew ?_))); (first | exact In.self _ | (refine In.out h ?_ (by first | omega | (simp; done) | (simp; omega)); (repeat (first | (refine In.setCell ?_ (by first | omega | (simp; done) | (simp; omega)) _) | (refine In.alloc ?_ _) | (refine In.drew ?_))); exact In.self _)))⟩
set_option maxRecDepth 100000 in
set_option maxHeartbeats 1000000 in
theorem fcmp_any {i j : Nat} (a b : Rat) (ha : SzK i a) (hb : SzK j b) (hij : i + j < 17592186044416) (w : World) :
    Calls Tryz.prog 42 #[fracV a, fracV b] w fun e w' => e = .returned (.int .i64 (cmpR a b)) ∧ Below w.heap.size w w' := by
  have hna := ha.num (by omega)
  have hnb := hb.num (by omega)
  have hda := ha.dn (by omega)
  have hdb := hb.dn (by omega)
  by_cases hab : a.den = b.den
  · have hE := natEq_runB (m := a.den - 1) (n := b.den - 1) (p := true) (decide_eq_true (by rw [hab]))
    have h1 := icmp_any a.num b.num hna hnb
    rw [cmpR_same hab] at h1
    clear hab hna hnb hda hdb ha hb
    go_enter Tryz.func42, Tryz.ntmps42
    go_wp2_with fail
    (refine (h1 _).mono ?_; rintro e w' ⟨rfl, hb⟩; have h := (In.self _).call hb; (try simp only [World.size_alloc] at h); (try simp only [World.size_setCell] at h); clear hb; have hc := h.cell; have hf := h.frozen)
    go_wp2_with fail
    go_ret
    exact ⟨rfl, by (refine In.bel ?_; (repeat (first | (refine In.setCell ?_ (by first | omega | (simp; done) | (simp; omega)) _) | (refine In.alloc ?_ _) | (refine In.drew ?_))); (first | exact In.self _ | (refine In.out h ?_ (by first | omega | (simp; done) | (simp; omega)); (repeat (first | (refine In.setCell ?_ (by first | omega | (simp; done) | (simp; omega)) _) | (refine In.alloc ?_ _) | (refine In.drew ?_))); exact In.self _)))⟩
  · have hE := natEq_runB (m := a.den - 1) (n := b.den - 1) (p := false) (decide_eq_false (fun h => hab (by have := a.den_pos; have := b.den_pos; omega)))
    have h1 := mul_lt_pow ha.1 hb.2
    have h2 := mul_lt_pow hb.1 ha.2
    rw [Nat.add_comm j i] at h2
    have e1 : (a.num * b.den).natAbs = a.num.natAbs * b.den := by rw [Int.natAbs_mul, Int.natAbs_natCast]
    have e2 : (b.num * a.den).natAbs = b.num.natAbs * a.den := by rw [Int.natAbs_mul, Int.natAbs_natCast]
    have c1 := signed_any a hda
    have c2 := signed_any b hdb
    have c3 := imul_any a.num b.den hna hdb
    have c4 := imul_any b.num a.den hnb hda
    have c5 := icmp_any (a.num * b.den) (b.num * a.den) (Wl_of (by rw [e1]; exact h1) (by omega)) (Wl_of (by rw [e2]; exact h2) (by omega))
    rw [show isign (a.num * b.den - b.num * a.den) = cmpR a b from rfl] at c5
    clear hab hna hnb hda hdb ha hb h1 h2 e1 e2
    go_enter Tryz.func42, Tryz.ntmps42
    go_upto_region 3 with fail
    ((obtain ⟨X, hXX⟩ : ∃ z, z = w.heap.size := ⟨_, rfl⟩); (have bV0 := ((Bx.new_at w #[.int .u64 (lo a.num.natAbs), .string (bg a.num.natAbs), .bool (decide (a.num < 0)), .int .u64 (lo (a.den - 1)), .string (bg (a.den - 1))] 52 (n := X) (by simp [hXX])).alloc (.cells #[.int .u64 (lo b.num.natAbs), .string (bg b.num.natAbs), .bool (decide (b.num < 0)), .int .u64 (lo (b.den - 1)), .string (bg (b.den - 1))] 52))); (have bV1 := (Bx.new_at (w.alloc (.cells #[.int .u64 (lo a.num.natAbs), .string (bg a.num.natAbs), .bool (decide (a.num < 0)), .int .u64 (lo (a.den - 1)), .string (bg (a.den - 1))] 52)) #[.int .u64 (lo b.num.natAbs), .string (bg b.num.natAbs), .bool (decide (b.num < 0)), .int .u64 (lo (b.den - 1)), .string (bg (b.den - 1))] 52 (n := X + 1) (by simp [hXX]))); (have hV := (((In.self w).alloc (.cells #[.int .u64 (lo a.num.natAbs), .string (bg a.num.natAbs), .bool (decide (a.num < 0)), .int .u64 (lo (a.den - 1)), .string (bg (a.den - 1))] 52)).alloc (.cells #[.int .u64 (lo b.num.natAbs), .string (bg b.num.natAbs), .bool (decide (b.num < 0)), .int .u64 (lo (b.den - 1)), .string (bg (b.den - 1))] 52))); (rw [← hXX] at hV ⊢); (have HX := Lib.hid hXX); (clear hXX); (generalize (w.alloc (.cells #[.int .u64 (lo a.num.natAbs), .string (bg a.num.natAbs), .bool (decide (a.num < 0)), .int .u64 (lo (a.den - 1)), .string (bg (a.den - 1))] 52)).alloc (.cells #[.int .u64 (lo b.num.natAbs), .string (bg b.num.natAbs), .bool (decide (b.num < 0)), .int .u64 (lo (b.den - 1)), .string (bg (b.den - 1))] 52) = V at *))
    have x0 := bV0.c0; have x1 := bV0.c1; have x2 := bV0.c2; have x3 := bV0.c3; have x4 := bV0.c4; have xl := bV0.lt
    have y0 := bV1.c0; have y1 := bV1.c1; have y2 := bV1.c2; have y3 := bV1.c3; have y4 := bV1.c4; have yl := bV1.lt
    have h := In.self V
    have hc := h.cell
    refine wp_region_flow 11 (by kernel_rfl) (by kernel_rfl) (fun _ _ d _ _ h => by cases d <;> exact h) ?_; simp only [List.take_succ_cons, List.take_zero, List.drop_succ_cons, List.drop_zero]; simp only [putAll, Act.put, List.setIfInBounds_toArray, List.set]; (try simp only [Nat.reduceAdd]); (try simp only [Nat.zero_add]); (repeat (first | ((with_reducible refine flow_float (v := ?_) ?_ ?_ ?_); rotate_left 1; (focus (with_reducible rfl)); (focus (intro u w1 hw hd w2; (try simp only [depH] at hd); (try simp only [ext] at hd); (try simp only [extU] at hd); (try simp only [Nat.reduceAdd] at hd); (try simp only [Nat.reduceEqDiff] at hd); (try simp only [reduceIte] at hd); (try simp only [and_true] at hd); (try simp only [true_and] at hd); go_simp; exact rfl))) | ((first | ((with_reducible refine flow_pure0 (v := ?_) ?_ ?_ ?_ ?_); rotate_left 1; (focus (with_reducible rfl)); (focus rfl)) | ((with_reducible refine flow_pureg (v := ?_) (j := ?_) (b := ?_) ?_ ?_ ?_ ?_); rotate_left 3; (focus (with_reducible rfl)); (focus (intro u w1 hw hd; (try simp only [depH] at hd); (try simp only [ext] at hd); (try simp only [extU] at hd); (try simp only [Nat.reduceAdd] at hd); (try simp only [Nat.reduceEqDiff] at hd); (try simp only [reduceIte] at hd); (try simp only [and_true] at hd); (try simp only [true_and] at hd); simp [yielded, hd]; done)))); (focus (intro u w1 hw hd; (try simp only [depH] at hd); (try simp only [ext] at hd); (try simp only [extU] at hd); (try simp only [Nat.reduceAdd] at hd); (try simp only [Nat.reduceEqDiff] at hd); (try simp only [reduceIte] at hd); (try simp only [and_true] at hd); (try simp only [true_and] at hd); have hc' := hw.cell; first | (go_simp; exact rfl) | (go_simp; go_at_call 102; ((with_reducible refine (c2 _).mono ?_)); rintro e w'' ⟨rfl, hb⟩; refine ⟨?_, hb⟩; exact rfl) | (go_simp; go_at_call 83; ((with_reducible refine (c3 _).mono ?_)); rintro e w'' ⟨rfl, hb⟩; refine ⟨?_, hb⟩; exact rfl) | (go_simp; go_at_call 102; ((with_reducible refine (c1 _).mono ?_)); rintro e w'' ⟨rfl, hb⟩; refine ⟨?_, hb⟩; exact rfl) | (go_simp; go_at_call 83; ((with_reducible refine (c4 _).mono ?_)); rintro e w'' ⟨rfl, hb⟩; refine ⟨?_, hb⟩; exact rfl) | (go_simp; go_at_call 101; ((with_reducible refine (c5 _).mono ?_)); rintro e w'' ⟨rfl, hb⟩; refine ⟨?_, hb⟩; exact rfl)))) | ((with_reducible refine flow_skipg (j := ?_) (b := ?_) ?_ ?_ ?_); rotate_left 2; (focus (with_reducible rfl)); (focus (intro u w1 hw hd; (try simp only [depH] at hd); (try simp only [ext] at hd); (try simp only [extU] at hd); (try simp only [Nat.reduceAdd] at hd); (try simp only [Nat.reduceEqDiff] at hd); (try simp only [reduceIte] at hd); (try simp only [and_true] at hd); (try simp only [true_and] at hd); simp [yielded, hd]; done))) | ((with_reducible refine flow_alloc (t := ?_) (zs := ?_) ?_ ?_ ?_ ?_); rotate_left 2; (focus (with_reducible rfl)); (focus rfl); (focus (intro u w1; go_simp; exact rfl)))))
    (try clear hc hf h); intro u w' h ha hdi; replace h := h.ins; (try simp only [World.size_alloc] at h); (try dsimp only at ha); (repeat rw [World.size_alloc] at ha); (try simp only [allH] at ha); (try simp only [ext] at ha); (try simp only [extU] at ha); (try simp only [Nat.reduceAdd] at ha); (try simp only [Nat.reduceEqDiff] at ha); (try simp only [reduceIte] at ha); (try simp only [and_true] at ha); (try simp only [true_and] at ha); have hc := h.cell; have hf := h.frozen
    (try obtain ha := ha); (try dsimp only);  simp only [ha]; clear ha hdi 
    have hin := hV.call h.bel
    clear hc hf h hV
    go_wp2_with fail
    go_ret
    exact ⟨rfl, by rw [← HX.out]; exact hin.bel⟩
end Gus
end
section
/- Vectors as functions; the products that conjugate gradients use. -/
namespace Gus
open Go Go.RowKit Go.Proofs
def vl (n : Nat) (v : Vc) : List Rat := (List.range n).map v
theorem vl_length (n : Nat) (v : Vc) : (vl n v).length = n := by simp [vl]
theorem vl_getD {n i : Nat} (v : Vc) (hi : i < n) : (vl n v).getD i 0 = v i := by simp [vl, hi]
theorem vl_congr {n : Nat} {u v : Vc} (h : ∀ i, i < n → u i = v i) : vl n u = vl n v := List.map_congr_left fun i hi => h i (List.mem_range.1 hi)
theorem vl_szk {n m : Nat} {v : Vc} (h : ∀ i, i < n → SzK m (v i)) (hm : 0 < m) (i : Nat) : SzK m ((vl n v).getD i 0) := by
  by_cases hi : i < n
  · rw [vl_getD v hi]; exact h i hi
  · rw [List.getD_eq_getElem?_getD, List.getElem?_eq_none (by rw [vl_length]; omega)]
    exact SzK.zero.mono hm
theorem sumTo_sm (F : Nat → Rat) : ∀ n, sumTo F n = sm F n
  | 0 => rfl
  | n + 1 => by rw [sumTo, sm, sumTo_sm F n]
theorem dotV_vl (n : Nat) (u v : Vc) : dotV (vl n u) (vl n v) n = dt n u v := by
  unfold dotV dt
  rw [sumTo_sm]
  exact sm_congr n fun i hi => by rw [vl_getD u hi, vl_getD v hi]
theorem mappL_vl (n : Nat) (F : Nat → Nat → Rat) (v : Vc) : mappL n n (dense n n F) (vl n v) = vl n (mv n F v) := by
  unfold mappL
  refine List.map_congr_left fun i hi => ?_
  have hi := List.mem_range.1 hi
  unfold dotV mv
  rw [sumTo_sm]
  refine sm_congr n fun k hk => ?_
  rw [rowV_getD _ _ hk, vl_getD v hk]
  unfold mvals
  rw [dense_getD F hi hk]
theorem spm_dense {w : World} {s : Value} {n : Nat} {F : Nat → Nat → Rat} (h : SpM w s n n F) : SpM w s n n (mvals n (dense n n F)) := by
  unfold SpM at h ⊢
  rw [mrows_congr (f := mvals n (dense n n F)) (g := F) fun i k hi hk => dense_getD F hi hk]
  exact h
theorem dense_szk {n m : Nat} {F : Nat → Nat → Rat} (h : ∀ i k, i < n → k < n → SzK m (F i k)) (hm : 0 < m) (i : Nat) : SzK m ((dense n n F).getD i 0) := by
  by_cases hi : i < n * n
  · obtain ⟨h1, h2, _⟩ := pos_split hi
    have e : (dense n n F).getD i 0 = F (i / n) (i % n) := by simp [dense, List.getD_eq_getElem?_getD, hi]
    rw [e]; exact h _ _ h1 h2
  · rw [List.getD_eq_getElem?_getD, List.getElem?_eq_none (by rw [dense_length]; omega)]
    exact SzK.zero.mono hm
theorem vdot_vl {j l n : Nat} (w : World) (x y : Value) (u v : Vc) (hx : VecAt w x (vl n u)) (hy : VecAt w y (vl n v)) (hn : n ≤ 64) (hu : ∀ i, i < n → SzK j (u i)) (hv : ∀ i, i < n → SzK l (v i)) (hj : 0 < j) (hl : 0 < l) (hcap : 1 + n * (j + l + 1) < 17592186044416) :
    Calls Tryz.prog 87 #[x, y] w fun e w' => e = .returned (.tuple #[fracV (dt n u v), .int .i64 0]) ∧ Below w.heap.size w w' := by
  have := vdot_ok (j := j) (l := l) w x y (vl n u) (vl n v) n hx hy (vl_length _ _) (vl_length _ _) (by omega) (vl_szk hu hj) (vl_szk hv hl) hcap
  rw [dotV_vl] at this
  exact this
theorem sapp_vl {j l n : Nat} (w : World) (s y : Value) (F : Nat → Nat → Rat) (v : Vc) (hs : SpM w s n n F) (hy : VecAt w y (vl n v)) (hn : n ≤ 64) (hF : ∀ i k, i < n → k < n → SzK j (F i k)) (hv : ∀ i, i < n → SzK l (v i)) (hj : 0 < j) (hl : 0 < l) (hcap : n * n * (j + l + 1) + 1 < 17592186044416) :
    Calls Tryz.prog 66 #[s, y] w fun e w' => (∃ d, e = .returned (.tuple #[d, .int .i64 0]) ∧ VecAt w' d (vl n (mv n F v))) ∧ Below w.heap.size w w' := by
  have := sapp_any (j := j) (l := l) w s y n n n (dense n n F) (vl n v) (spm_dense hs) hy (vl_length _ _) (by omega) (by omega) (by omega) (dense_szk hF hj) (vl_szk hv hl) hcap
  refine this.mono ?_
  rintro e w' ⟨⟨d, e', h1, h2⟩, hb⟩
  refine ⟨?_, hb⟩
  rcases h2 with ⟨h3, _⟩ | ⟨_, rfl, h3⟩
  · simp at h3
  · rw [mappL_vl] at h3
    exact ⟨d, h1, h3⟩
end Gus
end
section
/- vecs.Sub, Axpy, Max. -/
namespace Gus
open Go Go.RowKit Go.Proofs
set_option maxRecDepth 100000 in
set_option maxHeartbeats 1000000 in
theorem vsub_vl {j l n : Nat} (w : World) (x y : Value) (u v : Vc) (hx : VecAt w x (vl n u)) (hy : VecAt w y (vl n v)) (hn : n ≤ 64) (hu : ∀ i, i < n → SzK j (u i)) (hv : ∀ i, i < n → SzK l (v i)) (hcap : j + l + 1 < 17592186044416) :
    Calls Tryz.prog 18 #[x, y] w fun e w' => (∃ d, e = .returned (.tuple #[d, .int .i64 0]) ∧ VecAt w' d (vl n fun i => u i - v i)) ∧ Below w.heap.size w w' := by
  have eg : ∀ args w, (callFunc 24 args).run Tryz.prog w = .ok (.enter 24 args) w := enters_of Tryz.func24 (by kernel_rfl) rfl
  have h1 := fun W (h : In w.heap.size w W) => veach_any (· - ·) W x y (vl n u) (vl n v) n 24 #[] (hx.call h.bel) (hy.call h.bel) (vl_length _ _) (vl_length _ _) (by omega) eg (fun i W2 hi _ => by
    rw [vl_getD u hi, vl_getD v hi]; exact fsub_any _ _ (hu i hi) (hv i hi) hcap W2)
  have e : ((List.range n).map fun i => (vl n u).getD i 0 - (vl n v).getD i 0) = vl n fun i => u i - v i := List.map_congr_left fun i hi => by rw [vl_getD u (List.mem_range.1 hi), vl_getD v (List.mem_range.1 hi)]
  simp only [e] at h1
  obtain ⟨a, k, rfl⟩ := hx.shape
  obtain ⟨a', k', rfl⟩ := hy.shape
  simp only [vl_length] at h1
  rw [vl_length, vl_length]
  obtain ⟨L, hL⟩ : ∃ L, L = vl n fun i => u i - v i := ⟨_, rfl⟩
  have hLn : L.length = n := by rw [hL, vl_length]
  rw [← hL]
  rw [← hL] at h1
  have HL := Lib.hid hLn
  clear hx hy hu hv hcap e eg hL hLn
  go_enter Tryz.func18, Tryz.ntmps18
  go_wp2_with fail
  ((with_reducible refine (h1 _ (In.self _)).mono ?_))
  rintro e w2 ⟨⟨d, rfl, hd⟩, hb⟩
  obtain ⟨da, dk, rfl⟩ := hd.shape
  rw [HL.out] at hd ⊢
  have HD := Lib.hid hd
  clear hd h1
  go_wp2_with fail
  exact bodyPost_ret (v := .tuple #[.slice da n dk, .int .i64 0]) (by simp [results, Tryz.results18, go_sem]) rfl ⟨⟨_, rfl, HD.out⟩, hb⟩
set_option maxRecDepth 100000 in
set_option maxHeartbeats 1000000 in
theorem axpy1_any {i j l : Nat} (W : World) (C : Nat) (c x y : Rat) (hC : Bx W C 52 (fcs c)) (hc : SzK i c) (hx : SzK j x) (hy : SzK l y) (hcap : i + j + l + 1 < 17592186044416) :
    Calls Tryz.prog 91 #[fracV x, fracV y, .pointer (some ⟨C, 0, none⟩)] W fun e w' => e = .returned (fracV (c * x + y)) ∧ Below W.heap.size W w' := by
  have c1 := fmul_any c x hc hx (by omega)
  have c2 := fadd_any (c * x) y (hc.mul hx) hy (by omega)
  obtain ⟨m, hm⟩ : ∃ m, m = c * x := ⟨_, rfl⟩
  rw [← hm] at c1 c2 ⊢
  obtain ⟨r, hr⟩ : ∃ r, r = m + y := ⟨_, rfl⟩
  rw [← hr] at c2 ⊢
  obtain ⟨P1, P2, P3, P4, P5, hP, hP'⟩ : ∃ A1 A2 A3 A4 A5, fracV c = .agg #[.int .u64 A1, .string A2, .bool A3, .int .u64 A4, .string A5] ∧ fcs c = [.int .u64 A1, .string A2, .bool A3, .int .u64 A4, .string A5] := ⟨_, _, _, _, _, rfl, rfl⟩
  obtain ⟨B1, B2, B3, B4, B5, hB, hB'⟩ : ∃ A1 A2 A3 A4 A5, fracV x = .agg #[.int .u64 A1, .string A2, .bool A3, .int .u64 A4, .string A5] ∧ fcs x = [.int .u64 A1, .string A2, .bool A3, .int .u64 A4, .string A5] := ⟨_, _, _, _, _, rfl, rfl⟩
  obtain ⟨D1, D2, D3, D4, D5, hD, hD'⟩ : ∃ A1 A2 A3 A4 A5, fracV y = .agg #[.int .u64 A1, .string A2, .bool A3, .int .u64 A4, .string A5] ∧ fcs y = [.int .u64 A1, .string A2, .bool A3, .int .u64 A4, .string A5] := ⟨_, _, _, _, _, rfl, rfl⟩
  obtain ⟨M1, M2, M3, M4, M5, hM, hM'⟩ : ∃ A1 A2 A3 A4 A5, fracV m = .agg #[.int .u64 A1, .string A2, .bool A3, .int .u64 A4, .string A5] ∧ fcs m = [.int .u64 A1, .string A2, .bool A3, .int .u64 A4, .string A5] := ⟨_, _, _, _, _, rfl, rfl⟩
  obtain ⟨A1, A2, A3, A4, A5, hA, hA'⟩ : ∃ A1 A2 A3 A4 A5, fracV r = .agg #[.int .u64 A1, .string A2, .bool A3, .int .u64 A4, .string A5] ∧ fcs r = [.int .u64 A1, .string A2, .bool A3, .int .u64 A4, .string A5] := ⟨_, _, _, _, _, rfl, rfl⟩
  rw [hP'] at hC
  rw [hP, hB, hM] at c1
  rw [hM, hD, hA] at c2
  rw [hB, hD, hA]
  clear hm hr hc hx hy hcap hP hB hD hM hA hP' hB' hD' hM' hA'
  go_enter Tryz.func91, Tryz.ntmps91
  go_upto_region 1 with fail
  ((obtain ⟨X, hXX⟩ : ∃ z, z = W.heap.size := ⟨_, rfl⟩); (have bV0 := (((Bx.new_at W #[.int .u64 B1, .string B2, .bool B3, .int .u64 B4, .string B5] 52 (n := X) (by simp [hXX])).alloc (.cells #[.int .u64 D1, .string D2, .bool D3, .int .u64 D4, .string D5] 52)).alloc (.cells #[.int .u64 0, .string ⟨#[]⟩, .bool false, .int .u64 0, .string ⟨#[]⟩] 52))); (have bV1 := ((Bx.new_at (W.alloc (.cells #[.int .u64 B1, .string B2, .bool B3, .int .u64 B4, .string B5] 52)) #[.int .u64 D1, .string D2, .bool D3, .int .u64 D4, .string D5] 52 (n := X + 1) (by simp [hXX])).alloc (.cells #[.int .u64 0, .string ⟨#[]⟩, .bool false, .int .u64 0, .string ⟨#[]⟩] 52))); (have bV2 := (Bx.new_at ((W.alloc (.cells #[.int .u64 B1, .string B2, .bool B3, .int .u64 B4, .string B5] 52)).alloc (.cells #[.int .u64 D1, .string D2, .bool D3, .int .u64 D4, .string D5] 52)) #[.int .u64 0, .string ⟨#[]⟩, .bool false, .int .u64 0, .string ⟨#[]⟩] 52 (n := X + 1 + 1) (by simp [hXX]))); (have hV := ((((In.self W).alloc (.cells #[.int .u64 B1, .string B2, .bool B3, .int .u64 B4, .string B5] 52)).alloc (.cells #[.int .u64 D1, .string D2, .bool D3, .int .u64 D4, .string D5] 52)).alloc (.cells #[.int .u64 0, .string ⟨#[]⟩, .bool false, .int .u64 0, .string ⟨#[]⟩] 52))); (replace hC := (((hC.alloc (.cells #[.int .u64 B1, .string B2, .bool B3, .int .u64 B4, .string B5] 52)).alloc (.cells #[.int .u64 D1, .string D2, .bool D3, .int .u64 D4, .string D5] 52)).alloc (.cells #[.int .u64 0, .string ⟨#[]⟩, .bool false, .int .u64 0, .string ⟨#[]⟩] 52))); (rw [← hXX] at hV ⊢); (have HX := Lib.hid hXX); (clear hXX); (generalize ((W.alloc (.cells #[.int .u64 B1, .string B2, .bool B3, .int .u64 B4, .string B5] 52)).alloc (.cells #[.int .u64 D1, .string D2, .bool D3, .int .u64 D4, .string D5] 52)).alloc (.cells #[.int .u64 0, .string ⟨#[]⟩, .bool false, .int .u64 0, .string ⟨#[]⟩] 52) = V at *))
  have x0 := bV0.c0; have x1 := bV0.c1; have x2 := bV0.c2; have x3 := bV0.c3; have x4 := bV0.c4; have xl := bV0.lt
  have y0 := bV1.c0; have y1 := bV1.c1; have y2 := bV1.c2; have y3 := bV1.c3; have y4 := bV1.c4; have yl := bV1.lt
  have z0 := hC.c0; have z1 := hC.c1; have z2 := hC.c2; have z3 := hC.c3; have z4 := hC.c4; have zl := hC.lt
  have h := In.self V
  have hc := h.cell
  refine wp_region_flow 5 (by kernel_rfl) (by kernel_rfl) (fun _ _ d _ _ h => by cases d <;> exact h) ?_; simp only [List.take_succ_cons, List.take_zero, List.drop_succ_cons, List.drop_zero]; simp only [putAll, Act.put, List.setIfInBounds_toArray, List.set]; (try simp only [Nat.reduceAdd]); (try simp only [Nat.zero_add]); (repeat (first | ((with_reducible refine flow_float (v := ?_) ?_ ?_ ?_); rotate_left 1; (focus (with_reducible rfl)); (focus (intro u w1 hw hd w2; (try simp only [depH] at hd); (try simp only [ext] at hd); (try simp only [extU] at hd); (try simp only [Nat.reduceAdd] at hd); (try simp only [Nat.reduceEqDiff] at hd); (try simp only [reduceIte] at hd); (try simp only [and_true] at hd); (try simp only [true_and] at hd); go_simp; exact rfl))) | ((first | ((with_reducible refine flow_pure0 (v := ?_) ?_ ?_ ?_ ?_); rotate_left 1; (focus (with_reducible rfl)); (focus rfl)) | ((with_reducible refine flow_pureg (v := ?_) (j := ?_) (b := ?_) ?_ ?_ ?_ ?_); rotate_left 3; (focus (with_reducible rfl)); (focus (intro u w1 hw hd; (try simp only [depH] at hd); (try simp only [ext] at hd); (try simp only [extU] at hd); (try simp only [Nat.reduceAdd] at hd); (try simp only [Nat.reduceEqDiff] at hd); (try simp only [reduceIte] at hd); (try simp only [and_true] at hd); (try simp only [true_and] at hd); simp [yielded, hd]; done)))); (focus (intro u w1 hw hd; (try simp only [depH] at hd); (try simp only [ext] at hd); (try simp only [extU] at hd); (try simp only [Nat.reduceAdd] at hd); (try simp only [Nat.reduceEqDiff] at hd); (try simp only [reduceIte] at hd); (try simp only [and_true] at hd); (try simp only [true_and] at hd); have hc' := hw.cell; first | (go_simp; exact rfl) | (go_simp; go_at_call 25; ((with_reducible refine (c1 _).mono ?_)); rintro e w'' ⟨rfl, hb⟩; refine ⟨?_, hb⟩; exact rfl) | (go_simp; go_at_call 44; ((with_reducible refine (c2 _).mono ?_)); rintro e w'' ⟨rfl, hb⟩; refine ⟨?_, hb⟩; exact rfl)))) | ((with_reducible refine flow_skipg (j := ?_) (b := ?_) ?_ ?_ ?_); rotate_left 2; (focus (with_reducible rfl)); (focus (intro u w1 hw hd; (try simp only [depH] at hd); (try simp only [ext] at hd); (try simp only [extU] at hd); (try simp only [Nat.reduceAdd] at hd); (try simp only [Nat.reduceEqDiff] at hd); (try simp only [reduceIte] at hd); (try simp only [and_true] at hd); (try simp only [true_and] at hd); simp [yielded, hd]; done))) | ((with_reducible refine flow_alloc (t := ?_) (zs := ?_) ?_ ?_ ?_ ?_); rotate_left 2; (focus (with_reducible rfl)); (focus rfl); (focus (intro u w1; go_simp; exact rfl)))))
  (try clear hc hf h); intro u w' h ha hdi; replace h := h.ins; (try simp only [World.size_alloc] at h); (try dsimp only at ha); (repeat rw [World.size_alloc] at ha); (try simp only [allH] at ha); (try simp only [ext] at ha); (try simp only [extU] at ha); (try simp only [Nat.reduceAdd] at ha); (try simp only [Nat.reduceEqDiff] at ha); (try simp only [reduceIte] at ha); (try simp only [and_true] at ha); (try simp only [true_and] at ha); have hc := h.cell; have hf := h.frozen
  (try obtain ha := ha); (try dsimp only);  simp only [ha]; clear ha hdi 
  have hin := hV.call h.bel
  have bq := bV2.call h.bel
  clear hc hf h hV bV0 bV1 bV2 hC x0 x1 x2 x3 x4 xl y0 y1 y2 y3 y4 yl z0 z1 z2 z3 z4 zl
  ((have q0 := bq.c0); (have q1 := bq.c1); (have q2 := bq.c2); (have q3 := bq.c3); (have q4 := bq.c4); (have f0 := bq.frozen 0); (have f1 := bq.frozen 1); (have f2 := bq.frozen 2); (have f3 := bq.frozen 3); (have f4 := bq.frozen 4); (have ql := bq.lt); (have K1 := Lib.hid ((((((bq.set 0 (.int .u64 A1)).set 1 (.string A2)).set 2 (.bool A3)).set 3 (.int .u64 A4)).set 4 (.string A5)))); (have K2 := Lib.hid ((((((hin.setCell (p := ⟨(X + 1 + 1), 0, none⟩) (by first | (simp; done) | (have := HX.out; simp; omega)) (.int .u64 A1)).setCell (p := ⟨(X + 1 + 1), 1, none⟩) (by first | (simp; done) | (have := HX.out; simp; omega)) (.string A2)).setCell (p := ⟨(X + 1 + 1), 2, none⟩) (by first | (simp; done) | (have := HX.out; simp; omega)) (.bool A3)).setCell (p := ⟨(X + 1 + 1), 3, none⟩) (by first | (simp; done) | (have := HX.out; simp; omega)) (.int .u64 A4)).setCell (p := ⟨(X + 1 + 1), 4, none⟩) (by first | (simp; done) | (have := HX.out; simp; omega)) (.string A5)))); (clear bq hin); (go_wp2_with fail); (have k1 := K1.out); (have k2 := K2.out); (clear q0 q1 q2 q3 q4 f0 f1 f2 f3 f4 ql K1 K2); (generalize ((((w'.setCell ⟨(X + 1 + 1), 0, none⟩ (.int .u64 A1)).setCell ⟨(X + 1 + 1), 1, none⟩ (.string A2)).setCell ⟨(X + 1 + 1), 2, none⟩ (.bool A3)).setCell ⟨(X + 1 + 1), 3, none⟩ (.int .u64 A4)).setCell ⟨(X + 1 + 1), 4, none⟩ (.string A5) = W5 at *); (have e0 : W5.cell? ⟨(X + 1 + 1), 0, none⟩ = some (.int .u64 A1) := k1.cell 0); (have e1 : W5.cell? ⟨(X + 1 + 1), 1, none⟩ = some (.string A2) := k1.cell 1); (have e2 : W5.cell? ⟨(X + 1 + 1), 2, none⟩ = some (.bool A3) := k1.cell 2); (have e3 : W5.cell? ⟨(X + 1 + 1), 3, none⟩ = some (.int .u64 A4) := k1.cell 3); (have e4 : W5.cell? ⟨(X + 1 + 1), 4, none⟩ = some (.string A5) := k1.cell 4); (have hz := k2.bel); (refine bodyPost_ret (v := .agg #[.int .u64 A1, .string A2, .bool A3, .int .u64 A4, .string A5]) ?_ rfl ⟨rfl, by rw [← HX.out]; exact hz⟩); (simp [results, Tryz.results91, go_sem, e0, e1, e2, e3, e4]))
set_option maxRecDepth 100000 in
set_option maxHeartbeats 1000000 in
theorem axpy_vl {i j l n : Nat} (w : World) (c : Rat) (x y : Value) (u v : Vc) (hx : VecAt w x (vl n u)) (hy : VecAt w y (vl n v)) (hn : n ≤ 64) (hc : SzK i c) (hu : ∀ i, i < n → SzK j (u i)) (hv : ∀ i, i < n → SzK l (v i)) (hcap : i + j + l + 1 < 17592186044416) :
    Calls Tryz.prog 28 #[fracV c, x, y] w fun e w' => (∃ d, e = .returned (.tuple #[d, .int .i64 0]) ∧ VecAt w' d (vl n (axp c u v))) ∧ Below w.heap.size w w' := by
  have eg : ∀ args w, (callFunc 91 args).run Tryz.prog w = .ok (.enter 91 args) w := enters_of Tryz.func91 (by kernel_rfl) rfl
  have h1 := fun W X (h : In w.heap.size w W) (hX : Bx W X 52 (fcs c)) => veach_any (fun p q => c * p + q) W x y (vl n u) (vl n v) n 91 #[.pointer (some ⟨X, 0, none⟩)] (hx.call h.bel) (hy.call h.bel) (vl_length _ _) (vl_length _ _) (by omega) eg (fun i W2 hi hin2 => by
    rw [vl_getD u hi, vl_getD v hi]; exact axpy1_any W2 X c _ _ (hX.call hin2.bel) hc (hu i hi) (hv i hi) hcap)
  have e : ((List.range n).map fun i => c * (vl n u).getD i 0 + (vl n v).getD i 0) = vl n (axp c u v) := List.map_congr_left fun i hi => by rw [vl_getD u (List.mem_range.1 hi), vl_getD v (List.mem_range.1 hi)]; rfl
  simp only [e] at h1
  obtain ⟨a, k, rfl⟩ := hx.shape
  obtain ⟨a', k', rfl⟩ := hy.shape
  simp only [vl_length] at h1
  rw [vl_length, vl_length]
  obtain ⟨L, hL⟩ : ∃ L, L = vl n (axp c u v) := ⟨_, rfl⟩
  have hLn : L.length = n := by rw [hL, vl_length]
  rw [← hL]
  rw [← hL] at h1
  have HL := Lib.hid hLn
  obtain ⟨P1, P2, P3, P4, P5, hP, hP'⟩ : ∃ A1 A2 A3 A4 A5, fracV c = .agg #[.int .u64 A1, .string A2, .bool A3, .int .u64 A4, .string A5] ∧ fcs c = [.int .u64 A1, .string A2, .bool A3, .int .u64 A4, .string A5] := ⟨_, _, _, _, _, rfl, rfl⟩
  rw [hP'] at h1
  rw [hP]
  clear hx hy hu hv hcap e eg hL hLn hc hP hP'
  go_enter Tryz.func28, Tryz.ntmps28
  go_upto_region 1 with fail
  ((obtain ⟨X, hXX⟩ : ∃ z, z = w.heap.size := ⟨_, rfl⟩); (have bV0 := (Bx.new_at w #[.int .u64 P1, .string P2, .bool P3, .int .u64 P4, .string P5] 52 (n := X) (by simp [hXX]))); (have hV := ((In.self w).alloc (.cells #[.int .u64 P1, .string P2, .bool P3, .int .u64 P4, .string P5] 52))); (rw [← hXX] at hV ⊢); (have HX := Lib.hid hXX); (clear hXX); (generalize w.alloc (.cells #[.int .u64 P1, .string P2, .bool P3, .int .u64 P4, .string P5] 52) = V at *))
  rw [HX.out] at hV
  go_wp2_with fail
  ((with_reducible refine (h1 _ _ hV bV0).mono ?_))
  rintro e w2 ⟨⟨d, rfl, hd⟩, hb⟩
  obtain ⟨da, dk, rfl⟩ := hd.shape
  rw [HL.out] at hd ⊢
  have HD := Lib.hid hd
  have hin := hV.call hb
  clear hd h1 hV bV0
  go_wp2_with fail
  exact bodyPost_ret (v := .tuple #[.slice da n dk, .int .i64 0]) (by simp [results, Tryz.results28, go_sem]) rfl ⟨⟨_, rfl, HD.out⟩, hin.bel⟩
theorem SzK.abs {j : Nat} {q : Rat} (h : SzK j q) : SzK j (absR q) := by
  unfold absR
  split
  · exact h.neg
  · exact h
theorem maxA_szk {j : Nat} (hj : 0 < j) : ∀ (qs : List Rat) (m : Rat), SzK j m → (∀ x ∈ qs, SzK j x) → SzK j (qs.foldl maxS m)
  | [], _, hm, _ => hm
  | x :: qs, m, hm, h => by
    rw [List.foldl_cons]
    refine maxA_szk hj qs _ ?_ fun y hy => h y (.tail _ hy)
    unfold maxS
    split
    · exact (h x (.head _)).abs
    · exact hm
set_option maxRecDepth 100000 in
set_option maxHeartbeats 2000000 in
theorem vmax_any {j : Nat} (w : World) (x : Value) (qs : List Rat) (hx : VecAt w x qs) (hj : 0 < j) (hq : ∀ y ∈ qs, SzK j y) (hcap : j + j < 17592186044416) (hl : qs.length ≤ 4096) :
    Calls Tryz.prog 21 #[x] w fun e w' => e = .returned (fracV (maxA qs)) ∧ Below w.heap.size w w' := by
  have hsz : ∀ i, SzK j (maxA (qs.take i)) := fun i => maxA_szk hj _ _ (SzK.zero.mono hj) fun y hy => hq y (List.mem_of_mem_take hy)
  have HS := Lib.hid hsz
  have HQ := Lib.hid hq
  have HV := Lib.hid hx
  obtain ⟨a, kap, rfl⟩ := hx.shape
  obtain ⟨n, hn⟩ : ∃ n, n = qs.length := ⟨_, rfl⟩
  rw [← hn] at hl ⊢
  have HN := Lib.hid hn
  clear hx hn hsz hq hj
  go_enter Tryz.func21, Tryz.ntmps21
  go_upto_region 1 with fail
  ((obtain ⟨X, hXX⟩ : ∃ z, z = w.heap.size := ⟨_, rfl⟩); (have bV0 := (Bx.new_at w #[.int .u64 0, .string ⟨#[]⟩, .bool false, .int .u64 0, .string ⟨#[]⟩] 52 (n := X) (by simp [hXX]))); (have hV := ((In.self w).alloc (.cells #[.int .u64 0, .string ⟨#[]⟩, .bool false, .int .u64 0, .string ⟨#[]⟩] 52))); (rw [← hXX] at hV ⊢); (have HX := Lib.hid hXX); (clear hXX); (generalize w.alloc (.cells #[.int .u64 0, .string ⟨#[]⟩, .bool false, .int .u64 0, .string ⟨#[]⟩] 52) = V at *))
  go_wp2_with fail
  go_loopw [7] (fun v7 wr => ∃ i : Nat, i ≤ n ∧ v7 = .int .i64 i ∧ In X w wr ∧ Bx wr X 52 (fcs (maxA (qs.take i)))) (fun v7 _ => n - (RowKit.intOf v7).toNat)
  case atStart => exact ⟨0, Nat.zero_le _, rfl, hV, bV0⟩
  case round =>
    clear hV bV0
    obtain ⟨i, hi, rfl, hin, hT⟩ := hrel
    obtain ⟨m, hm⟩ : ∃ m, m = maxA (qs.take i) := ⟨_, rfl⟩
    rw [← hm] at hT
    have hms : SzK j m := by rw [hm]; exact HS.out i
    have HM := Lib.hid hm
    obtain ⟨M1, M2, M3, M4, M5, hM, hM'⟩ : ∃ A1 A2 A3 A4 A5, fracV m = .agg #[.int .u64 A1, .string A2, .bool A3, .int .u64 A4, .string A5] ∧ fcs m = [.int .u64 A1, .string A2, .bool A3, .int .u64 A4, .string A5] := ⟨_, _, _, _, _, rfl, rfl⟩
    rw [hM'] at hT
    clear hm
    by_cases hi2 : i < n
    · have hiI : (i : Int) < n := by omega
      have hi0 : (0 : Int) ≤ i := by omega
      have hiw : IntKind.i64.wrap ((i : Int) + 1) = ((i + 1 : Nat) : Int) := IntWalk.i64_in _ (by omega)
      have hilt : i < qs.length := by rw [← HN.out]; exact hi2
      obtain ⟨b1, o1, _, B1, B2, B3, B4, B5, e1, hb1, hf0, hf1, y0, y1, y2, y3, y4⟩ := HV.out.at (i := i) hilt
      simp only [Value.slice.injEq] at e1
      obtain ⟨rfl, _, hk1⟩ := e1
      subst hk1
      rw [← HX.out] at hb1
      rw [← hin.cell b1 _ hb1] at y0 y1 y2 y3 y4
      have hbw1 : b1 < wr.heap.size := by have := hin.siz; omega
      obtain ⟨q, hqe⟩ : ∃ q, q = qs.getD i 0 := ⟨_, rfl⟩
      have hqs : SzK j q := by rw [hqe, List.getD_eq_getElem?_getD, List.getElem?_eq_getElem hilt]; exact HQ.out _ (List.getElem_mem _)
      have hnext : maxA (qs.take (i + 1)) = maxS m q := by
        unfold maxA
        rw [List.take_add_one, List.getElem?_eq_getElem hilt, List.foldl_append, HM.out, hqe, List.getD_eq_getElem?_getD, List.getElem?_eq_getElem hilt]; rfl
      have HNX := Lib.hid hnext
      rw [← hqe] at hf1
      have c1 := fabs_any q
      have c2 := fcmp_any (absR q) m hqs.abs hms hcap
      obtain ⟨r, hr⟩ : ∃ r, r = absR q := ⟨_, rfl⟩
      obtain ⟨cv, hcv⟩ : ∃ cv, cv = cmpR (absR q) m := ⟨_, rfl⟩
      rw [← hcv] at c2
      rw [← hr] at c1 c2
      have HCV := Lib.hid hcv
      have HR := Lib.hid hr
      obtain ⟨A1, A2, A3, A4, A5, hA, hA'⟩ : ∃ A1 A2 A3 A4 A5, fracV r = .agg #[.int .u64 A1, .string A2, .bool A3, .int .u64 A4, .string A5] ∧ fcs r = [.int .u64 A1, .string A2, .bool A3, .int .u64 A4, .string A5] := ⟨_, _, _, _, _, rfl, rfl⟩
      rw [hf1, hA] at c1
      rw [hA, hM] at c2
      have HA := Lib.hid hA'
      have HMM := Lib.hid hM'
      clear hnext hcv hr hqs hms hf0 hf1 hA hA' hqe hM hM' hb1
      go_upto_region 4 with fail
      have hXY : X < wr.heap.size := hT.lt
      clear y0 y1 y2 y3 y4 hbw1
      ((obtain ⟨Y, hY⟩ : ∃ z, z = wr.heap.size := ⟨_, rfl⟩); (have bY := Bx.new_at wr #[.int .u64 B1, .string B2, .bool B3, .int .u64 B4, .string B5] 52 hY); (replace hin := hin.alloc (.cells #[.int .u64 B1, .string B2, .bool B3, .int .u64 B4, .string B5] 52)); (replace hT := hT.alloc (.cells #[.int .u64 B1, .string B2, .bool B3, .int .u64 B4, .string B5] 52)); (rw [← hY] at hXY); (rw [← hY]); (clear hY); (generalize wr.alloc (.cells #[.int .u64 B1, .string B2, .bool B3, .int .u64 B4, .string B5] 52) = V1 at *))
      have y0 := bY.c0; have y1 := bY.c1; have y2 := bY.c2; have y3 := bY.c3; have y4 := bY.c4; have yl := bY.lt
      go_wp2_with fail
      ((with_reducible refine (c1 _).mono ?_))
      rintro e w2 ⟨rfl, hb⟩
      have hin2 := hin.call hb
      have hT2 := hT.call hb
      have bY2 := bY.call hb
      clear hb c1 hin hT bY y0 y1 y2 y3 y4 yl
      have y0 := bY2.c0; have y1 := bY2.c1; have y2 := bY2.c2; have y3 := bY2.c3; have y4 := bY2.c4; have yl := bY2.lt
      have f0 := bY2.frozen 0; have f1 := bY2.frozen 1; have f2 := bY2.frozen 2; have f3 := bY2.frozen 3; have f4 := bY2.frozen 4
      ((have KB := Lib.hid (((((bY2.set 0 (.int .u64 A1)).set 1 (.string A2)).set 2 (.bool A3)).set 3 (.int .u64 A4)).set 4 (.string A5))); (have Khin2 := Lib.hid (((((hin2.setCell (p := ⟨Y, 0, none⟩) (by first | (simp; done) | (simp; omega)) (.int .u64 A1)).setCell (p := ⟨Y, 1, none⟩) (by first | (simp; done) | (simp; omega)) (.string A2)).setCell (p := ⟨Y, 2, none⟩) (by first | (simp; done) | (simp; omega)) (.bool A3)).setCell (p := ⟨Y, 3, none⟩) (by first | (simp; done) | (simp; omega)) (.int .u64 A4)).setCell (p := ⟨Y, 4, none⟩) (by first | (simp; done) | (simp; omega)) (.string A5))); (have KhT2 := Lib.hid (Bx.other (a := ⟨Y, 4, none⟩) (Bx.other (a := ⟨Y, 3, none⟩) (Bx.other (a := ⟨Y, 2, none⟩) (Bx.other (a := ⟨Y, 1, none⟩) (Bx.other (a := ⟨Y, 0, none⟩) hT2 (by simp; omega) (.int .u64 A1)) (by simp; omega) (.string A2)) (by simp; omega) (.bool A3)) (by simp; omega) (.int .u64 A4)) (by simp; omega) (.string A5))); (clear bY2 hin2 hT2))
      go_upto_region 5 with fail
      ((have bY2 := KB.out); (have hin2 := Khin2.out); (have hT2 := KhT2.out); (simp only [List.set] at bY2); (clear KB Khin2 KhT2); (generalize ((((w2.setCell ⟨Y, 0, none⟩ (.int .u64 A1)).setCell ⟨Y, 1, none⟩ (.string A2)).setCell ⟨Y, 2, none⟩ (.bool A3)).setCell ⟨Y, 3, none⟩ (.int .u64 A4)).setCell ⟨Y, 4, none⟩ (.string A5) = V2 at *))
      clear y0 y1 y2 y3 y4 yl f0 f1 f2 f3 f4
      have y0 := bY2.c0; have y1 := bY2.c1; have y2 := bY2.c2; have y3 := bY2.c3; have y4 := bY2.c4; have yl := bY2.lt
      have x0 := hT2.c0; have x1 := hT2.c1; have x2 := hT2.c2; have x3 := hT2.c3; have x4 := hT2.c4; have xl := hT2.lt
      go_wp2_with fail
      ((with_reducible refine (c2 _).mono ?_))
      rintro e w3 ⟨rfl, hb⟩
      have hin3 := hin2.call hb
      have hT3 := hT2.call hb
      have bY3 := bY2.call hb
      clear hb c2 hin2 hT2 bY2 y0 y1 y2 y3 y4 yl x0 x1 x2 x3 x4 xl
      by_cases hcp : 0 < cv
      · have hm2 : maxS m q = r := by
          unfold maxS
          rw [if_pos (by rw [← HCV.out]; exact hcp), HR.out]
        have HM2 : Hid (fcs (maxA (qs.take (i + 1))) = [.int .u64 A1, .string A2, .bool A3, .int .u64 A4, .string A5]) := Lib.hid (by rw [HNX.out, hm2, HA.out])
        clear hm2
        have y0 := bY3.c0; have y1 := bY3.c1; have y2 := bY3.c2; have y3 := bY3.c3; have y4 := bY3.c4; have yl := bY3.lt
        have x0 := hT3.c0; have x1 := hT3.c1; have x2 := hT3.c2; have x3 := hT3.c3; have x4 := hT3.c4; have xl := hT3.lt
        have f0 := hT3.frozen 0; have f1 := hT3.frozen 1; have f2 := hT3.frozen 2; have f3 := hT3.frozen 3; have f4 := hT3.frozen 4
        ((have KB := Lib.hid (((((hT3.set 0 (.int .u64 A1)).set 1 (.string A2)).set 2 (.bool A3)).set 3 (.int .u64 A4)).set 4 (.string A5))); (have Khin3 := Lib.hid (((((hin3.setCell (p := ⟨X, 0, none⟩) (by first | (simp; done) | (simp; omega)) (.int .u64 A1)).setCell (p := ⟨X, 1, none⟩) (by first | (simp; done) | (simp; omega)) (.string A2)).setCell (p := ⟨X, 2, none⟩) (by first | (simp; done) | (simp; omega)) (.bool A3)).setCell (p := ⟨X, 3, none⟩) (by first | (simp; done) | (simp; omega)) (.int .u64 A4)).setCell (p := ⟨X, 4, none⟩) (by first | (simp; done) | (simp; omega)) (.string A5))); (clear hT3 hin3))
        clear bY3
        go_upto_region 7 with fail
        ((have hT3 := KB.out); (have hin3 := Khin3.out); (simp only [List.set] at hT3); (clear KB Khin3); (generalize ((((w3.setCell ⟨X, 0, none⟩ (.int .u64 A1)).setCell ⟨X, 1, none⟩ (.string A2)).setCell ⟨X, 2, none⟩ (.bool A3)).setCell ⟨X, 3, none⟩ (.int .u64 A4)).setCell ⟨X, 4, none⟩ (.string A5) = V3 at *))
        clear y0 y1 y2 y3 y4 yl x0 x1 x2 x3 x4 xl f0 f1 f2 f3 f4
        go_wp2_with fail
        exact ⟨⟨i + 1, by omega, by go_num, hin3, by rw [HM2.out]; exact hT3⟩, by simp [RowKit.intOf]; omega⟩
      · have hm2 : maxS m q = m := by
          unfold maxS
          rw [if_neg (by rw [← HCV.out]; exact hcp)]
        have HM2 : Hid (fcs (maxA (qs.take (i + 1))) = [.int .u64 M1, .string M2, .bool M3, .int .u64 M4, .string M5]) := Lib.hid (by rw [HNX.out, hm2, HMM.out])
        clear hm2
        go_wp2_with fail
        exact ⟨⟨i + 1, by omega, by go_num, hin3, by rw [HM2.out]; exact hT3⟩, by simp [RowKit.intOf]; omega⟩
    · obtain rfl : i = n := by omega
      have hiI : ¬ (i : Int) < i := by omega
      have hfin : maxA qs = m := by rw [HM.out, HN.out, List.take_length]
      have bq := hT
      have HFIN : Hid (fracV (maxA qs) = .agg #[.int .u64 M1, .string M2, .bool M3, .int .u64 M4, .string M5]) := Lib.hid (by rw [hfin, hM])
      clear hT hfin hM hM'
      ((have q0 := bq.c0); (have q1 := bq.c1); (have q2 := bq.c2); (have q3 := bq.c3); (have q4 := bq.c4); (have f0 := bq.frozen 0); (have f1 := bq.frozen 1); (have f2 := bq.frozen 2); (have f3 := bq.frozen 3); (have f4 := bq.frozen 4); (have ql := bq.lt); (have K1 := Lib.hid ((((((bq.set 0 (.int .u64 M1)).set 1 (.string M2)).set 2 (.bool M3)).set 3 (.int .u64 M4)).set 4 (.string M5)))); (have K2 := Lib.hid ((((((hin.setCell (p := ⟨X, 0, none⟩) (by first | (simp; done) | (have := HX.out; simp; omega)) (.int .u64 M1)).setCell (p := ⟨X, 1, none⟩) (by first | (simp; done) | (have := HX.out; simp; omega)) (.string M2)).setCell (p := ⟨X, 2, none⟩) (by first | (simp; done) | (have := HX.out; simp; omega)) (.bool M3)).setCell (p := ⟨X, 3, none⟩) (by first | (simp; done) | (have := HX.out; simp; omega)) (.int .u64 M4)).setCell (p := ⟨X, 4, none⟩) (by first | (simp; done) | (have := HX.out; simp; omega)) (.string M5)))); (clear bq hin); (go_wp2_with fail); (have k1 := K1.out); (have k2 := K2.out); (clear q0 q1 q2 q3 q4 f0 f1 f2 f3 f4 ql K1 K2); (generalize ((((wr.setCell ⟨X, 0, none⟩ (.int .u64 M1)).setCell ⟨X, 1, none⟩ (.string M2)).setCell ⟨X, 2, none⟩ (.bool M3)).setCell ⟨X, 3, none⟩ (.int .u64 M4)).setCell ⟨X, 4, none⟩ (.string M5) = W5 at *); (have e0 : W5.cell? ⟨X, 0, none⟩ = some (.int .u64 M1) := k1.cell 0); (have e1 : W5.cell? ⟨X, 1, none⟩ = some (.string M2) := k1.cell 1); (have e2 : W5.cell? ⟨X, 2, none⟩ = some (.bool M3) := k1.cell 2); (have e3 : W5.cell? ⟨X, 3, none⟩ = some (.int .u64 M4) := k1.cell 3); (have e4 : W5.cell? ⟨X, 4, none⟩ = some (.string M5) := k1.cell 4); (have hz := k2.bel); (refine bodyPost_ret (v := .agg #[.int .u64 M1, .string M2, .bool M3, .int .u64 M4, .string M5]) ?_ rfl ⟨by rw [HFIN.out], by rw [← HX.out]; exact hz⟩); (simp [results, Tryz.results21, go_sem, e0, e1, e2, e3, e4]))
end Gus
end
section
/- cgs: products, residuals, energies. -/
namespace Gus
open Go Go.RowKit Go.Proofs
def TupS (x : Value) : Prop := ∃ a l k e, x = .tuple #[.slice a l k, .int .i64 e]
def MvS (y x : Value) : Prop := x = y ∧ TupS x
def FstS (y x : Value) : Prop := ∃ a l k e, y = .tuple #[.slice a l k, .int .i64 e] ∧ x = .slice a l k
def SndS (y x : Value) : Prop := ∃ a l k e, y = .tuple #[.slice a l k, .int .i64 e] ∧ x = .int .i64 e
def TupV (L : List Rat) (x : Value) (w : World) : Prop := TupS x ∧ ∃ d, x = .tuple #[d, .int .i64 0] ∧ VecAt w d L
theorem stable_tupv (L : List Rat) : Stable (TupV L) := fun _ _ _ ⟨h1, d, h2, h3⟩ hs => ⟨h1, d, h2, h3.call hs⟩
def VcQ (L : List Rat) (x : Value) (w : World) : Prop := VecAt w x L
theorem stable_vcq (L : List Rat) : Stable (VcQ L) := fun _ _ _ h hs => VecAt.call h hs
theorem VcQ.v {L : List Rat} {x : Value} {w : World} (h : VcQ L x w) : VecAt w x L := h
theorem tupv_mk {w w' : World} {L : List Rat} {e : Ending} (h : (∃ d, e = .returned (.tuple #[d, .int .i64 0]) ∧ VecAt w' d L) ∧ Below w.heap.size w w') : (∃ v, e = .returned v ∧ TupV L v w') ∧ Below w.heap.size w w' := by
  obtain ⟨⟨d, h1, h2⟩, hb⟩ := h
  obtain ⟨a, k, h3⟩ := h2.shape
  exact ⟨⟨_, h1, ⟨_, _, _, _, by rw [h3]⟩, d, rfl, h2⟩, hb⟩
theorem tupv_out {L : List Rat} {w : World} {x y z t : Value} (h3 : TupV L x w) (h4 : MvS x y) (h5 : FstS y z) (h6 : SndS y t) :
    ∃ a k, x = .tuple #[.slice a L.length k, .int .i64 0] ∧ y = .tuple #[.slice a L.length k, .int .i64 0] ∧ z = .slice a L.length k ∧ t = .int .i64 0 ∧ VecAt w (.slice a L.length k) L := by
  obtain ⟨_, d, rfl, hd⟩ := h3
  obtain ⟨a, k, rfl⟩ := hd.shape
  obtain ⟨rfl, _⟩ := h4
  obtain ⟨a1, l1, k1, e1, h7, rfl⟩ := h5
  obtain ⟨a2, l2, k2, e2, h8, rfl⟩ := h6
  simp only [Value.tuple.injEq] at h7 h8
  have h9 := congrArg Array.toList h7
  have h10 := congrArg Array.toList h8
  simp only [List.cons.injEq, and_true, Value.slice.injEq, Value.int.injEq, true_and] at h9 h10
  obtain ⟨⟨rfl, rfl, rfl⟩, rfl⟩ := h9
  obtain ⟨_, rfl⟩ := h10
  exact ⟨_, _, rfl, rfl, rfl, rfl, hd⟩
set_option maxRecDepth 100000 in
set_option maxHeartbeats 1000000 in
theorem cdot_vl {j l n : Nat} (w : World) (x y : Value) (u v : Vc) (hx : VecAt w x (vl n u)) (hy : VecAt w y (vl n v)) (hn : n ≤ 64) (hu : ∀ i, i < n → SzK j (u i)) (hv : ∀ i, i < n → SzK l (v i)) (hj : 0 < j) (hl : 0 < l) (hcap : 1 + n * (j + l + 1) < 17592186044416) :
    Calls Tryz.prog 159 #[x, y] w fun e w' => e = .returned (fracV (dt n u v)) ∧ Below w.heap.size w w' := by
  have h1 := fun W (h : In w.heap.size w W) => vdot_vl (j := j) (l := l) W x y u v (hx.call h.bel) (hy.call h.bel) hn hu hv hj hl hcap
  obtain ⟨r, hr⟩ : ∃ r, r = dt n u v := ⟨_, rfl⟩
  rw [← hr] at h1 ⊢
  obtain ⟨A1, A2, A3, A4, A5, hA, hA'⟩ : ∃ A1 A2 A3 A4 A5, fracV r = .agg #[.int .u64 A1, .string A2, .bool A3, .int .u64 A4, .string A5] ∧ fcs r = [.int .u64 A1, .string A2, .bool A3, .int .u64 A4, .string A5] := ⟨_, _, _, _, _, rfl, rfl⟩
  rw [hA] at h1 ⊢
  obtain ⟨a, k, rfl⟩ := hx.shape
  obtain ⟨a', k', rfl⟩ := hy.shape
  rw [vl_length] at h1 ⊢
  rw [vl_length] at h1 ⊢
  clear hx hy hu hv hj hl hcap hr hA hA'
  go_enter Tryz.func159, Tryz.ntmps159
  go_upto_region 1 with fail
  ((obtain ⟨X, hXX⟩ : ∃ z, z = w.heap.size := ⟨_, rfl⟩); (have bV0 := (Bx.new_at w #[.int .u64 0, .string ⟨#[]⟩, .bool false, .int .u64 0, .string ⟨#[]⟩] 52 (n := X) (by simp [hXX]))); (have hV := ((In.self w).alloc (.cells #[.int .u64 0, .string ⟨#[]⟩, .bool false, .int .u64 0, .string ⟨#[]⟩] 52))); (rw [← hXX] at hV ⊢); (have HX := Lib.hid hXX); (clear hXX); (generalize w.alloc (.cells #[.int .u64 0, .string ⟨#[]⟩, .bool false, .int .u64 0, .string ⟨#[]⟩] 52) = V at *))
  rw [HX.out] at hV
  go_wp2_with fail
  ((with_reducible refine (h1 _ hV).mono ?_))
  rintro e w2 ⟨rfl, hb⟩
  have hin := hV.call hb
  have bq := bV0.call hb
  clear hb hV bV0 h1
  go_upto_region 2 with fail
  ((obtain ⟨S, hS⟩ : ∃ z, z = w2.heap.size := ⟨_, rfl⟩); (have bS := Bx.new_at w2 #[.int .u64 A1, .string A2, .bool A3, .int .u64 A4, .string A5] 52 hS); (replace hin := hin.alloc (.cells #[.int .u64 A1, .string A2, .bool A3, .int .u64 A4, .string A5] 52)); (replace bq := bq.alloc (.cells #[.int .u64 A1, .string A2, .bool A3, .int .u64 A4, .string A5] 52)); (rw [← hS]); (clear hS); (generalize w2.alloc (.cells #[.int .u64 A1, .string A2, .bool A3, .int .u64 A4, .string A5] 52) = V2 at *))
  have s0 := bS.c0; have s1 := bS.c1; have s2 := bS.c2; have s3 := bS.c3; have s4 := bS.c4; have sl := bS.lt
  ((have q0 := bq.c0); (have q1 := bq.c1); (have q2 := bq.c2); (have q3 := bq.c3); (have q4 := bq.c4); (have f0 := bq.frozen 0); (have f1 := bq.frozen 1); (have f2 := bq.frozen 2); (have f3 := bq.frozen 3); (have f4 := bq.frozen 4); (have ql := bq.lt); (have K1 := Lib.hid ((((((bq.set 0 (.int .u64 A1)).set 1 (.string A2)).set 2 (.bool A3)).set 3 (.int .u64 A4)).set 4 (.string A5)))); (have K2 := Lib.hid ((((((hin.setCell (p := ⟨X, 0, none⟩) (by first | (simp; done) | (have := HX.out; simp; omega)) (.int .u64 A1)).setCell (p := ⟨X, 1, none⟩) (by first | (simp; done) | (have := HX.out; simp; omega)) (.string A2)).setCell (p := ⟨X, 2, none⟩) (by first | (simp; done) | (have := HX.out; simp; omega)) (.bool A3)).setCell (p := ⟨X, 3, none⟩) (by first | (simp; done) | (have := HX.out; simp; omega)) (.int .u64 A4)).setCell (p := ⟨X, 4, none⟩) (by first | (simp; done) | (have := HX.out; simp; omega)) (.string A5)))); (clear bq hin); (go_wp2_with fail); (have k1 := K1.out); (have k2 := K2.out); (clear q0 q1 q2 q3 q4 f0 f1 f2 f3 f4 ql K1 K2); (generalize ((((V2.setCell ⟨X, 0, none⟩ (.int .u64 A1)).setCell ⟨X, 1, none⟩ (.string A2)).setCell ⟨X, 2, none⟩ (.bool A3)).setCell ⟨X, 3, none⟩ (.int .u64 A4)).setCell ⟨X, 4, none⟩ (.string A5) = W5 at *); (have e0 : W5.cell? ⟨X, 0, none⟩ = some (.int .u64 A1) := k1.cell 0); (have e1 : W5.cell? ⟨X, 1, none⟩ = some (.string A2) := k1.cell 1); (have e2 : W5.cell? ⟨X, 2, none⟩ = some (.bool A3) := k1.cell 2); (have e3 : W5.cell? ⟨X, 3, none⟩ = some (.int .u64 A4) := k1.cell 3); (have e4 : W5.cell? ⟨X, 4, none⟩ = some (.string A5) := k1.cell 4); (have hz := k2.bel); (refine bodyPost_ret (v := .agg #[.int .u64 A1, .string A2, .bool A3, .int .u64 A4, .string A5]) ?_ rfl ⟨rfl, hz⟩); (simp [results, Tryz.results159, go_sem, e0, e1, e2, e3, e4]))
set_option maxRecDepth 100000 in
set_option maxHeartbeats 1000000 in
theorem caxpy_vl {i j l n : Nat} (w : World) (c : Rat) (x y : Value) (u v : Vc) (hx : VecAt w x (vl n u)) (hy : VecAt w y (vl n v)) (hn : n ≤ 64) (hc : SzK i c) (hu : ∀ i, i < n → SzK j (u i)) (hv : ∀ i, i < n → SzK l (v i)) (hcap : i + j + l + 1 < 17592186044416) :
    Calls Tryz.prog 160 #[fracV c, x, y] w fun e w' => (∃ d, e = .returned d ∧ VecAt w' d (vl n (axp c u v))) ∧ Below w.heap.size w w' := by
  have h1 := fun W (h : In w.heap.size w W) => axpy_vl (i := i) (j := j) (l := l) W c x y u v (hx.call h.bel) (hy.call h.bel) hn hc hu hv hcap
  obtain ⟨P1, P2, P3, P4, P5, hP, hP'⟩ : ∃ A1 A2 A3 A4 A5, fracV c = .agg #[.int .u64 A1, .string A2, .bool A3, .int .u64 A4, .string A5] ∧ fcs c = [.int .u64 A1, .string A2, .bool A3, .int .u64 A4, .string A5] := ⟨_, _, _, _, _, rfl, rfl⟩
  rw [hP] at h1 ⊢
  obtain ⟨a, k, rfl⟩ := hx.shape
  obtain ⟨a', k', rfl⟩ := hy.shape
  rw [vl_length] at h1 ⊢
  rw [vl_length] at h1 ⊢
  clear hx hy hu hv hcap hc hP hP'
  go_enter Tryz.func160, Tryz.ntmps160
  go_upto_region 1 with fail
  ((obtain ⟨X, hXX⟩ : ∃ z, z = w.heap.size := ⟨_, rfl⟩); (have bV0 := (Bx.new_at w #[.int .u64 P1, .string P2, .bool P3, .int .u64 P4, .string P5] 52 (n := X) (by simp [hXX]))); (have hV := ((In.self w).alloc (.cells #[.int .u64 P1, .string P2, .bool P3, .int .u64 P4, .string P5] 52))); (rw [← hXX] at hV ⊢); (have HX := Lib.hid hXX); (clear hXX); (generalize w.alloc (.cells #[.int .u64 P1, .string P2, .bool P3, .int .u64 P4, .string P5] 52) = V at *))
  rw [HX.out] at hV
  have x0 := bV0.c0; have x1 := bV0.c1; have x2 := bV0.c2; have x3 := bV0.c3; have x4 := bV0.c4; have xl := bV0.lt
  go_wp2_with fail
  ((with_reducible refine (h1 _ hV).mono ?_))
  rintro e w2 ⟨⟨d, rfl, hd⟩, hb⟩
  obtain ⟨da, dk, rfl⟩ := hd.shape
  rw [vl_length] at hd ⊢
  have HD := Lib.hid hd
  have hin := hV.call hb
  clear hb hV bV0 h1 x0 x1 x2 x3 x4 xl hd
  go_wp2_with fail
  exact bodyPost_ret (v := .slice da n dk) (by simp [results, Tryz.results160, go_sem]) rfl ⟨⟨_, rfl, HD.out⟩, hin.bel⟩
/-- a system's value -/
def SysV (w : World) (s : Value) (n : Nat) (A : Nat → Nat → Rat) (b : Vc) : Prop := ∃ ra rc ba bc, s = .agg #[.int .i64 n, .int .i64 n, .slice ra n rc, .slice ba n bc] ∧ SpM w (.agg #[.int .i64 n, .int .i64 n, .slice ra n rc]) n n A ∧ VecAt w (.slice ba n bc) (vl n b)
theorem SysV.call {w w' : World} {s : Value} {n : Nat} {A : Nat → Nat → Rat} {b : Vc} (h : SysV w s n A b) (hb : Below w.heap.size w w') : SysV w' s n A b := by
  obtain ⟨ra, rc, ba, bc, h1, h2, h3⟩ := h
  exact ⟨ra, rc, ba, bc, h1, h2.call hb, h3.call hb⟩
set_option maxRecDepth 100000 in
set_option maxHeartbeats 1000000 in
theorem ctimes_vl {j l n : Nat} (w : World) (s y : Value) (A : Nat → Nat → Rat) (b v : Vc) (hs : SysV w s n A b) (hy : VecAt w y (vl n v)) (hn : n ≤ 64) (hF : ∀ i k, i < n → k < n → SzK j (A i k)) (hv : ∀ i, i < n → SzK l (v i)) (hj : 0 < j) (hl : 0 < l) (hcap : n * n * (j + l + 1) + 1 < 17592186044416) :
    Calls Tryz.prog 158 #[s, y] w fun e w' => (∃ d, e = .returned d ∧ VecAt w' d (vl n (mv n A v))) ∧ Below w.heap.size w w' := by
  obtain ⟨ra, rc, ba, bc, rfl, h2, h3⟩ := hs
  have h1 := fun W (h : In w.heap.size w W) => sapp_vl (j := j) (l := l) W _ y A v (h2.call h.bel) (hy.call h.bel) hn hF hv hj hl hcap
  obtain ⟨a', k', rfl⟩ := hy.shape
  rw [vl_length] at h1 ⊢
  clear h2 h3 hy hF hv hj hl hcap
  go_enter Tryz.func158, Tryz.ntmps158
  go_upto_region 1 with fail
  ((obtain ⟨X, hXX⟩ : ∃ z, z = w.heap.size := ⟨_, rfl⟩); (have bV0 := (Bx.new_at w #[.int .i64 n, .int .i64 n, .slice ra n rc, .slice ba n bc] 150 (n := X) (by simp [hXX]))); (have hV := ((In.self w).alloc (.cells #[.int .i64 n, .int .i64 n, .slice ra n rc, .slice ba n bc] 150))); (rw [← hXX] at hV ⊢); (have HX := Lib.hid hXX); (clear hXX); (generalize w.alloc (.cells #[.int .i64 n, .int .i64 n, .slice ra n rc, .slice ba n bc] 150) = V at *))
  rw [HX.out] at hV
  have x0 := bV0.c0; have x1 := bV0.c1; have x2 := bV0.c2; have x3 := bV0.c3; have xl := bV0.lt
  go_wp2_with fail
  ((with_reducible refine (h1 _ hV).mono ?_))
  rintro e w2 ⟨⟨d, rfl, hd⟩, hb⟩
  obtain ⟨da, dk, rfl⟩ := hd.shape
  rw [vl_length] at hd ⊢
  have HD := Lib.hid hd
  have hin := hV.call hb
  clear hb hV bV0 h1 x0 x1 x2 x3 xl hd
  go_wp2_with fail
  exact bodyPost_ret (v := .slice da n dk) (by simp [results, Tryz.results158, go_sem]) rfl ⟨⟨_, rfl, HD.out⟩, hin.bel⟩
theorem vmax_zero (n : Nat) (v : Vc) : maxA (vl n v) = 0 ↔ dt n v v = 0 := by
  rw [maxA_zero]
  constructor
  · intro h
    unfold dt
    rw [sm_congr n (G := fun _ => 0) (fun i hi => by rw [h (v i) (List.mem_map.2 ⟨i, List.mem_range.2 hi, rfl⟩), Rat.mul_zero]), sm_zero]
  · intro h x hx
    obtain ⟨i, hi, rfl⟩ := List.mem_map.1 hx
    exact dt_self h i (List.mem_range.1 hi)
set_option maxRecDepth 100000 in
set_option maxHeartbeats 1000000 in
theorem czero_vl {j n : Nat} (w : World) (y : Value) (v : Vc) (hy : VecAt w y (vl n v)) (hn : n ≤ 64) (hj : 0 < j) (hv : ∀ i, i < n → SzK j (v i)) (hcap : j + j < 17592186044416) :
    Calls Tryz.prog 157 #[y] w fun e w' => e = .returned (.bool (decide (dt n v v = 0))) ∧ Below w.heap.size w w' := by
  have h1 := vmax_any (j := j) w y (vl n v) hy hj (fun q hq => by
    obtain ⟨i, hi, rfl⟩ := List.mem_map.1 hq
    exact hv i (List.mem_range.1 hi)) hcap (by rw [vl_length]; omega)
  have h2 := fun W => fracEq_run (maxA (vl n v)) 0 W
  have e : decide (maxA (vl n v) = 0) = decide (dt n v v = 0) := decide_eq_decide.2 (vmax_zero n v)
  rw [e] at h2
  obtain ⟨z, hz⟩ : ∃ z, z = decide (dt n v v = 0) := ⟨_, rfl⟩
  rw [← hz] at h2 ⊢
  obtain ⟨m, hm⟩ : ∃ m, m = maxA (vl n v) := ⟨_, rfl⟩
  rw [← hm] at h1 h2
  obtain ⟨M1, M2, M3, M4, M5, hM, hM'⟩ : ∃ A1 A2 A3 A4 A5, fracV m = .agg #[.int .u64 A1, .string A2, .bool A3, .int .u64 A4, .string A5] ∧ fcs m = [.int .u64 A1, .string A2, .bool A3, .int .u64 A4, .string A5] := ⟨_, _, _, _, _, rfl, rfl⟩
  rw [hM] at h1 h2
  have h2' : ∀ W, (binOp .eql 52 (.agg #[.int .u64 M1, .string M2, .bool M3, .int .u64 M4, .string M5]) (.agg #[.int .u64 0, .string ⟨#[]⟩, .bool false, .int .u64 0, .string ⟨#[]⟩])).run Tryz.prog W = .ok (.bool z) W := h2
  obtain ⟨a', k', rfl⟩ := hy.shape
  rw [vl_length] at h1 ⊢
  clear hy hv hj hcap e hz hm hM hM' h2
  go_enter Tryz.func157, Tryz.ntmps157
  go_wp2_with fail
  ((with_reducible refine h1.mono ?_))
  rintro e w2 ⟨rfl, hb⟩
  go_wp2_with fail
  go_ret
  exact ⟨rfl, hb⟩
end Gus
end
section
/- cgs: residuals and energies. -/
namespace Gus
open Go Go.RowKit Go.Proofs
set_option maxRecDepth 100000 in
set_option maxHeartbeats 1000000 in
theorem cleft_vl {j l m k n : Nat} (w : World) (s y : Value) (A : Nat → Nat → Rat) (b v : Vc) (hs : SysV w s n A b) (hy : VecAt w y (vl n v)) (hn : n ≤ 64) (hF : ∀ i k, i < n → k < n → SzK j (A i k)) (hv : ∀ i, i < n → SzK l (v i)) (hb : ∀ i, i < n → SzK m (b i)) (hm : ∀ i, i < n → SzK k (mv n A v i)) (hj : 0 < j) (hl : 0 < l)
    (hcap : n * n * (j + l + 1) + 1 < 17592186044416) (hcap2 : m + k + 1 < 17592186044416) :
    Calls Tryz.prog 76 #[s, y] w fun e w' => (∃ d, e = .returned d ∧ VecAt w' d (vl n fun i => b i - mv n A v i)) ∧ Below w.heap.size w w' := by
  have c1 := fun W (h : In w.heap.size w W) => ctimes_vl (j := j) (l := l) W s y A b v (hs.call h.bel) (hy.call h.bel) hn hF hv hj hl hcap
  obtain ⟨ra, rc, ba, bc, rfl, h2, h3⟩ := hs
  have c2 := fun W d (h : In w.heap.size w W) (hd : VecAt W d (vl n (mv n A v))) => (vsub_vl (j := m) (l := k) W _ d b (mv n A v) (h3.call h.bel) hd hn hb hm hcap2).mono fun e w' h => tupv_mk h
  obtain ⟨a', k', rfl⟩ := hy.shape
  rw [vl_length] at c1 ⊢
  obtain ⟨L1, hL1⟩ : ∃ L, L = vl n (mv n A v) := ⟨_, rfl⟩
  obtain ⟨L2, hL2⟩ : ∃ L, L = vl n fun i => b i - mv n A v i := ⟨_, rfl⟩
  have hLn : L2.length = n := by rw [hL2, vl_length]
  rw [← hL1] at c1 c2
  rw [← hL2] at c2 ⊢
  have HLN := Lib.hid hLn
  clear h2 h3 hy hF hv hj hl hcap hcap2 hb hm hL1 hL2 hLn
  go_enter Tryz.func76, Tryz.ntmps76
  go_upto_region 1 with fail
  ((obtain ⟨X, hXX⟩ : ∃ z, z = w.heap.size := ⟨_, rfl⟩); (have bV0 := (Bx.new_at w #[.int .i64 n, .int .i64 n, .slice ra n rc, .slice ba n bc] 150 (n := X) (by simp [hXX]))); (have hV := ((In.self w).alloc (.cells #[.int .i64 n, .int .i64 n, .slice ra n rc, .slice ba n bc] 150))); (rw [← hXX] at hV ⊢); (have HX := Lib.hid hXX); (clear hXX); (generalize w.alloc (.cells #[.int .i64 n, .int .i64 n, .slice ra n rc, .slice ba n bc] 150) = V at *))
  rw [HX.out] at hV
  have x0 := bV0.c0; have x1 := bV0.c1; have x2 := bV0.c2; have x3 := bV0.c3; have xl := bV0.lt
  have h := In.self V
  have hc := h.cell
  refine wp_region_flow 9 (by kernel_rfl) (by kernel_rfl) (fun _ _ d _ _ h => by cases d <;> exact h) ?_; simp only [List.take_succ_cons, List.take_zero, List.drop_succ_cons, List.drop_zero]; simp only [putAll, Act.put, List.setIfInBounds_toArray, List.set]; (try simp only [Nat.reduceAdd]); (try simp only [Nat.zero_add]); (repeat (first | ((with_reducible refine flow_float (v := ?_) ?_ ?_ ?_); rotate_left 1; (focus (with_reducible rfl)); (focus (intro u w1 hw hd w2; (try simp only [depH] at hd); (try simp only [ext] at hd); (try simp only [extU] at hd); (try simp only [Nat.reduceAdd] at hd); (try simp only [Nat.reduceEqDiff] at hd); (try simp only [reduceIte] at hd); (try simp only [and_true] at hd); (try simp only [true_and] at hd); go_simp; exact rfl))) | ((first | ((with_reducible refine flow_pure0 (v := ?_) ?_ ?_ ?_ ?_); rotate_left 1; (focus (with_reducible rfl)); (focus rfl)) | ((with_reducible refine flow_pureg (v := ?_) (j := ?_) (b := ?_) ?_ ?_ ?_ ?_); rotate_left 3; (focus (with_reducible rfl)); (focus (intro u w1 hw hd; (try simp only [depH] at hd); (try simp only [ext] at hd); (try simp only [extU] at hd); (try simp only [Nat.reduceAdd] at hd); (try simp only [Nat.reduceEqDiff] at hd); (try simp only [reduceIte] at hd); (try simp only [and_true] at hd); (try simp only [true_and] at hd); simp [yielded, hd]; done)))); (focus (intro u w1 hw hd; (try simp only [depH] at hd); (try simp only [ext] at hd); (try simp only [extU] at hd); (try simp only [Nat.reduceAdd] at hd); (try simp only [Nat.reduceEqDiff] at hd); (try simp only [reduceIte] at hd); (try simp only [and_true] at hd); (try simp only [true_and] at hd); have hc' := hw.cell; go_simp; exact rfl))) | ((with_reducible refine flow_skipg (j := ?_) (b := ?_) ?_ ?_ ?_); rotate_left 2; (focus (with_reducible rfl)); (focus (intro u w1 hw hd; (try simp only [depH] at hd); (try simp only [ext] at hd); (try simp only [extU] at hd); (try simp only [Nat.reduceAdd] at hd); (try simp only [Nat.reduceEqDiff] at hd); (try simp only [reduceIte] at hd); (try simp only [and_true] at hd); (try simp only [true_and] at hd); simp [yielded, hd]; done))) | ((with_reducible refine flow_alloc (t := ?_) (zs := ?_) ?_ ?_ ?_ ?_); rotate_left 2; (focus (with_reducible rfl)); (focus rfl); (focus (intro u w1; go_simp; exact rfl)))))
  (with_reducible refine flow_rel (Vi := VcQ L1) false ?_ ?_ ?_ ?_ ?_ ?_); (focus rfl); (focus rfl); (focus exact stable_vcq _); (focus exact placed_false _); (focus (intro u w1 hw hd; (try simp only [depH] at hd); (try simp only [ext] at hd); (try simp only [extU] at hd); (try simp only [Nat.reduceAdd] at hd); (try simp only [Nat.reduceEqDiff] at hd); (try simp only [reduceIte] at hd); (try simp only [and_true] at hd); (try simp only [true_and] at hd); have hc' := hw.cell; go_simp; (try simp only [okUpon]); go_at_call 158; ((with_reducible refine (c1 _ (hV.call hw.ins.bel)).mono ?_)); rintro e w'' ⟨⟨v, rfl, hv⟩, hb⟩; exact ⟨v, rfl, ⟨hv, fun h => by cases h⟩, hb⟩))
  (with_reducible refine flow_rel (Vi := TupV L2) false ?_ ?_ ?_ ?_ ?_ ?_); (focus rfl); (focus rfl); (focus exact stable_tupv _); (focus exact placed_false _); (focus (intro u w1 hw hd; (try simp only [depH] at hd); (try simp only [ext] at hd); (try simp only [extU] at hd); (try simp only [Nat.reduceAdd] at hd); (try simp only [Nat.reduceEqDiff] at hd); (try simp only [reduceIte] at hd); (try simp only [and_true] at hd); (try simp only [true_and] at hd); obtain ⟨hd1, hd2, _⟩ := hd; have hc' := hw.cell; go_simp; (try simp only [okUpon]); go_at_call 18; ((with_reducible refine (c2 _ _ (hV.call hw.ins.bel) hd2.v).mono ?_)); rintro e w'' ⟨⟨v, rfl, hv⟩, hb⟩; exact ⟨v, rfl, ⟨hv, fun h => by cases h⟩, hb⟩))
  (((with_reducible refine flow_link (k := 5) (R := MvS) ?_ ?_ ?_ ?_); (focus rfl); (focus rfl); (focus (intro u w1 hw hd; (try simp only [depH] at hd); (try simp only [ext] at hd); (try simp only [extU] at hd); (try simp only [Nat.reduceAdd] at hd); (try simp only [Nat.reduceEqDiff] at hd); (try simp only [reduceIte] at hd); (try simp only [and_true] at hd); (try simp only [true_and] at hd); obtain ⟨⟨a, l, k, e, h3⟩, _⟩ := hd; exact ⟨u 5, fun w2 => (by go_simp), rfl, a, l, k, e, h3⟩))); ((with_reducible refine flow_link (k := 6) (R := FstS) ?_ ?_ ?_ ?_); (focus rfl); (focus rfl); (focus (intro u w1 hw hd; (try simp only [depH] at hd); (try simp only [ext] at hd); (try simp only [extU] at hd); (try simp only [Nat.reduceAdd] at hd); (try simp only [Nat.reduceEqDiff] at hd); (try simp only [reduceIte] at hd); (try simp only [and_true] at hd); (try simp only [true_and] at hd); obtain ⟨h4, a, l, k, e, h5⟩ := hd; exact ⟨.slice a l k, fun w2 => (by clear h4; go_simp), a, l, k, e, h5, rfl⟩))); ((with_reducible refine flow_link (k := 6) (R := SndS) ?_ ?_ ?_ ?_); (focus rfl); (focus rfl); (focus (intro u w1 hw hd; (try simp only [depH] at hd); (try simp only [ext] at hd); (try simp only [extU] at hd); (try simp only [Nat.reduceAdd] at hd); (try simp only [Nat.reduceEqDiff] at hd); (try simp only [reduceIte] at hd); (try simp only [and_true] at hd); (try simp only [true_and] at hd); obtain ⟨h4, a, l, k, e, h5⟩ := hd; exact ⟨.int .i64 e, fun w2 => (by clear h4; go_simp), a, l, k, e, h5, rfl⟩))))
  (try clear hc hf h); intro u w' h ha hdi; replace h := h.ins; (try simp only [World.size_alloc] at h); (try dsimp only at ha); (repeat rw [World.size_alloc] at ha); (try simp only [allH] at ha); (try simp only [ext] at ha); (try simp only [extU] at ha); (try simp only [Nat.reduceAdd] at ha); (try simp only [Nat.reduceEqDiff] at ha); (try simp only [reduceIte] at ha); (try simp only [and_true] at ha); (try simp only [true_and] at ha); have hc := h.cell; have hf := h.frozen
  obtain ⟨⟨⟨⟨⟨ha, h4⟩, h5⟩, h6⟩, h7⟩, h8⟩ := ha
  obtain ⟨da, dk, e5, e6, e7, e8, hd⟩ := tupv_out h5 h6 h7 h8
  rw [HLN.out] at e5 e6 e7 hd
  (try dsimp only)
  simp only [e5, e6, e7, e8]
  have hin := hV.call h.bel
  have HD := Lib.hid hd
  clear ha h4 h5 h6 h7 h8 e5 e6 e7 e8 hdi hc hf h hV bV0 x0 x1 x2 x3 xl hd
  go_wp2_with fail
  exact bodyPost_ret (v := .slice da n dk) (by simp [results, Tryz.results76, go_sem]) rfl ⟨⟨_, rfl, HD.out⟩, hin.bel⟩
set_option maxRecDepth 100000 in
set_option maxHeartbeats 1000000 in
theorem cenergy_vl {m n : Nat} (w : World) (s y : Value) (A : Nat → Nat → Rat) (b v : Vc) (hs : SysV w s n A b) (hy : VecAt w y (vl n v)) (hn : n ≤ 7) (hm : 0 < m) (hmb : m ≤ 150000000000) (hF : ∀ i k, i < n → k < n → SzK m (A i k)) (hv : ∀ i, i < n → SzK m (v i)) (hb : ∀ i, i < n → SzK m (b i)) (hmv : ∀ i, i < n → SzK (3 * m) (mv n A v i))
    (hd1 : SzK (6 * m) (dt n v (mv n A v))) (hd2 : SzK (3 * m) (dt n b v)) :
    Calls Tryz.prog 80 #[s, y] w fun e w' => e = .returned (fracV (en n A b v)) ∧ Below w.heap.size w w' := by
  have hnn : n * n ≤ 49 := Nat.mul_le_mul hn hn
  have hcap : n * n * (m + m + 1) + 1 ≤ 49 * (m + m + 1) + 1 := by have := Nat.mul_le_mul_right (m + m + 1) hnn; omega
  have hcap1 : n * (m + 3 * m + 1) ≤ 7 * (m + 3 * m + 1) := Nat.mul_le_mul_right _ hn
  have hcap2 : n * (m + m + 1) ≤ 7 * (m + m + 1) := Nat.mul_le_mul_right _ hn
  have c0 := fracOf_any 1 2 (by decide) (by decide) (by decide) (by decide) (by decide)
  obtain ⟨hlf, hhf⟩ : ∃ q : Rat, q = ((1 : Int) : Rat) / ((2 : Int) : Rat) := ⟨_, rfl⟩
  rw [← hhf] at c0
  have hhe : hlf = 1 / 2 := by rw [hhf]; simp
  have hhalf : SzK 2 hlf := by rw [hhe]; constructor <;> decide +kernel
  have c1 := fun W (h : In w.heap.size w W) => ctimes_vl (j := m) (l := m) W s y A b v (hs.call h.bel) (hy.call h.bel) (by omega) hF hv hm hm (by omega)
  have c2 := fun W d (h : In w.heap.size w W) (hd : VecAt W d (vl n (mv n A v))) => cdot_vl (j := m) (l := 3 * m) W y d v (mv n A v) (hy.call h.bel) hd (by omega) hv hmv hm (by omega) (by omega)
  have c3 := fmul_any hlf (dt n v (mv n A v)) hhalf hd1 (by omega)
  obtain ⟨ra, rc, ba, bc, rfl, h2, h3⟩ := hs
  have c4 := fun W (h : In w.heap.size w W) => cdot_vl (j := m) (l := m) W _ y b v (h3.call h.bel) (hy.call h.bel) (by omega) hb hv hm hm (by omega)
  have c5 := fsub_any (hlf * dt n v (mv n A v)) (dt n b v) (hhalf.mul hd1) hd2 (by omega)
  have hen : en n A b v = hlf * dt n v (mv n A v) - dt n b v := by rw [hhe]; rfl
  rw [hen]
  obtain ⟨a', k', rfl⟩ := hy.shape
  rw [vl_length] at c1 c2 c4 ⊢
  obtain ⟨L1, hL1⟩ : ∃ L, L = vl n (mv n A v) := ⟨_, rfl⟩
  rw [← hL1] at c1 c2
  obtain ⟨q1, hq1⟩ : ∃ q, q = dt n v (mv n A v) := ⟨_, rfl⟩
  rw [← hq1] at c2 c3 c5 ⊢
  obtain ⟨q2, hq2⟩ : ∃ q, q = dt n b v := ⟨_, rfl⟩
  rw [← hq2] at c4 c5 ⊢
  obtain ⟨q3, hq3⟩ : ∃ q, q = hlf * q1 := ⟨_, rfl⟩
  rw [← hq3] at c3 c5 ⊢
  obtain ⟨r, hr⟩ : ∃ r, r = q3 - q2 := ⟨_, rfl⟩
  rw [← hr] at c5 ⊢
  obtain ⟨H1, H2, H3, H4, H5, hH, hH'⟩ : ∃ A1 A2 A3 A4 A5, fracV hlf = .agg #[.int .u64 A1, .string A2, .bool A3, .int .u64 A4, .string A5] ∧ fcs hlf = [.int .u64 A1, .string A2, .bool A3, .int .u64 A4, .string A5] := ⟨_, _, _, _, _, rfl, rfl⟩
  obtain ⟨R1, R2, R3, R4, R5, hR, hR'⟩ : ∃ A1 A2 A3 A4 A5, fracV r = .agg #[.int .u64 A1, .string A2, .bool A3, .int .u64 A4, .string A5] ∧ fcs r = [.int .u64 A1, .string A2, .bool A3, .int .u64 A4, .string A5] := ⟨_, _, _, _, _, rfl, rfl⟩
  rw [hH] at c0 c3
  rw [hR] at c5 ⊢
  clear h2 h3 hy hF hv hb hmv hd1 hd2 hnn hcap hcap1 hcap2 hhf hhe hhalf hen hL1 hq1 hq2 hq3 hr hH hH' hR hR' hm hmb
  go_enter Tryz.func80, Tryz.ntmps80
  go_upto_region 1 with fail
  ((obtain ⟨X, hXX⟩ : ∃ z, z = w.heap.size := ⟨_, rfl⟩); (have bV0 := ((Bx.new_at w #[.int .i64 n, .int .i64 n, .slice ra n rc, .slice ba n bc] 150 (n := X) (by simp [hXX])).alloc (.cells #[.int .u64 0, .string ⟨#[]⟩, .bool false, .int .u64 0, .string ⟨#[]⟩] 52))); (have bV1 := (Bx.new_at (w.alloc (.cells #[.int .i64 n, .int .i64 n, .slice ra n rc, .slice ba n bc] 150)) #[.int .u64 0, .string ⟨#[]⟩, .bool false, .int .u64 0, .string ⟨#[]⟩] 52 (n := X + 1) (by simp [hXX]))); (have hV := (((In.self w).alloc (.cells #[.int .i64 n, .int .i64 n, .slice ra n rc, .slice ba n bc] 150)).alloc (.cells #[.int .u64 0, .string ⟨#[]⟩, .bool false, .int .u64 0, .string ⟨#[]⟩] 52))); (rw [← hXX] at hV ⊢); (have HX := Lib.hid hXX); (clear hXX); (generalize (w.alloc (.cells #[.int .i64 n, .int .i64 n, .slice ra n rc, .slice ba n bc] 150)).alloc (.cells #[.int .u64 0, .string ⟨#[]⟩, .bool false, .int .u64 0, .string ⟨#[]⟩] 52) = V at *))
  rw [HX.out] at hV
  go_wp2_with fail
  ((with_reducible refine (c0 _).mono ?_))
  rintro e w2 ⟨rfl, hb⟩
  have hin := hV.call hb
  have bs := bV0.call hb
  have bq := bV1.call hb
  clear hb hV bV0 bV1 c0
  go_upto_region 2 with fail
  ((obtain ⟨S, hS⟩ : ∃ z, z = w2.heap.size := ⟨_, rfl⟩); (have bS := Bx.new_at w2 #[.int .u64 H1, .string H2, .bool H3, .int .u64 H4, .string H5] 52 hS); (replace hin := hin.alloc (.cells #[.int .u64 H1, .string H2, .bool H3, .int .u64 H4, .string H5] 52)); (replace bs := bs.alloc (.cells #[.int .u64 H1, .string H2, .bool H3, .int .u64 H4, .string H5] 52)); (replace bq := bq.alloc (.cells #[.int .u64 H1, .string H2, .bool H3, .int .u64 H4, .string H5] 52)); (rw [← hS]); (clear hS); (generalize w2.alloc (.cells #[.int .u64 H1, .string H2, .bool H3, .int .u64 H4, .string H5] 52) = V2 at *))
  have x0 := bs.c0; have x1 := bs.c1; have x2 := bs.c2; have x3 := bs.c3; have xl := bs.lt
  have s0 := bS.c0; have s1 := bS.c1; have s2 := bS.c2; have s3 := bS.c3; have s4 := bS.c4; have sl := bS.lt
  have h := In.self V2
  have hc := h.cell
  refine wp_region_flow 12 (by kernel_rfl) (by kernel_rfl) (fun _ _ d _ _ h => by cases d <;> exact h) ?_; simp only [List.take_succ_cons, List.take_zero, List.drop_succ_cons, List.drop_zero]; simp only [putAll, Act.put, List.setIfInBounds_toArray, List.set]; (try simp only [Nat.reduceAdd]); (try simp only [Nat.zero_add]); (repeat (first | ((with_reducible refine flow_float (v := ?_) ?_ ?_ ?_); rotate_left 1; (focus (with_reducible rfl)); (focus (intro u w1 hw hd w2; (try simp only [depH] at hd); (try simp only [ext] at hd); (try simp only [extU] at hd); (try simp only [Nat.reduceAdd] at hd); (try simp only [Nat.reduceEqDiff] at hd); (try simp only [reduceIte] at hd); (try simp only [and_true] at hd); (try simp only [true_and] at hd); go_simp; exact rfl))) | ((first | ((with_reducible refine flow_pure0 (v := ?_) ?_ ?_ ?_ ?_); rotate_left 1; (focus (with_reducible rfl)); (focus rfl)) | ((with_reducible refine flow_pureg (v := ?_) (j := ?_) (b := ?_) ?_ ?_ ?_ ?_); rotate_left 3; (focus (with_reducible rfl)); (focus (intro u w1 hw hd; (try simp only [depH] at hd); (try simp only [ext] at hd); (try simp only [extU] at hd); (try simp only [Nat.reduceAdd] at hd); (try simp only [Nat.reduceEqDiff] at hd); (try simp only [reduceIte] at hd); (try simp only [and_true] at hd); (try simp only [true_and] at hd); simp [yielded, hd]; done)))); (focus (intro u w1 hw hd; (try simp only [depH] at hd); (try simp only [ext] at hd); (try simp only [extU] at hd); (try simp only [Nat.reduceAdd] at hd); (try simp only [Nat.reduceEqDiff] at hd); (try simp only [reduceIte] at hd); (try simp only [and_true] at hd); (try simp only [true_and] at hd); have hc' := hw.cell; go_simp; exact rfl))) | ((with_reducible refine flow_skipg (j := ?_) (b := ?_) ?_ ?_ ?_); rotate_left 2; (focus (with_reducible rfl)); (focus (intro u w1 hw hd; (try simp only [depH] at hd); (try simp only [ext] at hd); (try simp only [extU] at hd); (try simp only [Nat.reduceAdd] at hd); (try simp only [Nat.reduceEqDiff] at hd); (try simp only [reduceIte] at hd); (try simp only [and_true] at hd); (try simp only [true_and] at hd); simp [yielded, hd]; done))) | ((with_reducible refine flow_alloc (t := ?_) (zs := ?_) ?_ ?_ ?_ ?_); rotate_left 2; (focus (with_reducible rfl)); (focus rfl); (focus (intro u w1; go_simp; exact rfl)))))
  (with_reducible refine flow_rel (Vi := VcQ L1) false ?_ ?_ ?_ ?_ ?_ ?_); (focus rfl); (focus rfl); (focus exact stable_vcq _); (focus exact placed_false _); (focus (intro u w1 hw hd; (try simp only [depH] at hd); (try simp only [ext] at hd); (try simp only [extU] at hd); (try simp only [Nat.reduceAdd] at hd); (try simp only [Nat.reduceEqDiff] at hd); (try simp only [reduceIte] at hd); (try simp only [and_true] at hd); (try simp only [true_and] at hd); have hc' := hw.cell; go_simp; (try simp only [okUpon]); go_at_call 158; ((with_reducible refine (c1 _ (hin.call hw.ins.bel)).mono ?_)); rintro e w'' ⟨⟨v, rfl, hv⟩, hb⟩; exact ⟨v, rfl, ⟨hv, fun h => by cases h⟩, hb⟩))
  (with_reducible refine flow_pure0 (v := fracV q1) ?_ ?_ ?_ ?_); (focus (with_reducible rfl)); (focus rfl); (focus (intro u w1 hw hd; (try simp only [depH] at hd); (try simp only [ext] at hd); (try simp only [extU] at hd); (try simp only [Nat.reduceAdd] at hd); (try simp only [Nat.reduceEqDiff] at hd); (try simp only [reduceIte] at hd); (try simp only [and_true] at hd); (try simp only [true_and] at hd); obtain ⟨hd1, hd2, _⟩ := hd; have hc' := hw.cell; go_simp; go_at_call 159; ((with_reducible refine (c2 _ _ (hin.call hw.ins.bel) hd2.v).mono ?_)); rintro e w'' ⟨rfl, hb⟩; exact ⟨rfl, hb⟩))
  (repeat (first | ((with_reducible refine flow_float (v := ?_) ?_ ?_ ?_); rotate_left 1; (focus (with_reducible rfl)); (focus (intro u w1 hw hd w2; (try simp only [depH] at hd); (try simp only [ext] at hd); (try simp only [extU] at hd); (try simp only [Nat.reduceAdd] at hd); (try simp only [Nat.reduceEqDiff] at hd); (try simp only [reduceIte] at hd); (try simp only [and_true] at hd); (try simp only [true_and] at hd); go_simp; exact rfl))) | ((first | ((with_reducible refine flow_pure0 (v := ?_) ?_ ?_ ?_ ?_); rotate_left 1; (focus (with_reducible rfl)); (focus rfl)) | ((with_reducible refine flow_pureg (v := ?_) (j := ?_) (b := ?_) ?_ ?_ ?_ ?_); rotate_left 3; (focus (with_reducible rfl)); (focus (intro u w1 hw hd; (try simp only [depH] at hd); (try simp only [ext] at hd); (try simp only [extU] at hd); (try simp only [Nat.reduceAdd] at hd); (try simp only [Nat.reduceEqDiff] at hd); (try simp only [reduceIte] at hd); (try simp only [and_true] at hd); (try simp only [true_and] at hd); simp [yielded, hd]; done)))); (focus (intro u w1 hw hd; (try simp only [depH] at hd); (try simp only [ext] at hd); (try simp only [extU] at hd); (try simp only [Nat.reduceAdd] at hd); (try simp only [Nat.reduceEqDiff] at hd); (try simp only [reduceIte] at hd); (try simp only [and_true] at hd); (try simp only [true_and] at hd); have hc' := hw.cell; first | (go_simp; exact rfl) | (go_simp; go_at_call 25; ((with_reducible refine (c3 _).mono ?_)); rintro e w'' ⟨rfl, hb⟩; refine ⟨?_, hb⟩; exact rfl) | (go_simp; go_at_call 159; ((with_reducible refine (c4 _ (hin.call hw.ins.bel)).mono ?_)); rintro e w'' ⟨rfl, hb⟩; refine ⟨?_, hb⟩; exact rfl) | (go_simp; go_at_call 24; ((with_reducible refine (c5 _).mono ?_)); rintro e w'' ⟨rfl, hb⟩; refine ⟨?_, hb⟩; exact rfl)))) | ((with_reducible refine flow_skipg (j := ?_) (b := ?_) ?_ ?_ ?_); rotate_left 2; (focus (with_reducible rfl)); (focus (intro u w1 hw hd; (try simp only [depH] at hd); (try simp only [ext] at hd); (try simp only [extU] at hd); (try simp only [Nat.reduceAdd] at hd); (try simp only [Nat.reduceEqDiff] at hd); (try simp only [reduceIte] at hd); (try simp only [and_true] at hd); (try simp only [true_and] at hd); simp [yielded, hd]; done))) | ((with_reducible refine flow_alloc (t := ?_) (zs := ?_) ?_ ?_ ?_ ?_); rotate_left 2; (focus (with_reducible rfl)); (focus rfl); (focus (intro u w1; go_simp; exact rfl)))))
  (try clear hc hf h); intro u w' h ha hdi; replace h := h.ins; (try simp only [World.size_alloc] at h); (try dsimp only at ha); (repeat rw [World.size_alloc] at ha); (try simp only [allH] at ha); (try simp only [ext] at ha); (try simp only [extU] at ha); (try simp only [Nat.reduceAdd] at ha); (try simp only [Nat.reduceEqDiff] at ha); (try simp only [reduceIte] at ha); (try simp only [and_true] at ha); (try simp only [true_and] at ha); have hc := h.cell; have hf := h.frozen
  (try obtain ha := ha); (try dsimp only);  simp only [ha]; clear ha hdi 
  replace hin := hin.call h.bel
  replace bq := bq.call h.bel
  clear hc hf h bs bS x0 x1 x2 x3 xl s0 s1 s2 s3 s4 sl
  ((have q0 := bq.c0); (have q1 := bq.c1); (have q2 := bq.c2); (have q3 := bq.c3); (have q4 := bq.c4); (have f0 := bq.frozen 0); (have f1 := bq.frozen 1); (have f2 := bq.frozen 2); (have f3 := bq.frozen 3); (have f4 := bq.frozen 4); (have ql := bq.lt); (have K1 := Lib.hid ((((((bq.set 0 (.int .u64 R1)).set 1 (.string R2)).set 2 (.bool R3)).set 3 (.int .u64 R4)).set 4 (.string R5)))); (have K2 := Lib.hid ((((((hin.setCell (p := ⟨(X + 1), 0, none⟩) (by first | (simp; done) | (have := HX.out; simp; omega)) (.int .u64 R1)).setCell (p := ⟨(X + 1), 1, none⟩) (by first | (simp; done) | (have := HX.out; simp; omega)) (.string R2)).setCell (p := ⟨(X + 1), 2, none⟩) (by first | (simp; done) | (have := HX.out; simp; omega)) (.bool R3)).setCell (p := ⟨(X + 1), 3, none⟩) (by first | (simp; done) | (have := HX.out; simp; omega)) (.int .u64 R4)).setCell (p := ⟨(X + 1), 4, none⟩) (by first | (simp; done) | (have := HX.out; simp; omega)) (.string R5)))); (clear bq hin); (go_wp2_with fail); (have k1 := K1.out); (have k2 := K2.out); (clear q0 q1 q2 q3 q4 f0 f1 f2 f3 f4 ql K1 K2); (generalize ((((w'.setCell ⟨(X + 1), 0, none⟩ (.int .u64 R1)).setCell ⟨(X + 1), 1, none⟩ (.string R2)).setCell ⟨(X + 1), 2, none⟩ (.bool R3)).setCell ⟨(X + 1), 3, none⟩ (.int .u64 R4)).setCell ⟨(X + 1), 4, none⟩ (.string R5) = W5 at *); (have e0 : W5.cell? ⟨(X + 1), 0, none⟩ = some (.int .u64 R1) := k1.cell 0); (have e1 : W5.cell? ⟨(X + 1), 1, none⟩ = some (.string R2) := k1.cell 1); (have e2 : W5.cell? ⟨(X + 1), 2, none⟩ = some (.bool R3) := k1.cell 2); (have e3 : W5.cell? ⟨(X + 1), 3, none⟩ = some (.int .u64 R4) := k1.cell 3); (have e4 : W5.cell? ⟨(X + 1), 4, none⟩ = some (.string R5) := k1.cell 4); (have hz := k2.bel); (refine bodyPost_ret (v := .agg #[.int .u64 R1, .string R2, .bool R3, .int .u64 R4, .string R5]) ?_ rfl ⟨rfl, hz⟩); (simp [results, Tryz.results80, go_sem, e0, e1, e2, e3, e4]))
end Gus
end
section
/- cgs: the calls of a step, with their sizes. -/
namespace Gus
open Go Go.RowKit Go.Proofs
/-- the sizes of a run -/
structure RunS (n m : Nat) (A : Nat → Nat → Rat) (b : Vc) (s0 : Cg) : Prop where
  hn : n ≤ 7
  hm : 20 ≤ m
  hM : m ≤ 150000000000
  hA : CM n m m A
  hb : CS n m m b
  hs : ∀ k, k ≤ n → CgS n m (s0.at n A k)
section
variable {n m k : Nat} {A : Nat → Nat → Rat} {b : Vc} {s0 : Cg}
theorem CM.szk (h : CM n m m A) (i j : Nat) (hi : i < n) (hj : j < n) : SzK m (A i j) := by
  obtain ⟨D, z, h0, h1, h2⟩ := h
  exact SS.szk ⟨D, z i j, h0, h1, (h2 i j hi hj).1, (h2 i j hi hj).2⟩ (Nat.le_refl _) (Nat.le_refl _)
theorem RunS.mv3 (h : RunS n m A b s0) {v : Vc} (hv : CS n m m v) : CS n (3 * m) (3 * m) (mv n A v) := (h.hA.mv hv).mono (by omega) (by have := h.hm; have := h.hn; omega)
theorem CS.szk {d j q : Nat} {v : Vc} (h : CS n d j v) (hd : d ≤ q) (hj : j ≤ q) (i : Nat) (hi : i < n) : SzK q (v i) := (h.at hi).szk hd hj
theorem RunS.sq (h : RunS n m A b s0) : n * n ≤ 49 := Nat.mul_le_mul h.hn h.hn
theorem RunS.mul (h : RunS n m A b s0) (q : Nat) : n * q ≤ 7 * q := Nat.mul_le_mul_right _ h.hn
theorem RunS.mul2 (h : RunS n m A b s0) (q : Nat) : n * n * q ≤ 49 * q := Nat.mul_le_mul_right _ h.sq
theorem run_left (h : RunS n m A b s0) (w : World) (s d : Value) (hs : SysV w s n A b) (hd : VecAt w d (vl n s0.x)) :
    Calls Tryz.prog 76 #[s, d] w fun e w' => (∃ d, e = .returned d ∧ VecAt w' d (vl n fun i => b i - mv n A s0.x i)) ∧ Below w.heap.size w w' := by
  have hx := (h.hs 0 (Nat.zero_le _)).x
  have := h.mul2 (m + m + 1)
  have := h.hm; have := h.hM; have := h.hn
  exact cleft_vl (j := m) (l := m) (m := m) (k := 3 * m) w s d A b s0.x hs hd (by omega) h.hA.szk (hx.szk (Nat.le_refl _) (Nat.le_refl _)) (h.hb.szk (Nat.le_refl _) (Nat.le_refl _)) ((h.mv3 hx).szk (Nat.le_refl _) (Nat.le_refl _)) (by omega) (by omega) (by omega) (by omega)
theorem run_energy (h : RunS n m A b s0) (hk : k ≤ n) (w : World) (s d : Value) (hs : SysV w s n A b) (hd : VecAt w d (vl n (s0.at n A k).x)) :
    Calls Tryz.prog 80 #[s, d] w fun e w' => e = .returned (fracV (en n A b (s0.at n A k).x)) ∧ Below w.heap.size w w' := by
  have hx := (h.hs k hk).x
  have := h.hm; have := h.hM; have := h.hn
  exact cenergy_vl (m := m) w s d A b _ hs hd h.hn (by omega) h.hM h.hA.szk (hx.szk (Nat.le_refl _) (Nat.le_refl _)) (h.hb.szk (Nat.le_refl _) (Nat.le_refl _)) ((h.mv3 hx).szk (Nat.le_refl _) (Nat.le_refl _))
    ((hx.dt (h.mv3 hx)).szk (by omega) (by omega)) ((h.hb.dt hx).szk (by omega) (by omega))
theorem run_zero (h : RunS n m A b s0) (hk : k ≤ n) (w : World) (d : Value) (hd : VecAt w d (vl n (s0.at n A k).r)) :
    Calls Tryz.prog 157 #[d] w fun e w' => e = .returned (.bool (decide (dt n (s0.at n A k).r (s0.at n A k).r = 0))) ∧ Below w.heap.size w w' := by
  have := h.hm; have := h.hM; have := h.hn
  exact czero_vl (j := m) w d _ hd (by omega) (by omega) ((h.hs k hk).r.szk (Nat.le_refl _) (Nat.le_refl _)) (by omega)
theorem run_times (h : RunS n m A b s0) (hk : k ≤ n) (w : World) (s d : Value) (hs : SysV w s n A b) (hd : VecAt w d (vl n (s0.at n A k).p)) :
    Calls Tryz.prog 158 #[s, d] w fun e w' => (∃ d, e = .returned d ∧ VecAt w' d (vl n (mv n A (s0.at n A k).p))) ∧ Below w.heap.size w w' := by
  have := h.mul2 (m + m + 1)
  have := h.hm; have := h.hM; have := h.hn
  exact ctimes_vl (j := m) (l := m) w s d A b _ hs hd (by omega) h.hA.szk ((h.hs k hk).p.szk (Nat.le_refl _) (Nat.le_refl _)) (by omega) (by omega) (by omega)
theorem run_rr (h : RunS n m A b s0) (hk : k ≤ n) (w : World) (d d' : Value) (hd : VecAt w d (vl n (s0.at n A k).r)) (hd' : VecAt w d' (vl n (s0.at n A k).r)) :
    Calls Tryz.prog 159 #[d, d'] w fun e w' => e = .returned (fracV (dt n (s0.at n A k).r (s0.at n A k).r)) ∧ Below w.heap.size w w' := by
  have := h.mul (m + m + 1)
  have := h.hm; have := h.hM; have := h.hn
  exact cdot_vl (j := m) (l := m) w d d' _ _ hd hd' (by omega) ((h.hs k hk).r.szk (Nat.le_refl _) (Nat.le_refl _)) ((h.hs k hk).r.szk (Nat.le_refl _) (Nat.le_refl _)) (by omega) (by omega) (by omega)
theorem run_pp (h : RunS n m A b s0) (hk : k ≤ n) (w : World) (d d' : Value) (hd : VecAt w d (vl n (s0.at n A k).p)) (hd' : VecAt w d' (vl n (mv n A (s0.at n A k).p))) :
    Calls Tryz.prog 159 #[d, d'] w fun e w' => e = .returned (fracV (dt n (s0.at n A k).p (mv n A (s0.at n A k).p))) ∧ Below w.heap.size w w' := by
  have := h.mul (m + 3 * m + 1)
  have := h.hm; have := h.hM; have := h.hn
  exact cdot_vl (j := m) (l := 3 * m) w d d' _ _ hd hd' (by omega) ((h.hs k hk).p.szk (Nat.le_refl _) (Nat.le_refl _)) ((h.mv3 (h.hs k hk).p).szk (Nat.le_refl _) (Nat.le_refl _)) (by omega) (by omega) (by omega)
theorem RunS.rr (h : RunS n m A b s0) (hk : k ≤ n) : SS (2 * m) (3 * m) (dt n (s0.at n A k).r (s0.at n A k).r) := ((h.hs k hk).r.dt (h.hs k hk).r).mono (by omega) (by have := h.hm; have := h.hn; omega)
theorem RunS.pp (h : RunS n m A b s0) (hk : k ≤ n) : SS (4 * m) (5 * m) (dt n (s0.at n A k).p (mv n A (s0.at n A k).p)) := ((h.hs k hk).p.dt (h.mv3 (h.hs k hk).p)).mono (by omega) (by have := h.hm; have := h.hn; omega)
theorem RunS.far (h : RunS n m A b s0) (hk : k ≤ n) : SS (7 * m) (7 * m) ((s0.at n A k).far n A) := ((h.rr hk).div (h.pp hk)).mono (by omega) (by omega)
theorem run_far (h : RunS n m A b s0) (hk : k ≤ n) (h0 : dt n (s0.at n A k).p (mv n A (s0.at n A k).p) ≠ 0) (w : World) :
    Calls Tryz.prog 27 #[fracV (dt n (s0.at n A k).r (s0.at n A k).r), fracV (dt n (s0.at n A k).p (mv n A (s0.at n A k).p))] w fun e w' => e = .returned (.tuple #[fracV ((s0.at n A k).far n A), .int .i64 0]) ∧ Below w.heap.size w w' := by
  have := h.hm; have := h.hM; have := h.hn
  exact fdiv_any (i := 3 * m) (j := 5 * m) _ _ h0 ((h.rr hk).szk (by omega) (by omega)) ((h.pp hk).szk (by omega) (by omega)) (by omega) w
theorem run_x (h : RunS n m A b s0) (hk : k ≤ n) (w : World) (d d' : Value) (hd : VecAt w d (vl n (s0.at n A k).p)) (hd' : VecAt w d' (vl n (s0.at n A k).x)) :
    Calls Tryz.prog 160 #[fracV ((s0.at n A k).far n A), d, d'] w fun e w' => (∃ d, e = .returned d ∧ VecAt w' d (vl n (s0.at n A (k + 1)).x)) ∧ Below w.heap.size w w' := by
  have := h.hm; have := h.hM; have := h.hn
  exact caxpy_vl (i := 7 * m) (j := m) (l := m) w _ d d' _ _ hd hd' (by omega) ((h.far hk).szk (by omega) (by omega)) ((h.hs k hk).p.szk (Nat.le_refl _) (Nat.le_refl _)) ((h.hs k hk).x.szk (Nat.le_refl _) (Nat.le_refl _)) (by omega)
theorem run_r (h : RunS n m A b s0) (hk : k ≤ n) (w : World) (d d' : Value) (hd : VecAt w d (vl n (mv n A (s0.at n A k).p))) (hd' : VecAt w d' (vl n (s0.at n A k).r)) :
    Calls Tryz.prog 160 #[fracV (-(s0.at n A k).far n A), d, d'] w fun e w' => (∃ d, e = .returned d ∧ VecAt w' d (vl n (s0.at n A (k + 1)).r)) ∧ Below w.heap.size w w' := by
  have := h.hm; have := h.hM; have := h.hn
  exact caxpy_vl (i := 7 * m) (j := 3 * m) (l := m) w _ d d' _ _ hd hd' (by omega) ((h.far hk).neg.szk (by omega) (by omega)) ((h.mv3 (h.hs k hk).p).szk (Nat.le_refl _) (Nat.le_refl _)) ((h.hs k hk).r.szk (Nat.le_refl _) (Nat.le_refl _)) (by omega)
theorem RunS.r8 (h : RunS n m A b s0) (hk : k ≤ n) : CS n (8 * m + 29) (8 * m + 29) (s0.at n A (k + 1)).r := by
  have hn := h.hn
  exact (CS.axp (K := 8 * m + 28) ((h.hs k hk).far h.hA).neg ((h.hs k hk).sp h.hA) (h.hs k hk).r (by omega) (by omega)).mono (by omega) (by omega)
theorem run_rr2 (h : RunS n m A b s0) (hk : k ≤ n) (w : World) (d d' : Value) (hd : VecAt w d (vl n (s0.at n A (k + 1)).r)) (hd' : VecAt w d' (vl n (s0.at n A (k + 1)).r)) :
    Calls Tryz.prog 159 #[d, d'] w fun e w' => e = .returned (fracV (dt n (s0.at n A (k + 1)).r (s0.at n A (k + 1)).r)) ∧ Below w.heap.size w w' := by
  have := h.mul (8 * m + 29 + (8 * m + 29) + 1)
  have := h.hm; have := h.hM; have := h.hn
  exact cdot_vl (j := 8 * m + 29) (l := 8 * m + 29) w d d' _ _ hd hd' (by omega) ((h.r8 hk).szk (Nat.le_refl _) (Nat.le_refl _)) ((h.r8 hk).szk (Nat.le_refl _) (Nat.le_refl _)) (by omega) (by omega) (by omega)
theorem RunS.rr2 (h : RunS n m A b s0) (hk : k ≤ n) : SS (20 * m) (20 * m) (dt n (s0.at n A (k + 1)).r (s0.at n A (k + 1)).r) := ((h.r8 hk).dt (h.r8 hk)).mono (by have := h.hm; omega) (by have := h.hm; have := h.hn; omega)
def beta (n : Nat) (A : Nat → Nat → Rat) (s0 : Cg) (k : Nat) : Rat := dt n (s0.at n A (k + 1)).r (s0.at n A (k + 1)).r / dt n (s0.at n A k).r (s0.at n A k).r
theorem run_beta (h : RunS n m A b s0) (hk : k ≤ n) (h0 : dt n (s0.at n A k).r (s0.at n A k).r ≠ 0) (w : World) :
    Calls Tryz.prog 27 #[fracV (dt n (s0.at n A (k + 1)).r (s0.at n A (k + 1)).r), fracV (dt n (s0.at n A k).r (s0.at n A k).r)] w fun e w' => e = .returned (.tuple #[fracV (beta n A s0 k), .int .i64 0]) ∧ Below w.heap.size w w' := by
  have := h.hm; have := h.hM; have := h.hn
  exact fdiv_any (i := 20 * m) (j := 3 * m) _ _ h0 ((h.rr2 hk).szk (by omega) (by omega)) ((h.rr hk).szk (by omega) (by omega)) (by omega) w
theorem run_p (h : RunS n m A b s0) (hk : k ≤ n) (w : World) (d d' : Value) (hd : VecAt w d (vl n (s0.at n A k).p)) (hd' : VecAt w d' (vl n (s0.at n A (k + 1)).r)) :
    Calls Tryz.prog 160 #[fracV (beta n A s0 k), d, d'] w fun e w' => (∃ d, e = .returned d ∧ VecAt w' d (vl n (s0.at n A (k + 1)).p)) ∧ Below w.heap.size w w' := by
  have := h.hm; have := h.hM; have := h.hn
  exact caxpy_vl (i := 23 * m) (j := m) (l := 8 * m + 29) w _ d d' _ _ hd hd' (by omega) (((h.rr2 hk).div (h.rr hk)).szk (by omega) (by omega)) ((h.hs k hk).p.szk (Nat.le_refl _) (Nat.le_refl _)) ((h.r8 hk).szk (Nat.le_refl _) (Nat.le_refl _)) (by omega)
end
end Gus
end
section
/- The steps of a run. -/
namespace Gus
open Go Go.RowKit Go.Proofs
/-- a step: X, R, P, Far, Energy -/
structure StepD where
  x : Vc
  r : Vc
  p : Vc
  far : Rat
  en : Rat
def stc (x r p : Value) (f e : Rat) : List Value := x :: r :: p :: (fcs f ++ fcs e)
theorem stc_length (x r p : Value) (f e : Rat) : (stc x r p f e).length = 13 := rfl
/-- the last step's P and Far are zero -/
def stepD (n : Nat) (A : Nat → Nat → Rat) (b : Vc) (s : Cg) (last : Bool) : StepD :=
  { x := s.x, r := s.r, p := if last then fun _ => 0 else s.p, far := if last then 0 else s.far n A, en := en n A b s.x }
/-- v is a slice of these steps -/
def StepsAt (w : World) (v : Value) (n L : Nat) (F : Nat → StepD) : Prop :=
  ∃ a cap, v = .slice a L cap ∧ ∀ i, i < L → ∃ b off xv rv pv, a = some ⟨b, off, none⟩ ∧ b < w.heap.size ∧ (∀ j, j < 13 → w.cell? ⟨b, off + i * 13 + j, none⟩ = (stc xv rv pv (F i).far (F i).en)[j]?) ∧ VecAt w xv (vl n (F i).x) ∧ VecAt w rv (vl n (F i).r) ∧ VecAt w pv (vl n (F i).p)
theorem StepsAt.call {w w' : World} {v : Value} {n L : Nat} {F : Nat → StepD} (h : StepsAt w v n L F) (hb : Below w.heap.size w w') : StepsAt w' v n L F := by
  obtain ⟨a, cap, h1, h2⟩ := h
  refine ⟨a, cap, h1, fun i hi => ?_⟩
  obtain ⟨b, off, xv, rv, pv, h3, h4, h5, h6, h7, h8⟩ := h2 i hi
  exact ⟨b, off, xv, rv, pv, h3, Nat.lt_of_lt_of_le h4 hb.size, fun j hj => by rw [hb.cell (p := ⟨b, off + i * 13 + j, none⟩) h4]; exact h5 j hj, h6.call hb, h7.call hb, h8.call hb⟩
/-- a run that ends at step j -/
def Fin (n : Nat) (A : Nat → Nat → Rat) (s : Cg) (j : Nat) : Prop :=
  j ≤ n ∧ dt n (s.at n A j).r (s.at n A j).r = 0 ∧ ∀ k, k < j → dt n (s.at n A k).r (s.at n A k).r ≠ 0 ∧ dt n (s.at n A k).p (mv n A (s.at n A k).p) ≠ 0
theorem Fin.unique {n : Nat} {A : Nat → Nat → Rat} {s : Cg} {i j : Nat} (h : Fin n A s i) (k : Fin n A s j) : i = j := by
  rcases Nat.lt_trichotomy i j with h1 | h1 | h1
  · exact absurd h.2.1 (k.2.2 i h1).1
  · exact h1
  · exact absurd k.2.1 (h.2.2 j h1).1
/-- the steps of a run that ends at step j -/
def runD (n : Nat) (A : Nat → Nat → Rat) (b : Vc) (s : Cg) (j : Nat) (i : Nat) : StepD := stepD n A b (s.at n A i) (decide (i = j))
/-- the cells of the steps so far -/
def stl (n : Nat) (A : Nat → Nat → Rat) (b : Vc) (s : Cg) (vs : List (Value × Value × Value)) : List Value :=
  (List.range vs.length).flatMap fun i => stc (vs.getD i (undef, undef, undef)).1 (vs.getD i (undef, undef, undef)).2.1 (vs.getD i (undef, undef, undef)).2.2 ((s.at n A i).far n A) (en n A b (s.at n A i).x)
theorem flat13 {α : Type} (f : Nat → List α) (hf : ∀ i, (f i).length = 13) : ∀ (L i j : Nat), i < L → j < 13 → ((List.range L).flatMap f)[i * 13 + j]? = (f i)[j]?
  | 0, i, j, h, _ => absurd h (Nat.not_lt_zero _)
  | L + 1, i, j, h, hj => by
    have hl : ((List.range L).flatMap f).length = L * 13 := by
      clear h
      induction L with
      | zero => rfl
      | succ L ih => rw [List.range_succ, List.flatMap_append, List.length_append, ih]; simp [hf]; omega
    rw [List.range_succ, List.flatMap_append]
    by_cases hi : i < L
    · rw [List.getElem?_append_left (by rw [hl]; omega), flat13 f hf L i j hi hj]
    · obtain rfl : i = L := by omega
      rw [List.getElem?_append_right (by rw [hl]; omega), hl, show i * 13 + j - i * 13 = j by omega]
      simp
theorem flat_congr {α β : Type} {f g : α → List β} : ∀ {l : List α}, (∀ x ∈ l, f x = g x) → l.flatMap f = l.flatMap g
  | [], _ => rfl
  | x :: l, h => by rw [List.flatMap_cons, List.flatMap_cons, h x (.head _), flat_congr fun y hy => h y (.tail _ hy)]
theorem stl_snoc (n : Nat) (A : Nat → Nat → Rat) (b : Vc) (s : Cg) (vs : List (Value × Value × Value)) (x r p : Value) :
    stl n A b s (vs ++ [(x, r, p)]) = stl n A b s vs ++ stc x r p ((s.at n A vs.length).far n A) (en n A b (s.at n A vs.length).x) := by
  unfold stl
  rw [List.length_append, List.length_singleton, List.range_succ, List.flatMap_append]
  congr 1
  · refine flat_congr fun i hi => ?_
    have hi := List.mem_range.1 hi
    have e : (vs ++ [(x, r, p)]).getD i (undef, undef, undef) = vs.getD i (undef, undef, undef) := by
      rw [List.getD_eq_getElem?_getD, List.getElem?_append_left hi, ← List.getD_eq_getElem?_getD]
    rw [e]
  · simp
theorem info_step : (Tryz.prog.info? 61).map (fun i => (i.zero, i.size, i.bytes)) = some (some (.agg #[.slice none 0 0, .slice none 0 0, .slice none 0 0, .int .u64 0, .string ⟨#[]⟩, .bool false, .int .u64 0, .string ⟨#[]⟩, .int .u64 0, .string ⟨#[]⟩, .bool false, .int .u64 0, .string ⟨#[]⟩]), 13, 184) := by kernel_rfl
end Gus
end
section
/- slices.Clone of a vector. -/
namespace Gus
open Go Go.RowKit Go.Proofs
set_option maxRecDepth 100000 in
set_option maxHeartbeats 1000000 in
theorem clone_any (w : World) (v : Value) (qs : List Rat) (hv : VecAt w v qs) (hl : qs.length ≤ 4096) :
    Calls Tryz.prog 75 #[v] w fun e w' => (∃ d, e = .returned d ∧ VecAt w' d qs) ∧ Below w.heap.size w w' := by
  obtain ⟨i0, hi0, hi1, hi2, hi3⟩ := info_parts info_frac
  obtain ⟨a, cap, rfl⟩ := hv.shape
  obtain ⟨L, hL⟩ : ∃ L, L = qs.length := ⟨_, rfl⟩
  rw [← hL] at hv hl ⊢
  rcases a with _ | ⟨b, off, spot⟩
  · have hL0 : L = 0 := by
      rcases Nat.eq_zero_or_pos L with h | h
      · exact h
      · obtain ⟨_, _, h1, h2⟩ := hv
        injection h1 with h1
        obtain ⟨_, _, h3, _⟩ := h2 0 (by omega)
        rw [← h1] at h3; cases h3
    have hq : qs = [] := List.length_eq_zero_iff.1 (by omega)
    subst hq hL0
    clear hv hL
    have hne : ∀ W, (binOp .eql 33 (.slice none 0 cap) (.slice none 0 0)).run Tryz.prog W = .ok (.bool true) W := fun W => rfl
    go_enter Tryz.func75, Tryz.ntmps75
    go_wp2_with fail
    go_ret
    exact ⟨⟨_, rfl, VecAt.nil _ _ _⟩, Below.refl _ _⟩
  · have hspot : 0 < L → spot = none := fun h => by
      obtain ⟨_, _, h1, h2⟩ := hv
      injection h1 with h1
      obtain ⟨_, _, h3, _⟩ := h2 0 (by omega)
      rw [← h1] at h3
      injection h3 with h3
      injection h3
    by_cases hL0 : L = 0
    · have hq : qs = [] := List.length_eq_zero_iff.1 (by omega)
      subst hq hL0
      clear hv hL hspot
      have hne : ∀ W, (binOp .eql 33 (.slice (some ⟨b, off, spot⟩) 0 cap) (.slice none 0 0)).run Tryz.prog W = .ok (.bool false) W := fun W => rfl
      go_enter Tryz.func75, Tryz.ntmps75
      have hap : ∀ (W : World) (E : Addr) (ty : TypeId), (Builtin.append_ #[33, 33] ty #[.slice (some E) 0 0, .slice (some ⟨b, off, spot⟩) 0 cap]).run Tryz.prog W = .ok (.slice (some E) 0 0) W := fun W E ty => by
        have hf := run_firstCells_some (P := Tryz.prog) W 5 0 ⟨b, off, spot⟩ 0 cap [] rfl (by simp)
        simp [Builtin.append_, run_underlying Tryz.underlying33, Go.sizeOf, typeInfo, hi0, hi2, Builtin.lenOf, hf, storeCells]
      go_wp2_with (at_builtin; refine wpList_plain rfl fun K hK' => ?_; unfold Oper.wp; simp [execOp, resolve, invoke, builtin, Act.eval, hap, Result.andThen]; refine hK' _ _ ?_)
      exact bodyPost_ret (v := .slice (some ⟨w.heap.size, 0, none⟩) 0 0) (by simp [results, Tryz.results75, go_sem]) rfl ⟨⟨_, rfl, VecAt.nil _ _ _⟩, (Below.refl _ _).alloc (Nat.le_refl _) _⟩
    · obtain rfl := hspot (by omega)
      have hal := (hv.call ((Below.refl _ _).alloc (Nat.le_refl _) (.cells #[] 52))).all
      have HV := Lib.hid hal
      have HL := Lib.hid hL
      have hLp : 0 < L := by omega
      clear hv hL hL0 hal hspot
      have hne : ∀ W, (binOp .eql 33 (.slice (some ⟨b, off, none⟩) L cap) (.slice none 0 0)).run Tryz.prog W = .ok (.bool false) W := fun W => rfl
      go_enter Tryz.func75, Tryz.ntmps75
      go_wp2_with (at_builtin; refine wpList_append_grows _ rfl (.tmp 5) (.tmp 6) 33 rfl 52 i0 (.agg #[.int .u64 0, .string ⟨#[]⟩, .bool false, .int .u64 0, .string ⟨#[]⟩]) 5 56 Tryz.underlying33 hi0 hi1 hi2 hi3 rfl (by decide) (some ⟨w.heap.size, 0, none⟩) 0 0 [] rfl (by simp) rfl (by simp) ⟨b, off, none⟩ L cap (fcl qs) rfl ?c1 ?c2 ?c3 ?c4 ?c5 ?c6 ?_)
      case c1 => rw [fcl_length, ← HL.out]
      case c2 => exact HV.out
      case c3 => exact fcl_one
      case c4 => omega
      case c5 => simp only [maxLen]; omega
      case c6 => omega
      intro v' w3 hown hgr
      obtain ⟨g, k, rfl, hg1, hg2⟩ := VRow.own hown hLp
      have hin : In w.heap.size w w3 := ((In.self w).alloc (.cells #[] 52)).call ⟨hgr.os, hgr.tape, hgr.output, hgr.size, fun k hk => hgr.block k hk (by simp)⟩
      have HD := Lib.hid (hg2.at L HL.out k)
      clear hown hgr hg1 hg2
      go_wp2_with fail
      exact bodyPost_ret (v := .slice (some ⟨g, 0, none⟩) L k) (by simp [results, Tryz.results75, go_sem]) rfl ⟨⟨_, rfl, HD.out⟩, hin.bel⟩
end Gus
end
section
/- cgs: the run. -/
namespace Gus
open Go Go.RowKit Go.Proofs
theorem stl_length (n : Nat) (A : Nat → Nat → Rat) (b : Vc) (s : Cg) (vs : List (Value × Value × Value)) : (stl n A b s vs).length = vs.length * 13 := by
  unfold stl
  generalize vs.length = L
  induction L with
  | zero => rfl
  | succ L ih => rw [List.range_succ, List.flatMap_append, List.length_append, ih]; simp [stc_length]; omega
/-- the steps so far: l, their vectors -/
def LAt (w : World) (lo n : Nat) (A : Nat → Nat → Rat) (b : Vc) (s : Cg) (l : Value) (k : Nat) : Prop :=
  ∃ vs : List (Value × Value × Value), vs.length = k ∧ w.ownsRow lo 61 13 l k (stl n A b s vs) ∧ ∀ i, i < k → VecAt w (vs.getD i (undef, undef, undef)).1 (vl n (s.at n A i).x) ∧ VecAt w (vs.getD i (undef, undef, undef)).2.1 (vl n (s.at n A i).r) ∧ VecAt w (vs.getD i (undef, undef, undef)).2.2 (vl n (s.at n A i).p)
theorem LAt.start (w : World) (lo n : Nat) (A : Nat → Nat → Rat) (b : Vc) (s : Cg) : LAt w lo n A b s (.slice none 0 0) 0 := ⟨[], rfl, World.ownsRow_nil _ _ _ _, fun _ hi => absurd hi (Nat.not_lt_zero _)⟩
theorem LAt.call {w w' : World} {lo n k : Nat} {A : Nat → Nat → Rat} {b : Vc} {s : Cg} {l : Value} (h : LAt w lo n A b s l k) (hb : Below w.heap.size w w') : LAt w' lo n A b s l k := by
  obtain ⟨vs, h1, h2, h3⟩ := h
  exact ⟨vs, h1, ownsRow_below h2 hb, fun i hi => ⟨(h3 i hi).1.call hb, (h3 i hi).2.1.call hb, (h3 i hi).2.2.call hb⟩⟩
theorem LAt.shape {w : World} {lo n k : Nat} {A : Nat → Nat → Rat} {b : Vc} {s : Cg} {l : Value} (h : LAt w lo n A b s l k) : ∃ a c, l = .slice a k c := by
  obtain ⟨vs, h1, h2, _⟩ := h
  rcases h2.2 with ⟨rfl, hn⟩ | ⟨g, c, _, rfl, _⟩
  · exact ⟨none, 0, by rw [hn]⟩
  · exact ⟨_, _, rfl⟩
theorem LAt.lt {w : World} {lo n k : Nat} {A : Nat → Nat → Rat} {b : Vc} {s : Cg} {l : Value} (h : LAt w lo n A b s l k) : ∀ g, l.ownBlock = some g → lo ≤ g ∧ g < w.heap.size := by
  obtain ⟨vs, _, h2, _⟩ := h
  exact h2.lt
/-- vectors stand where the steps grow -/
theorem LAt.vec {w w' : World} {lo n k : Nat} {A : Nat → Nat → Rat} {b : Vc} {s : Cg} {l : Value} (h : LAt w lo n A b s l k) (hgr : w.grownBy w' l.ownBlock) {v : Value} {qs : List Rat} (hv : VecAt w v qs) : VecAt w' v qs := by
  obtain ⟨vs, h1, h2, h3⟩ := h
  rcases h2.2 with ⟨rfl, hn⟩ | ⟨g, c, cur, rfl, hg, hgc, _⟩
  · exact hv.call ⟨hgr.os, hgr.tape, hgr.output, hgr.size, fun k hk => hgr.block k hk (by simp [Value.ownBlock])⟩
  · exact hv.grown (g := g) hgc (by decide) hgr
theorem VecAt.setS {w : World} {v u : Value} {qs : List Rat} {S : Nat} {cs : List Value} (h : VecAt w v qs) (hS : Bx w S 61 cs) (j : Nat) : VecAt (w.setCell ⟨S, j, none⟩ u) v qs := h.grown hS (by decide) (gr_cell w ⟨S, j, none⟩ u)
/-- the steps, with the next one -/
theorem LAt.snoc {w w' : World} {lo n k : Nat} {A : Nat → Nat → Rat} {b : Vc} {s : Cg} {l l' x r p : Value} {vs : List (Value × Value × Value)} (h1 : vs.length = k) (h2 : w.ownsRow lo 61 13 l k (stl n A b s vs)) (h3 : ∀ i, i < k → VecAt w (vs.getD i (undef, undef, undef)).1 (vl n (s.at n A i).x) ∧ VecAt w (vs.getD i (undef, undef, undef)).2.1 (vl n (s.at n A i).r) ∧ VecAt w (vs.getD i (undef, undef, undef)).2.2 (vl n (s.at n A i).p)) (hx : VecAt w x (vl n (s.at n A k).x)) (hr : VecAt w r (vl n (s.at n A k).r)) (hp : VecAt w p (vl n (s.at n A k).p))
    (hown : w'.ownsRow lo 61 13 l' (k + 1) (stl n A b s vs ++ stc x r p ((s.at n A k).far n A) (en n A b (s.at n A k).x))) (hgr : w.grownBy w' l.ownBlock) : LAt w' lo n A b s l' (k + 1) := by
  have hv := fun v qs (hv : VecAt w v qs) => LAt.vec ⟨vs, h1, h2, h3⟩ hgr hv
  refine ⟨vs ++ [(x, r, p)], by simp [h1], ?_, fun i hi => ?_⟩
  · rw [stl_snoc, h1]; exact hown
  · by_cases hik : i < k
    · rw [List.getD_eq_getElem?_getD, List.getElem?_append_left (by omega), ← List.getD_eq_getElem?_getD]
      exact ⟨hv _ _ (h3 i hik).1, hv _ _ (h3 i hik).2.1, hv _ _ (h3 i hik).2.2⟩
    · obtain rfl : i = k := by omega
      rw [List.getD_eq_getElem?_getD, List.getElem?_append_right (by omega), h1, Nat.sub_self]
      exact ⟨hv _ _ hx, hv _ _ hr, hv _ _ hp⟩
theorem LAt.steps {w w' : World} {lo n k : Nat} {A : Nat → Nat → Rat} {b : Vc} {s : Cg} {l l' x r p : Value} {f e : Rat} {vs : List (Value × Value × Value)} (h1 : vs.length = k) (h2 : w.ownsRow lo 61 13 l k (stl n A b s vs)) (h3 : ∀ i, i < k → VecAt w (vs.getD i (undef, undef, undef)).1 (vl n (s.at n A i).x) ∧ VecAt w (vs.getD i (undef, undef, undef)).2.1 (vl n (s.at n A i).r) ∧ VecAt w (vs.getD i (undef, undef, undef)).2.2 (vl n (s.at n A i).p)) (hx : VecAt w x (vl n (s.at n A k).x)) (hr : VecAt w r (vl n (s.at n A k).r)) (hp : VecAt w p (vl n fun _ => 0)) (he : e = en n A b (s.at n A k).x) (hf : f = 0)
    (hown : w'.ownsRow lo 61 13 l' (k + 1) (stl n A b s vs ++ stc x r p f e)) (hgr : w.grownBy w' l.ownBlock) : StepsAt w' l' n (k + 1) (runD n A b s k) := by
  have hv := fun v qs (hv : VecAt w v qs) => LAt.vec ⟨vs, h1, h2, h3⟩ hgr hv
  subst he hf
  have ho := hown
  rcases ho.2 with ⟨_, hn⟩ | ⟨g, c, cur, hl', _, hgc, _⟩
  · omega
  refine ⟨some ⟨g, 0, none⟩, c, hl', fun i hi => ?_⟩
  have hlt := (Array.getElem?_eq_some_iff.1 hgc).1
  have hcell : ∀ j u, (stl n A b s vs ++ stc x r p 0 (en n A b (s.at n A k).x))[j]? = some u → w'.cell? ⟨g, j, none⟩ = some u := fun j u hj => by
    have := ho.cells (g := g) (by rw [hl']; rfl) j u hj
    rwa [Addr.add_lit, Nat.zero_add] at this
  by_cases hik : i < k
  · refine ⟨g, 0, (vs.getD i (undef, undef, undef)).1, (vs.getD i (undef, undef, undef)).2.1, (vs.getD i (undef, undef, undef)).2.2, rfl, hlt, fun j hj => ?_, ?_, ?_, ?_⟩
    · have hs : (stl n A b s vs)[i * 13 + j]? = (stc (vs.getD i (undef, undef, undef)).1 (vs.getD i (undef, undef, undef)).2.1 (vs.getD i (undef, undef, undef)).2.2 ((s.at n A i).far n A) (en n A b (s.at n A i).x))[j]? := flat13 _ (fun _ => stc_length _ _ _ _ _) vs.length i j (by omega) hj
      have e1 : (runD n A b s k i).far = (s.at n A i).far n A := by unfold runD stepD; rw [decide_eq_false (show ¬ i = k by omega)]; rfl
      have e2 : (runD n A b s k i).en = en n A b (s.at n A i).x := rfl
      rw [e1, e2, ← hs]
      have hlen : i * 13 + j < (stl n A b s vs).length := by rw [stl_length, h1]; omega
      rw [List.getElem?_eq_getElem hlen, Nat.zero_add]
      exact hcell _ _ (by rw [List.getElem?_append_left hlen, List.getElem?_eq_getElem hlen])
    · exact hv _ _ (h3 i hik).1
    · exact hv _ _ (h3 i hik).2.1
    · have e1 : (runD n A b s k i).p = (s.at n A i).p := by unfold runD stepD; rw [decide_eq_false (show ¬ i = k by omega)]; rfl
      rw [e1]; exact hv _ _ (h3 i hik).2.2
  · obtain rfl : i = k := by omega
    refine ⟨g, 0, x, r, p, rfl, hlt, fun j hj => ?_, hv _ _ hx, hv _ _ hr, ?_⟩
    · have e1 : (runD n A b s i i).far = 0 := by unfold runD stepD; rw [decide_eq_true rfl]; rfl
      have e2 : (runD n A b s i i).en = en n A b (s.at n A i).x := rfl
      rw [e1, e2, Nat.zero_add]
      have hj13 : j < (stc x r p 0 (en n A b (s.at n A i).x)).length := by rw [stc_length]; exact hj
      rw [List.getElem?_eq_getElem hj13]
      exact hcell _ _ (by rw [List.getElem?_append_right (by rw [stl_length, h1]; omega), stl_length, h1, Nat.add_sub_cancel_left, List.getElem?_eq_getElem hj13])
    · have e1 : (runD n A b s i i).p = fun _ => 0 := by unfold runD stepD; rw [decide_eq_true rfl]; rfl
      rw [e1]; exact hv _ _ hp
end Gus
end
