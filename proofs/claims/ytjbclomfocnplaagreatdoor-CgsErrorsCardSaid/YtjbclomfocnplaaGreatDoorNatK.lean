import Derived.Test.YtjbclomfocnplaaGreatDoorNatJ
/- The plain law of the long division. -/
namespace Gus
open Go Go.RowKit Go.Proofs
section
variable {P V vl v1 v2 M ml a b c q d r top : Nat}
theorem guess_init (hV : V = vl + P * (v2 + 4294967296 * v1)) (hM : M = ml + P * (a + 4294967296 * (b + 4294967296 * c))) (hml : ml < P) (ha : a < 4294967296) (hq : q * V ≤ M) (hv1 : 0 < v1) : q ≤ (c * 4294967296 + b) / v1 := by
  rw [Nat.le_div_iff_mul_le hv1]
  refine Decidable.by_contra fun h => ?_
  have h1 : b + 4294967296 * c + 1 ≤ q * v1 := by omega
  have h2 : P * (4294967296 * (b + 4294967296 * c + 1)) ≤ P * (4294967296 * (q * v1)) := Nat.mul_le_mul_left _ (Nat.mul_le_mul_left _ h1)
  have h3 : P * (4294967296 * (q * v1)) ≤ q * V := by
    have e : q * V = q * (vl + P * v2) + P * (4294967296 * (q * v1)) := by rw [hV]; grind
    omega
  have h4 : P * (a + 1) ≤ P * 4294967296 := Nat.mul_le_mul_left _ (by omega)
  have e4 : P * (4294967296 * (b + 4294967296 * c + 1)) = P * (4294967296 * (b + 4294967296 * c)) + P * 4294967296 := by grind
  have e5 : P * (a + 1) = P * a + P := by grind
  have e6 : P * (a + 4294967296 * (b + 4294967296 * c)) = P * a + P * (4294967296 * (b + 4294967296 * c)) := Nat.mul_add _ _ _
  rw [e6] at hM
  rw [e4] at h2
  rw [e5] at h4
  clear e4 e5 e6 h h1 hv1
  generalize P * (4294967296 * (b + 4294967296 * c)) = X at *
  generalize P * a = Y at *
  generalize P * 4294967296 = Z at *
  generalize P * (4294967296 * (q * v1)) = T at *
  generalize q * V = S at *
  omega
theorem guess_dec (hV : V = vl + P * (v2 + 4294967296 * v1)) (hM : M = ml + P * (a + 4294967296 * (b + 4294967296 * c))) (hml : ml < P) (hd : d * v1 + r = c * 4294967296 + b) (h : r * 4294967296 + a < d * v2) : M < d * V := by
  have e : d * V = d * vl + P * (d * v2 + 4294967296 * (d * v1)) := by rw [hV]; grind
  have h1 : P * (a + 4294967296 * (b + 4294967296 * c) + 1) ≤ P * (d * v2 + 4294967296 * (d * v1)) := Nat.mul_le_mul_left _ (by omega)
  rw [Nat.mul_add P _ 1] at h1
  omega
theorem guess_end (hV : V = vl + P * (v2 + 4294967296 * v1)) (hM : M = ml + P * (a + 4294967296 * (b + 4294967296 * c))) (hvl : vl < P) (hv1 : 0 < v1) (hdB : d < 4294967296) (hd : d * v1 + r = c * 4294967296 + b) (h : d * v2 ≤ r * 4294967296 + a) : d * V < M + V := by
  have e : d * V = d * vl + P * (d * v2 + 4294967296 * (d * v1)) := by rw [hV]; grind
  have h1 : P * (d * v2 + 4294967296 * (d * v1)) ≤ P * (a + 4294967296 * (b + 4294967296 * c)) := Nat.mul_le_mul_left _ (by omega)
  have h2 : d * vl ≤ 4294967296 * vl := Nat.mul_le_mul_right _ (by omega)
  have h3 : P * 4294967296 ≤ P * (4294967296 * v1) := Nat.mul_le_mul_left _ (by omega)
  rw [Nat.mul_add P] at hV
  omega
theorem guess_small (hd : d * v1 + r = c * 4294967296 + b) (hb : b < 4294967296) (hc : c ≤ v1) (hr : 4294967296 ≤ r) : d < 4294967296 := by
  refine Decidable.by_contra fun h => ?_
  have h1 : 4294967296 * v1 ≤ d * v1 := Nat.mul_le_mul_right _ (by omega)
  omega
/-- the digit after the subtraction and the adding back -/
theorem digit_low {Z : Nat} (hd : q ≤ d) (hq : q = M / V) (hV : 0 < V) (hz : Z + d * V = M) : d = q ∧ Z = M % V := by
  have h1 : d ≤ q := by rw [hq, Nat.le_div_iff_mul_le hV]; omega
  obtain rfl : d = q := by omega
  refine ⟨rfl, ?_⟩
  have := Nat.div_add_mod M V
  rw [← hq, Nat.mul_comm] at this
  omega
theorem digit_high {Z W : Nat} (hq : q = M / V) (hV : 0 < V) (hend : d * V < M + V) (hZ : Z < W) (hz : Z + d * V = M + W) : d = q + 1 ∧ Z + V = M % V + W := by
  have hm := Nat.div_add_mod M V
  rw [← hq, Nat.mul_comm] at hm
  have hlt := Nat.mod_lt M hV
  have h1 : d = q + 1 := by
    have h2 : ¬ d ≤ q := fun h => by
      have : d * V ≤ q * V := Nat.mul_le_mul_right _ h
      omega
    have h3 : ¬ q + 2 ≤ d := fun h => by
      have : (q + 2) * V ≤ d * V := Nat.mul_le_mul_right _ h
      rw [Nat.add_mul] at this
      omega
    omega
  refine ⟨h1, ?_⟩
  rw [h1, Nat.add_mul] at hz
  omega
end
/-- the words of a row, the highest ones apart -/
theorem val_top2 (l : List Nat) (n : Nat) : val (l.take (n + 2)) = val (l.take n) + 4294967296 ^ n * (l.getD n 0 + 4294967296 * l.getD (n + 1) 0) := by
  rw [val_take_succ, val_take_succ, Nat.pow_succ]; grind
theorem val_top3 (l : List Nat) (n : Nat) (h : l.length = n + 3) : val l = val (l.take n) + 4294967296 ^ n * (l.getD n 0 + 4294967296 * (l.getD (n + 1) 0 + 4294967296 * l.getD (n + 2) 0)) := by
  have := val_take_succ l (n + 2)
  rw [List.take_of_length_le (by omega)] at this
  rw [this, val_take_succ, val_take_succ, Nat.pow_succ, Nat.pow_succ]; grind
/-- a row whose part from k on is small -/
theorem val_zero_above (l : List Nat) (n : Nat) (h : val l < 4294967296 ^ n) : val (l.drop n) = 0 := by
  by_cases hn : n < l.length
  · have := val_split l n
    rw [Nat.min_eq_left (by omega)] at this
    refine Decidable.by_contra fun h0 => ?_
    have h1 : 4294967296 ^ n * 1 ≤ 4294967296 ^ n * val (l.drop n) := Nat.mul_le_mul_left _ (by omega)
    omega
  · rw [List.drop_of_length_le (by omega)]; rfl
theorem val3 (ls ms cs : List Nat) (h : val cs = 0) : val (ls ++ ms ++ cs) = val ls + 4294967296 ^ ls.length * val ms := by
  rw [val_append, h, val_append, Nat.mul_zero, Nat.add_zero]
theorem getD_drop_take (l : List Nat) {j n i k : Nat} (h : i < n) (hk : k = j + i) : ((l.drop j).take n).getD i 0 = l.getD k 0 := by
  subst hk
  rw [getD_take h, List.getD_eq_getElem?_getD, List.getElem?_drop, List.getD_eq_getElem?_getD]
theorem long_rows {ut vs : List Nat} {U V j p : Nat} (hdu : Digs ut) (hdv : Digs vs) (hul : ut.length = U) (hU : j + p + 3 ≤ U) (hvl : p + 2 ≤ vs.length) (hV : V = val (vs.take (p + 2))) (hlow : val (ut.drop (j + 1)) < V) :
    ∃ ls ms cs vl ml, ut = ls ++ ms ++ cs ∧ j = ls.length ∧ ms.length = p + 3 ∧ Digs ms ∧ Digs ls ∧ Digs cs ∧ val cs = 0 ∧ val ms < 4294967296 * V ∧ ut.getD (j + p + 2) 0 ≤ vs.getD (p + 1) 0 ∧ vl < 4294967296 ^ p ∧ ml < 4294967296 ^ p ∧
      V = vl + 4294967296 ^ p * (vs.getD p 0 + 4294967296 * vs.getD (p + 1) 0) ∧ val ms = ml + 4294967296 ^ p * (ut.getD (j + p) 0 + 4294967296 * (ut.getD (j + p + 1) 0 + 4294967296 * ut.getD (j + p + 2) 0)) := by
  have hVlt : V < 4294967296 ^ (p + 2) := by
    rw [hV]; have := val_lt (hdv.take (p + 2)); rwa [List.length_take, Nat.min_eq_left hvl] at this
  have hcs : val ((ut.drop j).drop (p + 3)) = 0 := by
    have := val_zero_above (ut.drop (j + 1)) (p + 2) (Nat.lt_trans hlow hVlt)
    rw [List.drop_drop] at this ⊢
    rwa [show j + (p + 3) = j + 1 + (p + 2) by omega]
  have hms : val (ut.drop j) = val ((ut.drop j).take (p + 3)) := by
    have := val_split (ut.drop j) (p + 3)
    rw [hcs, Nat.mul_zero] at this
    exact this
  refine ⟨ut.take j, (ut.drop j).take (p + 3), (ut.drop j).drop (p + 3), val (vs.take p), val (((ut.drop j).take (p + 3)).take p), by rw [List.append_assoc, List.take_append_drop, List.take_append_drop], by rw [List.length_take]; omega, by rw [List.length_take, List.length_drop]; omega,
    (hdu.drop _).take _, hdu.take _, (hdu.drop _).drop _, hcs, ?_, ?_, ?_, ?_, ?_, ?_⟩
  · rw [← hms, val_drop_step _ _ (by omega)]
    have := hdu.getD j
    omega
  · refine Decidable.by_contra fun h => ?_
    have h1 := val_split (ut.drop (j + 1)) (p + 1)
    rw [Nat.min_eq_left (by rw [List.length_drop]; omega)] at h1
    have h2 : ut.getD (j + p + 2) 0 ≤ val ((ut.drop (j + 1)).drop (p + 1)) := by
      rw [List.drop_drop, show j + 1 + (p + 1) = j + p + 2 by omega, val_drop_step _ _ (by omega)]
      exact Nat.le_add_right _ _
    have h3 := val_take_succ vs (p + 1)
    rw [← hV] at h3
    have h4 := val_lt (hdv.take (p + 1))
    rw [List.length_take, Nat.min_eq_left (by omega)] at h4
    have h5 : 4294967296 ^ (p + 1) * (vs.getD (p + 1) 0 + 1) ≤ 4294967296 ^ (p + 1) * val ((ut.drop (j + 1)).drop (p + 1)) := Nat.mul_le_mul_left _ (by omega)
    rw [Nat.mul_add, Nat.mul_one] at h5
    clear hms hcs hVlt h hU
    generalize 4294967296 ^ (p + 1) * val ((ut.drop (j + 1)).drop (p + 1)) = A at *
    generalize 4294967296 ^ (p + 1) * vs.getD (p + 1) 0 = C at *
    generalize 4294967296 ^ (p + 1) = D at *
    omega
  · have := val_lt (hdv.take p); rwa [List.length_take, Nat.min_eq_left (by omega)] at this
  · have := val_lt (((hdu.drop j).take (p + 3)).take p); rwa [List.length_take, List.length_take, List.length_drop, Nat.min_eq_left (by omega)] at this
  · rw [hV]; exact val_top2 vs p
  · have := val_top3 ((ut.drop j).take (p + 3)) p (by rw [List.length_take, List.length_drop]; omega)
    rw [getD_drop_take ut (j := j) (n := p + 3) (i := p) (by omega) rfl, getD_drop_take ut (j := j) (n := p + 3) (i := p + 1) (by omega) rfl, getD_drop_take ut (j := j) (n := p + 3) (i := p + 2) (by omega) rfl] at this
    exact this
end Gus
