import Derived.Test.YtakblfhmllgepaaGreatDoorByt
namespace Gus
theorem mk_natAbs (n : Int) (d : Nat) (hd : d ≠ 0) : (mkRat n d).num.natAbs = n.natAbs / Nat.gcd n.natAbs d := by
  rw [Rat.num_mkRat, if_neg hd, Nat.gcd_comm]
  have hg : Nat.gcd n.natAbs d ≠ 0 := by
    intro h; exact hd (Nat.eq_zero_of_gcd_eq_zero_right h)
  obtain ⟨m, hm⟩ : (Nat.gcd n.natAbs d : Int) ∣ n := Int.ofNat_dvd_left.2 (Nat.gcd_dvd_left _ _)
  generalize Nat.gcd n.natAbs d = g at *
  subst hm
  rw [Int.mul_ediv_cancel_left m (by omega), Int.natAbs_mul, Int.natAbs_natCast, Nat.mul_div_cancel_left _ (by omega)]
theorem mk_neg (n : Int) (d : Nat) (hd : d ≠ 0) : (mkRat n d).num < 0 ↔ n < 0 := by
  rw [Rat.num_mkRat, if_neg hd, Nat.gcd_comm]
  have hg : Nat.gcd n.natAbs d ≠ 0 := by
    intro h; exact hd (Nat.eq_zero_of_gcd_eq_zero_right h)
  obtain ⟨m, hm⟩ : (Nat.gcd n.natAbs d : Int) ∣ n := Int.ofNat_dvd_left.2 (Nat.gcd_dvd_left _ _)
  generalize Nat.gcd n.natAbs d = g at *
  subst hm
  rw [Int.mul_ediv_cancel_left m (by omega)]
  have hg' : (0 : Int) < g := by omega
  constructor
  · intro h; exact Int.mul_neg_of_pos_of_neg hg' h
  · intro h
    refine Decidable.by_contra fun h2 => ?_
    have := Int.mul_nonneg (Int.le_of_lt hg') (by omega : 0 ≤ m)
    omega
theorem mk_den (n : Int) (d : Nat) (hd : d ≠ 0) : (mkRat n d).den = d / Nat.gcd n.natAbs d := by
  rw [Rat.den_mkRat, if_neg hd, Nat.gcd_comm]

/-- both parts below 2^k -/
def SzK (k : Nat) (q : Rat) : Prop := q.num.natAbs < 2 ^ k ∧ q.den < 2 ^ k
theorem SzK.mono {j k : Nat} {q : Rat} (h : SzK j q) (hjk : j ≤ k) : SzK k q :=
  ⟨Nat.lt_of_lt_of_le h.1 (Nat.pow_le_pow_right (by decide) hjk), Nat.lt_of_lt_of_le h.2 (Nat.pow_le_pow_right (by decide) hjk)⟩
theorem SzK.mk {k : Nat} {n : Int} {d : Nat} (hd : d ≠ 0) (hn : n.natAbs < 2 ^ k) (hk : d < 2 ^ k) : SzK k (mkRat n d) := by
  constructor
  · rw [mk_natAbs n d hd]; exact Nat.lt_of_le_of_lt (Nat.div_le_self _ _) hn
  · rw [mk_den n d hd]; exact Nat.lt_of_le_of_lt (Nat.div_le_self _ _) hk
theorem mul_lt_pow {a b i j : Nat} (ha : a < 2 ^ i) (hb : b < 2 ^ j) : a * b < 2 ^ (i + j) := by
  rw [Nat.pow_add]
  exact Nat.mul_lt_mul_of_lt_of_le ha (Nat.le_of_lt hb) (Nat.pow_pos (by decide))
theorem SzK.mul {i j : Nat} {a b : Rat} (ha : SzK i a) (hb : SzK j b) : SzK (i + j) (a * b) := by
  rw [Rat.mul_def']
  have := a.den_nz; have := b.den_nz
  exact .mk (Nat.mul_ne_zero a.den_nz b.den_nz) (by rw [Int.natAbs_mul]; exact mul_lt_pow ha.1 hb.1) (mul_lt_pow ha.2 hb.2)
theorem SzK.add {i j : Nat} {a b : Rat} (ha : SzK i a) (hb : SzK j b) : SzK (i + j + 1) (a + b) := by
  rw [Rat.add_def']
  refine .mk (Nat.mul_ne_zero a.den_nz b.den_nz) ?_ (Nat.lt_of_lt_of_le (mul_lt_pow ha.2 hb.2) (Nat.pow_le_pow_right (by decide) (by omega)))
  have h1 := mul_lt_pow ha.1 hb.2
  have h2 := mul_lt_pow hb.1 ha.2
  have h3 := Int.natAbs_add_le (a.num * b.den) (b.num * a.den)
  rw [Int.natAbs_mul, Int.natAbs_mul, Int.natAbs_natCast, Int.natAbs_natCast] at h3
  rw [Nat.add_comm j i] at h2
  rw [Nat.pow_succ]; omega
theorem SzK.neg {k : Nat} {a : Rat} (h : SzK k a) : SzK k (-a) := by
  constructor
  · rw [Rat.neg_num, Int.natAbs_neg]; exact h.1
  · rw [Rat.neg_den]; exact h.2
theorem SzK.sub {i j : Nat} {a b : Rat} (ha : SzK i a) (hb : SzK j b) : SzK (i + j + 1) (a - b) := by
  rw [Rat.sub_eq_add_neg]; exact ha.add hb.neg
theorem SzK.zero : SzK 1 0 := by constructor <;> decide
theorem SzK.one : SzK 1 1 := by constructor <;> decide
theorem inv_num_natAbs {a : Rat} (h : a ≠ 0) : (a⁻¹).num.natAbs = a.den ∧ (a⁻¹).den = a.num.natAbs := by
  rw [Rat.inv_def]
  have hn : a.num ≠ 0 := fun h0 => h (Rat.num_eq_zero.1 h0)
  have hg : Nat.gcd a.den a.num.natAbs = 1 := by rw [Nat.gcd_comm]; exact a.reduced
  have key : ∃ n : Int, n.natAbs = a.den ∧ Rat.divInt (a.den : Int) a.num = mkRat n a.num.natAbs := by
    cases hm : a.num with
    | ofNat m => exact ⟨a.den, by simp, by simp [Rat.divInt]⟩
    | negSucc m => exact ⟨-(a.den : Int), by simp, by rw [Rat.mkRat_def, dif_neg (by simp)]; simp [Rat.divInt]⟩
  obtain ⟨n, h1, h2⟩ := key
  rw [h2]
  constructor
  · rw [mk_natAbs _ _ (by omega), h1, hg, Nat.div_one]
  · rw [mk_den _ _ (by omega), h1, hg, Nat.div_one]
theorem SzK.inv {k : Nat} {a : Rat} (h : SzK k a) (hk : 0 < k) : SzK k (a⁻¹) := by
  by_cases h0 : a = 0
  · subst h0; rw [Rat.inv_zero]; exact SzK.zero.mono hk
  · obtain ⟨h1, h2⟩ := inv_num_natAbs h0
    exact ⟨by rw [h1]; exact h.2, by rw [h2]; exact h.1⟩
theorem SzK.pos {k : Nat} {a : Rat} (h : SzK k a) : 0 < k := by
  rcases Nat.eq_zero_or_pos k with rfl | h0
  · have := a.den_nz; have := h.2; simp at this; omega
  · exact h0
theorem SzK.div {i j : Nat} {a b : Rat} (ha : SzK i a) (hb : SzK j b) : SzK (i + j) (a / b) := by
  rw [Rat.div_def]; exact ha.mul (hb.inv hb.pos)
end Gus
