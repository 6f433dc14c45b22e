import Derived.Test.YtakblfhmllgepaaGreatDoorNum
namespace Gus
/-- the four bytes of a word -/
def b4 (d : Nat) : List UInt8 := [UInt8.ofNat d, UInt8.ofNat (d / 256), UInt8.ofNat (d / 65536), UInt8.ofNat (d / 16777216)]
def byts (l : List Nat) : List UInt8 := l.flatMap b4
def lo (n : Nat) : Int := if n < 18446744073709551616 then (n : Int) else 0
def bg (n : Nat) : ByteArray := if n < 18446744073709551616 then ByteArray.empty else ⟨(byts (wd n)).toArray⟩

theorem byts_nil : byts [] = [] := rfl
theorem byts_cons (d : Nat) (l : List Nat) : byts (d :: l) = b4 d ++ byts l := rfl
theorem byts_length (l : List Nat) : (byts l).length = 4 * l.length := by
  induction l with
  | nil => rfl
  | cons d l ih => rw [byts_cons, List.length_append, ih, List.length_cons]; simp [b4]; omega
theorem byts_append (l m : List Nat) : byts (l ++ m) = byts l ++ byts m := by simp [byts]
/-- byte k of word i -/
theorem byts_get (l : List Nat) : ∀ (i : Nat) (hi : i < l.length) (k : Nat) (hk : k < 4), (byts l)[4 * i + k]'(by rw [byts_length]; omega) = UInt8.ofNat (l[i] / 256 ^ k) := by
  induction l with
  | nil => intro i hi; simp at hi
  | cons d l ih =>
    intro i hi k hk
    cases i with
    | zero =>
      simp only [byts_cons]
      match k, hk with
      | 0, _ => simp [b4]
      | 1, _ => simp [b4]
      | 2, _ => simp [b4]
      | 3, _ => simp [b4]
    | succ i =>
      have := ih i (by simpa using hi) k hk
      simp only [byts_cons, List.getElem_cons_succ]
      rw [List.getElem_append_right (by simp [b4]; omega)]
      have e : 4 * (i + 1) + k - (b4 d).length = 4 * i + k := by simp [b4]; omega
      simp only [e]; exact this
theorem byts_inj : ∀ l m, Digs l → Digs m → byts l = byts m → l = m
  | [], [], _, _, _ => rfl
  | [], e :: m, _, _, h => by have := congrArg List.length h; simp [byts_length] at this
  | d :: l, [], _, _, h => by have := congrArg List.length h; simp [byts_length] at this
  | d :: l, e :: m, dl, dm, h => by
    rw [byts_cons, byts_cons] at h
    have h4 := List.append_inj h (by simp [b4])
    have h1 := dl.head; have h2 := dm.head
    have hh := h4.1
    simp only [b4, List.cons.injEq, and_true] at hh
    obtain ⟨a, b, c, f⟩ := hh
    have a := congrArg UInt8.toNat a; have b := congrArg UInt8.toNat b; have c := congrArg UInt8.toNat c; have f := congrArg UInt8.toNat f
    simp only [UInt8.toNat_ofNat'] at a b c f
    obtain rfl : d = e := by omega
    rw [byts_inj l m dl.tail dm.tail h4.2]

theorem lo_small {n : Nat} (h : n < 18446744073709551616) : lo n = n := by unfold lo; rw [if_pos h]
theorem bg_small {n : Nat} (h : n < 18446744073709551616) : bg n = ByteArray.empty := by unfold bg; rw [if_pos h]
theorem lo_big {n : Nat} (h : ¬ n < 18446744073709551616) : lo n = 0 := by unfold lo; rw [if_neg h]
theorem bg_big {n : Nat} (h : ¬ n < 18446744073709551616) : bg n = ⟨(byts (wd n)).toArray⟩ := by unfold bg; rw [if_neg h]
theorem lo_zero : lo 0 = 0 := rfl
theorem bg_zero : bg 0 = ByteArray.empty := rfl
theorem lo_nonneg (n : Nat) : 0 ≤ lo n := by unfold lo; split <;> omega
theorem lo_lt (n : Nat) : lo n < 18446744073709551616 := by unfold lo; split <;> omega
theorem wd_ne_nil {n : Nat} (h : n ≠ 0) : wd n ≠ [] := by intro h0; have := wd_val n; rw [h0] at this; simp [val] at this; omega
theorem bg_size (n : Nat) : (bg n).size = if n < 18446744073709551616 then 0 else 4 * (wd n).length := by
  unfold bg; split
  · rfl
  · show (byts (wd n)).toArray.size = _; simp [byts_length]
theorem bg_toList_big {n : Nat} (h : ¬ n < 18446744073709551616) : (bg n).data.toList = byts (wd n) := by rw [bg_big h]
/-- big is the empty string exactly below 2^64 -/
theorem bg_empty_iff (n : Nat) : (bg n).data.toList = [] ↔ n < 18446744073709551616 := by
  constructor
  · intro h
    refine Decidable.by_contra fun hn => ?_
    rw [bg_toList_big hn] at h
    have h1 := congrArg List.length h
    rw [byts_length] at h1
    exact wd_ne_nil (n := n) (by omega) (List.eq_nil_of_length_eq_zero (by simp only [List.length_nil] at h1; omega))
  · intro h; rw [bg_small h]; rfl
theorem nat_eq_iff (m n : Nat) : (lo m = lo n ∧ (bg m).data.toList = (bg n).data.toList) ↔ m = n := by
  constructor
  · rintro ⟨h1, h2⟩
    by_cases hm : m < 18446744073709551616
    · have hn := (bg_empty_iff n).1 (by rw [← h2]; exact (bg_empty_iff m).2 hm)
      rw [lo_small hm, lo_small hn] at h1; omega
    · have hn : ¬ n < 18446744073709551616 := fun hn => hm ((bg_empty_iff m).1 (by rw [h2]; exact (bg_empty_iff n).2 hn))
      rw [bg_toList_big hm, bg_toList_big hn] at h2
      have := byts_inj _ _ (wd_digs m) (wd_digs n) h2
      rw [← wd_val m, ← wd_val n, this]
  · rintro rfl; exact ⟨rfl, rfl⟩

/-- the words of a big number: at least three -/
theorem wd_length_big {n : Nat} (h : ¬ n < 18446744073709551616) : 3 ≤ (wd n).length := by
  refine Decidable.by_contra fun hl => h ?_
  have h1 := val_lt (wd_digs n)
  rw [wd_val] at h1
  have h2 : 4294967296 ^ (wd n).length ≤ 4294967296 ^ 2 := Nat.pow_le_pow_right (by decide) (by omega)
  omega
end Gus
