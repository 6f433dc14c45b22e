namespace Gus
def val : List Nat → Nat
  | [] => 0
  | d :: l => d + 4294967296 * val l

def Digs (l : List Nat) : Prop := ∀ d ∈ l, d < 4294967296

theorem Digs.nil : Digs [] := by intro d h; cases h
theorem Digs.cons {d : Nat} {l : List Nat} (h : d < 4294967296) (k : Digs l) : Digs (d :: l) := by
  intro x hx; cases hx with
  | head => exact h
  | tail _ hm => exact k x hm
theorem Digs.head {d : Nat} {l : List Nat} (h : Digs (d :: l)) : d < 4294967296 := h d (.head _)
theorem Digs.tail {d : Nat} {l : List Nat} (h : Digs (d :: l)) : Digs l := fun x hx => h x (.tail _ hx)
theorem Digs.append {l m : List Nat} (h : Digs l) (k : Digs m) : Digs (l ++ m) := by
  intro x hx; rcases List.mem_append.1 hx with hx | hx
  · exact h x hx
  · exact k x hx
theorem Digs.left {l m : List Nat} (h : Digs (l ++ m)) : Digs l := fun x hx => h x (List.mem_append.2 (.inl hx))
theorem Digs.right {l m : List Nat} (h : Digs (l ++ m)) : Digs m := fun x hx => h x (List.mem_append.2 (.inr hx))

/-- the words of a number -/
def wdF : Nat → Nat → List Nat
  | 0, _ => []
  | f + 1, n => if n = 0 then [] else n % 4294967296 :: wdF f (n / 4294967296)
def wd (n : Nat) : List Nat := wdF n n

theorem wdF_val (f : Nat) : ∀ n, n ≤ f → val (wdF f n) = n := by
  induction f with
  | zero => intro n h; obtain rfl : n = 0 := by omega
            rfl
  | succ f ih =>
    intro n h
    unfold wdF
    split
    · simp [val]; omega
    · have := ih (n / 4294967296) (by omega)
      simp only [val, this]; omega
theorem wd_val (n : Nat) : val (wd n) = n := wdF_val n n (Nat.le_refl _)

theorem wdF_digs (f : Nat) : ∀ n, Digs (wdF f n) := by
  induction f with
  | zero => intro n; exact .nil
  | succ f ih =>
    intro n; unfold wdF; split
    · exact .nil
    · exact .cons (by omega) (ih _)
theorem wd_digs (n : Nat) : Digs (wd n) := wdF_digs n n

/-- no leading zero -/
def Nrm : List Nat → Prop
  | [] => True
  | [d] => d ≠ 0
  | _ :: l => Nrm l

theorem Nrm.cons {d e : Nat} {l : List Nat} (h : Nrm (e :: l)) : Nrm (d :: e :: l) := h
theorem wdF_nrm (f : Nat) : ∀ n, n ≤ f → Nrm (wdF f n) := by
  induction f with
  | zero => intro n _; exact trivial
  | succ f ih =>
    intro n h; unfold wdF; split
    · exact trivial
    · rename_i hn
      have h2 := ih (n / 4294967296) (by omega)
      have hv := wdF_val f (n / 4294967296) (by omega)
      generalize wdF f (n / 4294967296) = l at *
      match l with
      | [] => simp [val] at hv; simp [Nrm]; omega
      | e :: l => exact h2
theorem wd_nrm (n : Nat) : Nrm (wd n) := wdF_nrm n n (Nat.le_refl _)

theorem val_zero_of_nrm : ∀ l, Nrm l → val l = 0 → l = []
  | [], _, _ => rfl
  | [d], h, hv => by simp [val] at hv; simp [Nrm] at h; omega
  | d :: e :: l, h, hv => by
    have := val_zero_of_nrm (e :: l) h (by simp [val] at *; omega)
    cases this
theorem Nrm.tail {d : Nat} : ∀ {l : List Nat}, Nrm (d :: l) → Nrm l
  | [], _ => trivial
  | _ :: _, h => h
theorem val_inj : ∀ l m, Digs l → Digs m → Nrm l → Nrm m → val l = val m → l = m
  | [], m, _, _, _, hm, h => (val_zero_of_nrm m hm (by simp [val] at h; omega)).symm
  | d :: l, [], _, _, hl, _, h => val_zero_of_nrm _ hl (by simp [val] at *; omega)
  | d :: l, e :: m, dl, dm, hl, hm, h => by
    have h1 := dl.head; have h2 := dm.head
    simp only [val] at h
    obtain rfl : d = e := by omega
    rw [val_inj l m dl.tail dm.tail hl.tail hm.tail (by omega)]
theorem eq_wd {l : List Nat} {n : Nat} (dl : Digs l) (hl : Nrm l) (h : val l = n) : l = wd n :=
  val_inj _ _ dl (wd_digs n) hl (wd_nrm n) (by rw [wd_val, h])

theorem wd_zero : wd 0 = [] := rfl
theorem val_append (l m : List Nat) : val (l ++ m) = val l + 4294967296 ^ l.length * val m := by
  induction l with
  | nil => simp [val]
  | cons d l ih => simp only [List.cons_append, val, ih, List.length_cons, Nat.pow_succ]; grind
theorem val_lt {l : List Nat} (h : Digs l) : val l < 4294967296 ^ l.length := by
  induction l with
  | nil => simp [val]
  | cons d l ih =>
    have := ih h.tail; have := h.head
    simp only [val, List.length_cons, Nat.pow_succ]; omega
theorem val_snoc (l : List Nat) (d : Nat) : val (l ++ [d]) = val l + 4294967296 ^ l.length * d := by
  rw [val_append]; simp [val]
theorem Nrm.snoc : ∀ (l : List Nat) (d : Nat), Nrm (l ++ [d]) ↔ d ≠ 0
  | [], d => by simp [Nrm]
  | [e], d => by simp [Nrm]
  | e :: f :: l, d => by have := Nrm.snoc (f :: l) d; simpa [Nrm] using this
theorem val_ge_of_nrm (l : List Nat) (d : Nat) (hd : d ≠ 0) : 4294967296 ^ l.length ≤ val (l ++ [d]) := by
  rw [val_snoc]
  have : 4294967296 ^ l.length * 1 ≤ 4294967296 ^ l.length * d := Nat.mul_le_mul_left _ (by omega)
  omega
/-- how many words a number below a power takes -/
theorem wd_length {n k : Nat} (h : n < 4294967296 ^ k) : (wd n).length ≤ k := by
  rcases List.eq_nil_or_concat (wd n) with h0 | ⟨l, d, h0⟩
  · simp [h0]
  · rw [List.concat_eq_append] at h0
    have hn := wd_nrm n; rw [h0, Nrm.snoc] at hn
    have hv := wd_val n; rw [h0] at hv
    have := val_ge_of_nrm l d hn
    rw [h0, List.length_append, List.length_singleton]
    have h3 : 4294967296 ^ l.length < 4294967296 ^ k := by omega
    exact (Nat.pow_lt_pow_iff_right (by decide)).1 h3
end Gus
