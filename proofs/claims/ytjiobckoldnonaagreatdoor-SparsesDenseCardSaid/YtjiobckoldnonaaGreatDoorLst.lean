/- Lists of entries: rows as sorted lists. -/
namespace Gus
abbrev Ent := Nat × Rat
/-- the nonzero values of a row, in order -/
def rowOf (g : Nat → Rat) (M : Nat) : List Ent := ((List.range M).filter fun k => g k != 0).map fun k => (k, g k)
theorem mem_rowOf {g : Nat → Rat} {M k : Nat} {q : Rat} : (k, q) ∈ rowOf g M ↔ k < M ∧ g k ≠ 0 ∧ q = g k := by
  unfold rowOf
  simp only [List.mem_map, List.mem_filter, List.mem_range, Prod.mk.injEq, bne_iff_ne, ne_eq]
  constructor
  · rintro ⟨a, ⟨h1, h2⟩, rfl, rfl⟩; exact ⟨h1, h2, rfl⟩
  · rintro ⟨h1, h2, rfl⟩; exact ⟨k, ⟨h1, h2⟩, rfl, rfl⟩
def Asc (es : List Ent) : Prop := es.Pairwise fun a b => a.1 < b.1
theorem rowOf_asc (g : Nat → Rat) (M : Nat) : Asc (rowOf g M) := by
  unfold rowOf Asc
  rw [List.pairwise_map]
  exact List.Pairwise.filter _ List.pairwise_lt_range
theorem rowOf_length (g : Nat → Rat) (M : Nat) : (rowOf g M).length ≤ M := by
  unfold rowOf
  rw [List.length_map]
  exact Nat.le_trans (List.length_filter_le _ _) (by simp)
theorem asc_ext : ∀ {a b : List Ent}, Asc a → Asc b → (∀ x, x ∈ a ↔ x ∈ b) → a = b
  | [], [], _, _, _ => rfl
  | [], y :: b, _, _, h => by have := (h y).2 (.head _); cases this
  | x :: a, [], _, _, h => by have := (h x).1 (.head _); cases this
  | x :: a, y :: b, ha, hb, h => by
    have ha' := List.pairwise_cons.1 ha
    have hb' := List.pairwise_cons.1 hb
    have hxy : x = y := by
      rcases List.mem_cons.1 ((h x).1 (.head _)) with h1 | h1
      · exact h1
      · rcases List.mem_cons.1 ((h y).2 (.head _)) with h2 | h2
        · exact h2.symm
        · have := hb'.1 x h1; have := ha'.1 y h2; omega
    subst hxy
    rw [asc_ext ha'.2 hb'.2 fun z => ?_]
    constructor
    · intro hz
      rcases List.mem_cons.1 ((h z).1 (List.mem_cons_of_mem _ hz)) with h1 | h1
      · subst h1; have := ha'.1 z hz; omega
      · exact h1
    · intro hz
      rcases List.mem_cons.1 ((h z).2 (List.mem_cons_of_mem _ hz)) with h1 | h1
      · subst h1; have := hb'.1 z hz; omega
      · exact h1
/-- no column twice -/
def Onc (es : List Ent) : Prop := es.Pairwise fun a b => a.1 ≠ b.1
theorem onc_perm {a b : List Ent} (h : Onc a) (p : b.Perm a) : Onc b := (List.Perm.pairwise_iff (fun hxy => Ne.symm hxy) p).2 h
theorem asc_of {es : List Ent} (h1 : Onc es) (h2 : es.Pairwise fun a b => ¬ b.1 < a.1) : Asc es :=
  (h1.and h2).imp fun ⟨h1, h2⟩ => by omega
theorem onc_length : ∀ (M : Nat) (es : List Ent), Onc es → (∀ x ∈ es, x.1 < M) → es.length ≤ M
  | 0, es, _, h => by
    cases es with
    | nil => exact Nat.le_refl _
    | cons x es => exact absurd (h x (.head _)) (Nat.not_lt_zero _)
  | M + 1, es, h1, h => by
    have h2 := onc_length M (es.filter fun x => x.1 != M) (List.Pairwise.filter _ h1) (fun x hx => by
      have hx' := List.mem_filter.1 hx
      have := h x hx'.1
      have h3 : x.1 ≠ M := by simpa using hx'.2
      omega)
    have h3 : es.length ≤ (es.filter fun x => x.1 != M).length + 1 := by
      clear h2 h
      induction es with
      | nil => simp
      | cons x es ih =>
        have h1' := List.pairwise_cons.1 h1
        by_cases hx : x.1 = M
        · have hall : es.filter (fun x => x.1 != M) = es := by
            rw [List.filter_eq_self]
            intro y hy
            have := h1'.1 y hy
            simp only [bne_iff_ne, ne_eq]; omega
          rw [List.filter_cons_of_neg (by simp [hx]), hall, List.length_cons]
          exact Nat.le_refl _
        · have := ih h1'.2
          rw [List.filter_cons_of_pos (by simp [hx]), List.length_cons, List.length_cons]; omega
    omega
/-- the rows of a map whose entries outside lf have come -/
def Cnt (f : Nat → Nat → Rat) (N M : Nat) (lf : Nat → Nat → Bool) (Ls : Nat → List Ent) : Prop :=
  ∀ i, i < N → Onc (Ls i) ∧ ∀ k q, (k, q) ∈ Ls i ↔ (k < M ∧ f i k ≠ 0 ∧ q = f i k) ∧ lf i k = false
def updF (Ls : Nat → List Ent) (i : Nat) (es : List Ent) : Nat → List Ent := fun j => if j = i then es else Ls j
theorem updF_same (Ls : Nat → List Ent) (i : Nat) (es : List Ent) : updF Ls i es i = es := by unfold updF; rw [if_pos rfl]
theorem updF_ne (Ls : Nat → List Ent) {i j : Nat} (es : List Ent) (h : j ≠ i) : updF Ls i es j = Ls j := by unfold updF; rw [if_neg h]
theorem Cnt.start {f : Nat → Nat → Rat} {N M : Nat} {lf : Nat → Nat → Bool} (h : ∀ i k, i < N → k < M → f i k ≠ 0 → lf i k = true) : Cnt f N M lf (fun _ => []) := by
  intro i hi
  refine ⟨.nil, fun k q => ⟨fun h => absurd h List.not_mem_nil, fun ⟨⟨h1, h2, _⟩, h3⟩ => ?_⟩⟩
  rw [h i k hi h1 h2] at h3; cases h3
theorem Cnt.step {f : Nat → Nat → Rat} {N M : Nat} {lf lf' : Nat → Nat → Bool} {Ls : Nat → List Ent} (h : Cnt f N M lf Ls) {i0 k0 : Nat} (hi0 : i0 < N) (hk0 : k0 < M) (hf : f i0 k0 ≠ 0) (hl : lf i0 k0 = true)
    (hl' : ∀ i k, i < N → k < M → lf' i k = (lf i k && !(decide (i = i0 ∧ k = k0)))) : Cnt f N M lf' (updF Ls i0 (Ls i0 ++ [(k0, f i0 k0)])) := by
  intro i hi
  obtain ⟨h1, h2⟩ := h i hi
  by_cases he : i = i0
  · subst he
    rw [updF_same]
    constructor
    · unfold Onc
      rw [List.pairwise_append]
      refine ⟨h1, by simp, fun x hx y hy => ?_⟩
      have hy' : y = (k0, f i k0) := by simpa using hy
      subst hy'
      intro hxk
      have := (h2 x.1 x.2).1 hx
      rw [hxk] at this
      simp only at this
      rw [hl] at this; exact absurd this.2 (by decide)
    · intro k q
      rw [List.mem_append, List.mem_singleton, h2 k q, Prod.mk.injEq]
      constructor
      · rintro (⟨⟨a, b, c⟩, d⟩ | ⟨rfl, rfl⟩)
        · exact ⟨⟨a, b, c⟩, by rw [hl' i k hi a, d]; rfl⟩
        · exact ⟨⟨hk0, hf, rfl⟩, by rw [hl' i k hi hk0]; simp⟩
      · rintro ⟨⟨a, b, c⟩, d⟩
        by_cases hk : k = k0
        · subst hk; exact .inr ⟨rfl, c⟩
        · refine .inl ⟨⟨a, b, c⟩, ?_⟩
          rw [hl' i k hi a] at d
          simpa [hk] using d
  · rw [updF_ne _ _ he]
    refine ⟨h1, fun k q => ?_⟩
    rw [h2 k q]
    constructor
    · rintro ⟨⟨a, b, c⟩, d⟩
      exact ⟨⟨a, b, c⟩, by rw [hl' i k hi a, d]; rfl⟩
    · rintro ⟨⟨a, b, c⟩, d⟩
      refine ⟨⟨a, b, c⟩, ?_⟩
      rw [hl' i k hi a] at d
      simpa [he] using d
theorem Cnt.length {f : Nat → Nat → Rat} {N M : Nat} {lf : Nat → Nat → Bool} {Ls : Nat → List Ent} (h : Cnt f N M lf Ls) {i : Nat} (hi : i < N) : (Ls i).length ≤ M :=
  onc_length M _ (h i hi).1 fun x hx => ((h i hi).2 x.1 x.2).1 hx |>.1.1
/-- the row sorted -/
theorem Cnt.sorted {f : Nat → Nat → Rat} {N M : Nat} {lf : Nat → Nat → Bool} {Ls : Nat → List Ent} (h : Cnt f N M lf Ls) {i : Nat} (hi : i < N) (hl : ∀ k, k < M → lf i k = false) {es : List Ent} (hp : es.Perm (Ls i)) (hs : es.Pairwise fun a b => ¬ b.1 < a.1) : es = rowOf (f i) M := by
  refine asc_ext (asc_of (onc_perm (h i hi).1 hp) hs) (rowOf_asc _ _) fun ⟨k, q⟩ => ?_
  rw [hp.mem_iff, (h i hi).2 k q, mem_rowOf]
  constructor
  · exact fun ⟨a, _⟩ => a
  · exact fun a => ⟨a, hl k a.1⟩
end Gus
