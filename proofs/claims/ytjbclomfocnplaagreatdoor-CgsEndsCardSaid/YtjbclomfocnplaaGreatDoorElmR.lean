/- Proved here: parts of the proof: Elm Ela Elb Elc Eld Ele. Conditions: those that each theorem states. -/
import Derived.Test.YtjbclomfocnplaaGreatDoorCgmR
import Derived.Test.YtjbclomfocnplaaGreatDoorSameR
import Derived.Test.YtjbclomfocnplaaGreatDoorShelfVR
section
/- Gaussian elimination over the rationals, as plain arithmetic. -/
namespace Gus
abbrev Mx := Nat → Nat → Rat
theorem rdiv_self {a : Rat} (h : a ≠ 0) : a / a = 1 := by rw [Rat.div_def, Rat.mul_inv_cancel _ h]
def rowSwap (M : Mx) (i t : Nat) : Mx := fun r c => if r = i then M t c else if r = t then M i c else M r c
/-- row t divided by its element in column k, then subtracted from the others -/
def rowClear (M : Mx) (t k : Nat) : Mx := fun r c => if r = t then M t c / M t k else M r c - M r k * (M t c / M t k)
/-- the first row from i on, of d, whose element in column k is not zero -/
def pivF (M : Mx) (k : Nat) : Nat → Nat → Option Nat
  | 0, _ => none
  | d + 1, i => if M i k = 0 then pivF M k d (i + 1) else some i
theorem pivF_none {M : Mx} {k : Nat} : ∀ {d i : Nat}, pivF M k d i = none → ∀ r, i ≤ r → r < i + d → M r k = 0
  | 0, i, _, r, h1, h2 => by omega
  | d + 1, i, h, r, h1, h2 => by
    unfold pivF at h
    by_cases e : M i k = 0
    · rw [if_pos e] at h
      by_cases hr : r = i
      · subst hr; exact e
      · exact pivF_none h r (by omega) (by omega)
    · rw [if_neg e] at h; cases h
theorem pivF_some {M : Mx} {k : Nat} : ∀ {d i p : Nat}, pivF M k d i = some p → i ≤ p ∧ p < i + d ∧ M p k ≠ 0 ∧ ∀ r, i ≤ r → r < p → M r k = 0
  | 0, i, p, h => by cases h
  | d + 1, i, p, h => by
    unfold pivF at h
    by_cases e : M i k = 0
    · rw [if_pos e] at h
      obtain ⟨h1, h2, h3, h4⟩ := pivF_some h
      refine ⟨by omega, by omega, h3, fun r hr hp => ?_⟩
      by_cases hr2 : r = i
      · subst hr2; exact e
      · exact h4 r (by omega) hp
    · rw [if_neg e] at h
      injection h with h
      subst h
      exact ⟨Nat.le_refl _, by omega, e, fun r h1 h2 => by omega⟩
/-- a matrix under reduction: its elements, the pivots' columns, the factor of its determinant -/
structure El where
  M : Mx
  piv : List Nat
  det : Rat
def elStep (R : Nat) (s : El) (k : Nat) : El :=
  match pivF s.M k (R - s.piv.length) s.piv.length with
  | none => s
  | some i => ⟨rowClear (rowSwap s.M i s.piv.length) s.piv.length k, s.piv ++ [k], (if i = s.piv.length then s.det else -s.det) * rowSwap s.M i s.piv.length s.piv.length k⟩
def elim (R : Nat) (M : Mx) : Nat → El
  | 0 => ⟨M, [], 1⟩
  | k + 1 => elStep R (elim R M k) k
/-- y is in the kernel of the first R rows, m columns -/
def Ker (R m : Nat) (M : Mx) (y : Nat → Rat) : Prop := ∀ r, r < R → sm (fun c => M r c * y c) m = 0
theorem ker_swap {R m i t : Nat} {M : Mx} {y : Nat → Rat} (hi : i < R) (ht : t < R) : Ker R m (rowSwap M i t) y ↔ Ker R m M y := by
  have key : ∀ M : Mx, Ker R m M y → Ker R m (rowSwap M i t) y := fun M h r hr => by
    unfold rowSwap
    by_cases h1 : r = i
    · simp only [if_pos h1]; exact h t ht
    · simp only [if_neg h1]
      by_cases h2 : r = t
      · simp only [if_pos h2]; exact h i hi
      · simp only [if_neg h2]; exact h r hr
  refine ⟨fun h => ?_, key M⟩
  have h2 := key _ h
  have e : rowSwap (rowSwap M i t) i t = M := by
    funext r c
    unfold rowSwap
    by_cases h1 : r = i
    · subst h1
      by_cases h3 : t = r
      · subst h3; simp
      · simp [h3]
    · by_cases h3 : r = t
      · subst h3; simp [h1]
      · simp [h1, h3]
  rwa [e] at h2
theorem ker_clear {R m t k : Nat} {M : Mx} {y : Nat → Rat} (ht : t < R) (hp : M t k ≠ 0) : Ker R m (rowClear M t k) y ↔ Ker R m M y := by
  have e1 : sm (fun c => rowClear M t k t c * y c) m = (1 / M t k) * sm (fun c => M t c * y c) m := by
    rw [← sm_mul]
    refine sm_congr m fun c _ => ?_
    unfold rowClear; rw [if_pos rfl]; grind
  have e2 : ∀ r, r ≠ t → sm (fun c => rowClear M t k r c * y c) m = sm (fun c => M r c * y c) m + -(M r k / M t k) * sm (fun c => M t c * y c) m := fun r hr => by
    rw [← sm_mul, ← sm_add]
    refine sm_congr m fun c _ => ?_
    unfold rowClear; rw [if_neg hr]; grind
  constructor
  · intro h
    have h1 := h t ht
    rw [e1] at h1
    have h2 : sm (fun c => M t c * y c) m = 0 := by
      have : M t k * (1 / M t k * sm (fun c => M t c * y c) m) = 0 := by rw [h1, Rat.mul_zero]
      grind
    intro r hr
    by_cases e : r = t
    · subst e; exact h2
    · have h3 := h r hr
      rw [e2 r e, h2] at h3
      grind
  · intro h r hr
    by_cases e : r = t
    · subst e; rw [e1, h r ht]; grind
    · rw [e2 r e, h r hr, h t ht]; grind
/-- what holds behind the columns below k -/
structure Red (R m k : Nat) (M0 : Mx) (s : El) : Prop where
  len : s.piv.length ≤ R
  asc : s.piv.Pairwise (· < ·)
  lt : ∀ p ∈ s.piv, p < k
  one : ∀ p r, p < s.piv.length → r < R → s.M r (s.piv.getD p 0) = if r = p then 1 else 0
  zero : ∀ r c, s.piv.length ≤ r → r < R → c < k → s.M r c = 0
  left : ∀ p c, p < s.piv.length → c < s.piv.getD p 0 → s.M p c = 0
  ker : ∀ y, Ker R m s.M y ↔ Ker R m M0 y
theorem getD_snoc_lt {l : List Nat} {k p : Nat} (h : p < l.length) : (l ++ [k]).getD p 0 = l.getD p 0 := by
  simp only [List.getD_eq_getElem?_getD, List.getElem?_append_left h]
theorem getD_snoc_eq {l : List Nat} {k : Nat} : (l ++ [k]).getD l.length 0 = k := by
  simp [List.getD_eq_getElem?_getD]
theorem getD_mem {l : List Nat} {p : Nat} (h : p < l.length) : l.getD p 0 ∈ l := by
  rw [List.getD_eq_getElem?_getD, List.getElem?_eq_getElem h]; exact List.getElem_mem _
theorem elim_red (R m : Nat) (M : Mx) : ∀ k, Red R m k M (elim R M k)
  | 0 => ⟨Nat.zero_le _, .nil, fun p h => (nomatch h), fun p r h => absurd h (Nat.not_lt_zero _), fun r c _ _ h => absurd h (Nat.not_lt_zero _), fun p c h => absurd h (Nat.not_lt_zero _), fun y => Iff.rfl⟩
  | k + 1 => by
    have ih := elim_red R m M k
    show Red R m (k + 1) M (elStep R (elim R M k) k)
    generalize elim R M k = s at *
    obtain ⟨N, pv, dt⟩ := s
    obtain ⟨hl, ha, hlt, h1, h0, hle, hk⟩ := ih
    simp only at hl ha hlt h1 h0 hle hk
    unfold elStep
    simp only
    cases hp : pivF N k (R - pv.length) pv.length with
    | none =>
      have hz := pivF_none hp
      refine ⟨hl, ha, fun p h => by have := hlt p h; omega, h1, fun r c hr hR hc => ?_, hle, hk⟩
      by_cases e : c = k
      · subst e; exact hz r hr (by omega)
      · exact h0 r c hr hR (by omega)
    | some i =>
      obtain ⟨hi1, hi2, hi3, hi4⟩ := pivF_some hp
      have hiR : i < R := by omega
      have htR : pv.length < R := by omega
      have hpt : rowSwap N i pv.length pv.length k = N i k := by
        unfold rowSwap
        by_cases e : pv.length = i
        · rw [if_pos e, e]
        · rw [if_neg e, if_pos rfl]
      have hpv : rowSwap N i pv.length pv.length k ≠ 0 := by rw [hpt]; exact hi3
      -- the swapped rows below k
      have hsw : ∀ r c, r < pv.length → rowSwap N i pv.length r c = N r c := fun r c hr => by
        unfold rowSwap; rw [if_neg (by omega), if_neg (by omega)]
      have hs0 : ∀ r c, pv.length ≤ r → r < R → c < k → rowSwap N i pv.length r c = 0 := fun r c hr hR hc => by
        unfold rowSwap
        split
        · exact h0 _ _ (Nat.le_refl _) htR hc
        · split
          · exact h0 _ _ hi1 hiR hc
          · exact h0 _ _ hr hR hc
      refine ⟨by simp only [List.length_append, List.length_singleton]; omega, ?_, fun p h => ?_, fun p r h hr => ?_, fun r c hr hR hc => ?_, fun p c h hc => ?_, fun y => ?_⟩
      · rw [List.pairwise_append]
        exact ⟨ha, List.pairwise_singleton _ _, fun a h b hb => by
          simp only [List.mem_singleton] at hb; subst hb; exact hlt a h⟩
      · rw [List.mem_append, List.mem_singleton] at h
        rcases h with h | rfl
        · have := hlt p h; omega
        · omega
      · rw [List.length_append, List.length_singleton] at h
        show rowClear (rowSwap N i pv.length) pv.length k r ((pv ++ [k]).getD p 0) = _
        by_cases hpe : p = pv.length
        · subst hpe
          rw [getD_snoc_eq]
          unfold rowClear
          by_cases e : r = pv.length
          · rw [if_pos e, if_pos e]; exact rdiv_self hpv
          · rw [if_neg e, if_neg e, rdiv_self hpv]; grind
        · have hpl : p < pv.length := by omega
          rw [getD_snoc_lt hpl]
          have hc := hlt _ (getD_mem hpl)
          have ht0 := hs0 pv.length (pv.getD p 0) (Nat.le_refl _) htR hc
          unfold rowClear
          by_cases e : r = pv.length
          · rw [if_pos e, if_neg (by omega), ht0]; grind
          · rw [if_neg e, ht0]
            by_cases hrl : r < pv.length
            · rw [hsw r _ hrl, h1 p r hpl hr]; grind
            · rw [hs0 r _ (by omega) hr hc, if_neg (by omega)]; grind
      · rw [List.length_append, List.length_singleton] at hr
        show rowClear (rowSwap N i pv.length) pv.length k r c = 0
        unfold rowClear
        rw [if_neg (by omega)]
        by_cases e : c = k
        · subst e
          rw [rdiv_self hpv]; grind
        · rw [hs0 r c (by omega) hR (by omega), hs0 pv.length c (Nat.le_refl _) htR (by omega)]; grind
      · rw [List.length_append, List.length_singleton] at h
        show rowClear (rowSwap N i pv.length) pv.length k p c = 0
        by_cases hpe : p = pv.length
        · subst hpe
          rw [getD_snoc_eq] at hc
          unfold rowClear
          rw [if_pos rfl, hs0 _ _ (Nat.le_refl _) htR hc]; grind
        · have hpl : p < pv.length := by omega
          rw [getD_snoc_lt hpl] at hc
          have hck := hlt _ (getD_mem hpl)
          unfold rowClear
          rw [if_neg hpe, hsw p c hpl, hle p c hpl hc, hs0 pv.length c (Nat.le_refl _) htR (by omega)]; grind
      · show Ker R m (rowClear (rowSwap N i pv.length) pv.length k) y ↔ _
        rw [ker_clear htR hpv, ker_swap hiR htR]; exact hk y
theorem range_getD {n p : Nat} (h : p < n) : (List.range n).getD p 0 = p := by
  rw [List.getD_eq_getElem?_getD, List.getElem?_range h]; rfl
/-- where only zero is in the kernel, each column has its pivot -/
theorem elim_range {R n : Nat} {M : Mx} (hR : n ≤ R) (h : ∀ y, Ker R n M y → ∀ i, i < n → y i = 0) : ∀ k, k ≤ n → (elim R M k).piv = List.range k
  | 0, _ => rfl
  | k + 1, hk => by
    have ih := elim_range hR h k (by omega)
    have hr := elim_red R n M k
    show (elStep R (elim R M k) k).piv = _
    generalize elim R M k = s at *
    unfold elStep
    cases hp : pivF s.M k (R - s.piv.length) s.piv.length with
    | some i => simp only; rw [ih, List.range_succ]
    | none =>
      exfalso
      have hl : s.piv.length = k := by rw [ih, List.length_range]
      have hz := pivF_none hp
      have h1 := h (fun c => if c = k then 1 else if c < k then - s.M c k else 0) ((hr.ker _).1 fun r hrR => by
        by_cases hrk : r < k
        · have e : sm (fun c => s.M r c * (if c = k then 1 else if c < k then - s.M c k else 0)) n = sm (fun c => (if c = r then - s.M r k else 0) + (if c = k then s.M r k else 0)) n := sm_congr n fun c hc => by
            by_cases h1 : c = k
            · subst h1; rw [if_pos rfl, if_neg (by omega), if_pos rfl]; grind
            · rw [if_neg h1, if_neg h1]
              by_cases h2 : c < k
              · have h3 := hr.one c r (by omega) hrR
                rw [ih, range_getD h2] at h3
                rw [if_pos h2, h3]
                by_cases h4 : r = c
                · subst h4; rw [if_pos rfl, if_pos rfl]; grind
                · rw [if_neg h4, if_neg (Ne.symm h4)]; grind
              · rw [if_neg h2, if_neg (by omega)]; grind
          rw [e, sm_add, sm_one (k := r) (by omega) (fun i _ hi => if_neg hi), if_pos rfl, sm_one (k := k) (by omega) (fun i _ hi => if_neg hi), if_pos rfl]
          grind
        · rw [sm_congr n (G := fun _ => 0) fun c hc => ?_, sm_zero]
          by_cases h1 : c = k
          · subst h1; rw [hz r (by omega) (by omega)]; grind
          · rw [if_neg h1]
            by_cases h2 : c < k
            · rw [hr.zero r c (by omega) hrR h2]; grind
            · rw [if_neg h2]; grind) k (by omega)
      rw [if_pos rfl] at h1
      exact absurd h1 (by decide +kernel)
/-- a matrix with a column behind it -/
def aug (n : Nat) (A : Mx) (b : Nat → Rat) : Mx := fun r c => if c < n then A r c else b r
theorem solve_full {n : Nat} {A : Mx} {b : Nat → Rat} (h : ∀ y, Ker n n A y → ∀ i, i < n → y i = 0) :
    (elim n (aug n A b) n).piv = List.range n ∧ ∀ r, r < n → sm (fun c => A r c * (elim n (aug n A b) n).M c n) n = b r := by
  have e0 : ∀ y, Ker n n (aug n A b) y ↔ Ker n n A y := fun y => by
    have e : ∀ r, sm (fun c => aug n A b r c * y c) n = sm (fun c => A r c * y c) n := fun r => sm_congr n fun c hc => by unfold aug; rw [if_pos hc]
    exact ⟨fun h r hr => by rw [← e]; exact h r hr, fun h r hr => by rw [e]; exact h r hr⟩
  have hp := elim_range (R := n) (Nat.le_refl n) (M := aug n A b) (fun y hy => h y ((e0 y).1 hy)) n (Nat.le_refl _)
  refine ⟨hp, ?_⟩
  have hr := elim_red n (n + 1) (aug n A b) n
  generalize elim n (aug n A b) n = s at *
  have h1 := (hr.ker (fun c => if c < n then s.M c n else -1)).1 fun r hrn => by
    rw [sm, sm_congr n (G := fun c => if c = r then s.M r n else 0) fun c hc => ?_, sm_one (k := r) hrn (fun i _ hi => if_neg hi), if_pos rfl]
    · show s.M r n + s.M r n * (if n < n then s.M n n else -1) = 0
      rw [if_neg (Nat.lt_irrefl n)]; grind
    · show s.M r c * (if c < n then s.M c n else -1) = _
      rw [if_pos hc]
      have h3 := hr.one c r (by rw [hp, List.length_range]; exact hc) hrn
      rw [hp, range_getD hc] at h3
      rw [h3]
      by_cases h4 : r = c
      · subst h4; rw [if_pos rfl, if_pos rfl]; grind
      · rw [if_neg h4, if_neg (Ne.symm h4)]; grind
  intro r hrn
  have h2 := h1 r hrn
  rw [sm, sm_congr n (G := fun c => A r c * s.M c n) fun c hc => by
    show (if c < n then A r c else b r) * (if c < n then s.M c n else -1) = _
    rw [if_pos hc, if_pos hc]] at h2
  have h3 : sm (fun c => A r c * s.M c n) n + (if n < n then A r n else b r) * (if n < n then s.M n n else -1) = 0 := h2
  rw [if_neg (Nat.lt_irrefl n), if_neg (Nat.lt_irrefl n)] at h3
  grind
end Gus
end
section
/- elims: the closures of clear. -/
namespace Gus
open Go Go.RowKit Go.Proofs
theorem Bx.ne_type {w : World} {b b' : Nat} {T T' : TypeId} {cs cs' : List Value} (h : Bx w b T cs) (h' : Bx w b' T' cs') (hT : T ≠ T') : ¬ b = b' := by
  rintro rfl
  have h6 : w.heap[b]? = some (Obj.cells cs.toArray T (0, 0)) := h
  have h7 : w.heap[b]? = some (Obj.cells cs'.toArray T' (0, 0)) := h'
  rw [h6] at h7
  injection h7 with h7
  injection h7 with _ h8
  exact hT h8
theorem Gro.bel {w W : World} (hb : Below w.heap.size w W) (r : Option Nat) : w.grownBy W r := ⟨hb.os, hb.tape, hb.output, hb.size, fun k hk _ => hb.block k hk⟩
/-- the cells of an element whose parts are named -/
theorem VBx.eltc {w : World} {g m k : Nat} {F : Nat → Rat} {A1 A4 : Int} {A2 A5 : ByteArray} {A3 : Bool} (h : VBx w g (vl m F)) (hk : k < m) (hq : fcs (F k) = [.int .u64 A1, .string A2, .bool A3, .int .u64 A4, .string A5]) :
    w.cell? ⟨g, k * 5, none⟩ = some (.int .u64 A1) ∧ w.cell? ⟨g, k * 5 + 1, none⟩ = some (.string A2) ∧ w.cell? ⟨g, k * 5 + 2, none⟩ = some (.bool A3) ∧ w.cell? ⟨g, k * 5 + 3, none⟩ = some (.int .u64 A4) ∧ w.cell? ⟨g, k * 5 + 4, none⟩ = some (.string A5) := by
  have hc := fun j hj => (h.cell (k * 5 + j)).trans (fcl_at (vl m F) k j (by rw [vl_length]; exact hk) hj)
  rw [vl_getD F hk, hq] at hc
  exact ⟨hc 0 (by decide), hc 1 (by decide), hc 2 (by decide), hc 3 (by decide), hc 4 (by decide)⟩
set_option maxRecDepth 100000 in
set_option maxHeartbeats 1000000 in
theorem clr1_any {i j : Nat} (W : World) (C : Nat) (k : Int) (x p : Rat) (hC : Bx W C 52 (fcs p)) (hp : p ≠ 0) (hx : SzK i x) (hq : SzK j p) (hcap : i + j < 17592186044416) :
    Calls Tryz.prog 249 #[.int .i64 k, fracV x, .pointer (some ⟨C, 0, none⟩)] W fun e w' => e = .returned (fracV (x / p)) ∧ Below W.heap.size W w' := by
  have c1 := fdiv_any x p hp hx hq hcap
  have hin := In.self W
  obtain ⟨r, hr⟩ : ∃ r, r = x / p := ⟨_, rfl⟩
  rw [← hr] at c1 ⊢
  obtain ⟨A1, A2, A3, A4, A5, hA, hA'⟩ : ∃ A1 A2 A3 A4 A5, fracV x = .agg #[.int .u64 A1, .string A2, .bool A3, .int .u64 A4, .string A5] ∧ fcs x = [.int .u64 A1, .string A2, .bool A3, .int .u64 A4, .string A5] := ⟨_, _, _, _, _, rfl, rfl⟩
  obtain ⟨B1, B2, B3, B4, B5, hB, hB'⟩ : ∃ A1 A2 A3 A4 A5, fracV p = .agg #[.int .u64 A1, .string A2, .bool A3, .int .u64 A4, .string A5] ∧ fcs p = [.int .u64 A1, .string A2, .bool A3, .int .u64 A4, .string A5] := ⟨_, _, _, _, _, rfl, rfl⟩
  obtain ⟨P1, P2, P3, P4, P5, hP, hP'⟩ : ∃ A1 A2 A3 A4 A5, fracV r = .agg #[.int .u64 A1, .string A2, .bool A3, .int .u64 A4, .string A5] ∧ fcs r = [.int .u64 A1, .string A2, .bool A3, .int .u64 A4, .string A5] := ⟨_, _, _, _, _, rfl, rfl⟩
  rw [hB'] at hC
  rw [hA, hB, hP] at c1
  rw [hA, hP]
  clear hr hx hq hp hcap hA hB hP hA' hB' hP'
  go_enter Tryz.func249, Tryz.ntmps249
  go_upto_region 1 with fail
  ((obtain ⟨X, hXX⟩ : ∃ z, z = W.heap.size := ⟨_, rfl⟩); (have bV0 := ((Bx.new_at W #[.int .u64 A1, .string A2, .bool A3, .int .u64 A4, .string A5] 52 (n := X) (by simp [hXX])).alloc (.cells #[.int .u64 0, .string ⟨#[]⟩, .bool false, .int .u64 0, .string ⟨#[]⟩] 52))); (have bV1 := (Bx.new_at (W.alloc (.cells #[.int .u64 A1, .string A2, .bool A3, .int .u64 A4, .string A5] 52)) #[.int .u64 0, .string ⟨#[]⟩, .bool false, .int .u64 0, .string ⟨#[]⟩] 52 (n := X + 1) (by simp [hXX]))); (have hV := (((In.self W).alloc (.cells #[.int .u64 A1, .string A2, .bool A3, .int .u64 A4, .string A5] 52)).alloc (.cells #[.int .u64 0, .string ⟨#[]⟩, .bool false, .int .u64 0, .string ⟨#[]⟩] 52))); (replace hC := ((hC.alloc (.cells #[.int .u64 A1, .string A2, .bool A3, .int .u64 A4, .string A5] 52)).alloc (.cells #[.int .u64 0, .string ⟨#[]⟩, .bool false, .int .u64 0, .string ⟨#[]⟩] 52))); (rw [← hXX] at hV ⊢); (have HX := Lib.hid hXX); (clear hXX); (generalize (W.alloc (.cells #[.int .u64 A1, .string A2, .bool A3, .int .u64 A4, .string A5] 52)).alloc (.cells #[.int .u64 0, .string ⟨#[]⟩, .bool false, .int .u64 0, .string ⟨#[]⟩] 52) = V at *))
  rw [HX.out] at hV
  have bX := bV0
  clear bV0
  skip
  ((have x0 := bX.c0); (have x1 := bX.c1); (have x2 := bX.c2); (have x3 := bX.c3); (have x4 := bX.c4); (have xl := bX.lt))
  ((have z0 := hC.c0); (have z1 := hC.c1); (have z2 := hC.c2); (have z3 := hC.c3); (have z4 := hC.c4); (have zl := hC.lt))
  ((go_wp2_with fail); (((with_reducible refine (c1 _).mono ?_))); (rintro e wc1 ⟨rfl, hb⟩); (clear x0 x1 x2 x3 x4 xl z0 z1 z2 z3 z4 zl c1); (replace hV := hV.call hb); (replace bX := bX.call hb); (replace bV1 := bV1.call hb); (replace hC := hC.call hb); (clear hb))
  ((have x0 := bX.c0); (have x1 := bX.c1); (have x2 := bX.c2); (have x3 := bX.c3); (have x4 := bX.c4); (have xl := bX.lt))
  have hn1 : X ≠ X + 1 := by omega
  skip
  ((clear x0 x1 x2 x3 x4 xl hC); (have p0 := bX.c0); (have p1 := bX.c1); (have p2 := bX.c2); (have p3 := bX.c3); (have p4 := bX.c4); (have pf0 := bX.frozen 0); (have pf1 := bX.frozen 1); (have pf2 := bX.frozen 2); (have pf3 := bX.frozen 3); (have pf4 := bX.frozen 4); (have pl := bX.lt); (have KS := Lib.hid (((((bX.set 0 (.int .u64 P1)).set 1 (.string P2)).set 2 (.bool P3)).set 3 (.int .u64 P4)).set 4 (.string P5))); (have KhV := Lib.hid (((((hV.setCell (p := ⟨X, 0, none⟩) (Nat.le_of_eq HX.out.symm) (.int .u64 P1)).setCell (p := ⟨X, 1, none⟩) (Nat.le_of_eq HX.out.symm) (.string P2)).setCell (p := ⟨X, 2, none⟩) (Nat.le_of_eq HX.out.symm) (.bool P3)).setCell (p := ⟨X, 3, none⟩) (Nat.le_of_eq HX.out.symm) (.int .u64 P4)).setCell (p := ⟨X, 4, none⟩) (Nat.le_of_eq HX.out.symm) (.string P5))); (have KbV1 := Lib.hid (Bx.other (a := ⟨X, 4, none⟩) (Bx.other (a := ⟨X, 3, none⟩) (Bx.other (a := ⟨X, 2, none⟩) (Bx.other (a := ⟨X, 1, none⟩) (Bx.other (a := ⟨X, 0, none⟩) bV1 hn1 (.int .u64 P1)) hn1 (.string P2)) hn1 (.bool P3)) hn1 (.int .u64 P4)) hn1 (.string P5))); (clear bX hV bV1); (go_upto_region 2 with fail); (have bX := KS.out); (simp only [List.set] at bX); (have hV := KhV.out); (have bV1 := KbV1.out); (clear KS pl KhV KbV1 p0 p1 p2 p3 p4 pf0 pf1 pf2 pf3 pf4); (generalize ((((wc1.setCell ⟨X, 0, none⟩ (.int .u64 P1)).setCell ⟨X, 1, none⟩ (.string P2)).setCell ⟨X, 2, none⟩ (.bool P3)).setCell ⟨X, 3, none⟩ (.int .u64 P4)).setCell ⟨X, 4, none⟩ (.string P5) = W3 at *))
  have bq := bV1
  have hin := hV
  clear bV1 hV
  ((have x0 := bX.c0); (have x1 := bX.c1); (have x2 := bX.c2); (have x3 := bX.c3); (have x4 := bX.c4); (have xl := bX.lt))
  ((have q0 := bq.c0); (have q1 := bq.c1); (have q2 := bq.c2); (have q3 := bq.c3); (have q4 := bq.c4); (have f0 := bq.frozen 0); (have f1 := bq.frozen 1); (have f2 := bq.frozen 2); (have f3 := bq.frozen 3); (have f4 := bq.frozen 4); (have ql := bq.lt); (have K1 := Lib.hid ((((((bq.set 0 (.int .u64 P1)).set 1 (.string P2)).set 2 (.bool P3)).set 3 (.int .u64 P4)).set 4 (.string P5)))); (have K2 := Lib.hid ((((((hin.setCell (p := ⟨(X + 1), 0, none⟩) (by first | (simp; done) | (have := HX.out; simp; omega)) (.int .u64 P1)).setCell (p := ⟨(X + 1), 1, none⟩) (by first | (simp; done) | (have := HX.out; simp; omega)) (.string P2)).setCell (p := ⟨(X + 1), 2, none⟩) (by first | (simp; done) | (have := HX.out; simp; omega)) (.bool P3)).setCell (p := ⟨(X + 1), 3, none⟩) (by first | (simp; done) | (have := HX.out; simp; omega)) (.int .u64 P4)).setCell (p := ⟨(X + 1), 4, none⟩) (by first | (simp; done) | (have := HX.out; simp; omega)) (.string P5)))); (clear bq hin); (go_wp2_with fail); (have k1 := K1.out); (have k2 := K2.out); (clear q0 q1 q2 q3 q4 f0 f1 f2 f3 f4 ql K1 K2); (generalize ((((W3.setCell ⟨(X + 1), 0, none⟩ (.int .u64 P1)).setCell ⟨(X + 1), 1, none⟩ (.string P2)).setCell ⟨(X + 1), 2, none⟩ (.bool P3)).setCell ⟨(X + 1), 3, none⟩ (.int .u64 P4)).setCell ⟨(X + 1), 4, none⟩ (.string P5) = W5 at *); (have e0 : W5.cell? ⟨(X + 1), 0, none⟩ = some (.int .u64 P1) := k1.cell 0); (have e1 : W5.cell? ⟨(X + 1), 1, none⟩ = some (.string P2) := k1.cell 1); (have e2 : W5.cell? ⟨(X + 1), 2, none⟩ = some (.bool P3) := k1.cell 2); (have e3 : W5.cell? ⟨(X + 1), 3, none⟩ = some (.int .u64 P4) := k1.cell 3); (have e4 : W5.cell? ⟨(X + 1), 4, none⟩ = some (.string P5) := k1.cell 4); (have hz := k2.bel); (refine bodyPost_ret (v := .agg #[.int .u64 P1, .string P2, .bool P3, .int .u64 P4, .string P5]) ?_ rfl ⟨rfl, hz⟩); (simp [results, Tryz.results249, go_sem, e0, e1, e2, e3, e4]))
set_option maxRecDepth 100000 in
set_option maxHeartbeats 1000000 in
theorem clr2_any {i j l : Nat} (W : World) (C wb tb p rb g R rc m k t : Nat) (dl cs : List Value) (c x : Rat) (y : Nat → Rat) (hC : Bx W C 52 (fcs c)) (hw : Bx W wb 186 [.pointer (some ⟨p, 0, none⟩)]) (ht : Bx W tb 3 [.int .i64 (t : Nat)])
    (hp : Bx W p 191 (.slice (some ⟨rb, 0, none⟩) R rc :: dl)) (hr : Bx W rb 32 cs) (htR : t < R) (hct : cs[t]? = some (.slice (some ⟨g, 0, none⟩) m m)) (hv : VBx W g (vl m y)) (hk : k < m)
    (hc : SzK i c) (hx : SzK j x) (hy : SzK l (y k)) (hcap : i + j + l + 1 < 17592186044416) :
    Calls Tryz.prog 250 #[.int .i64 k, fracV x, .pointer (some ⟨C, 0, none⟩), .pointer (some ⟨wb, 0, none⟩), .pointer (some ⟨tb, 0, none⟩)] W fun e w' => e = .returned (fracV (x - c * y k)) ∧ Below W.heap.size W w' := by
  have c1 := fmul_any c (y k) hc hy (by omega)
  have c2 := fsub_any x (c * y k) hx (hc.mul hy) (by omega)
  obtain ⟨u, hu⟩ : ∃ u, u = y k := ⟨_, rfl⟩
  obtain ⟨D1, D2, D3, D4, D5, hD, hD'⟩ : ∃ A1 A2 A3 A4 A5, fracV u = .agg #[.int .u64 A1, .string A2, .bool A3, .int .u64 A4, .string A5] ∧ fcs u = [.int .u64 A1, .string A2, .bool A3, .int .u64 A4, .string A5] := ⟨_, _, _, _, _, rfl, rfl⟩
  obtain ⟨d0, d1, d2, d3, d4⟩ := hv.eltc hk (by rw [← hu]; exact hD')
  rw [← hu] at c1 c2 ⊢
  obtain ⟨mm, hm⟩ : ∃ m, m = c * u := ⟨_, rfl⟩
  rw [← hm] at c1 c2 ⊢
  obtain ⟨r, hr9⟩ : ∃ r, r = x - mm := ⟨_, rfl⟩
  rw [← hr9] at c2 ⊢
  obtain ⟨P1, P2, P3, P4, P5, hP, hP'⟩ : ∃ A1 A2 A3 A4 A5, fracV c = .agg #[.int .u64 A1, .string A2, .bool A3, .int .u64 A4, .string A5] ∧ fcs c = [.int .u64 A1, .string A2, .bool A3, .int .u64 A4, .string A5] := ⟨_, _, _, _, _, rfl, rfl⟩
  obtain ⟨B1, B2, B3, B4, B5, hB, hB'⟩ : ∃ A1 A2 A3 A4 A5, fracV x = .agg #[.int .u64 A1, .string A2, .bool A3, .int .u64 A4, .string A5] ∧ fcs x = [.int .u64 A1, .string A2, .bool A3, .int .u64 A4, .string A5] := ⟨_, _, _, _, _, rfl, rfl⟩
  obtain ⟨M1, M2, M3, M4, M5, hM, hM'⟩ : ∃ A1 A2 A3 A4 A5, fracV mm = .agg #[.int .u64 A1, .string A2, .bool A3, .int .u64 A4, .string A5] ∧ fcs mm = [.int .u64 A1, .string A2, .bool A3, .int .u64 A4, .string A5] := ⟨_, _, _, _, _, rfl, rfl⟩
  obtain ⟨A1, A2, A3, A4, A5, hA, hA'⟩ : ∃ A1 A2 A3 A4 A5, fracV r = .agg #[.int .u64 A1, .string A2, .bool A3, .int .u64 A4, .string A5] ∧ fcs r = [.int .u64 A1, .string A2, .bool A3, .int .u64 A4, .string A5] := ⟨_, _, _, _, _, rfl, rfl⟩
  rw [hP'] at hC
  rw [hP, hD, hM] at c1
  rw [hB, hM, hA] at c2
  rw [hB, hA]
  have htc : W.cell? ⟨rb, t, none⟩ = some (.slice (some ⟨g, 0, none⟩) m m) := (hr.cell t).trans hct
  have htI : (t : Int) < R := by omega
  have ht0 : (0 : Int) ≤ t := by omega
  have hkI : (k : Int) < m := by omega
  have hk0 : (0 : Int) ≤ k := by omega
  have hgl := hv.lt
  have hrl := hr.lt
  have hpl := hp.lt
  have hwl := hw.lt
  have htl := ht.lt
  have p0 := hp.c0
  have w0 := hw.c0
  have t0 := ht.c0
  have hin := In.self W
  clear hu hm hr9 hc hx hy hcap hP hB hD hM hA hP' hB' hM' hA' hD' hct hr hv ht hw hp
  go_enter Tryz.func250, Tryz.ntmps250
  go_upto_region 1 with fail
  ((obtain ⟨X, hXX⟩ : ∃ z, z = W.heap.size := ⟨_, rfl⟩); (have bV0 := ((Bx.new_at W #[.int .u64 B1, .string B2, .bool B3, .int .u64 B4, .string B5] 52 (n := X) (by simp [hXX])).alloc (.cells #[.int .u64 0, .string ⟨#[]⟩, .bool false, .int .u64 0, .string ⟨#[]⟩] 52))); (have bV1 := (Bx.new_at (W.alloc (.cells #[.int .u64 B1, .string B2, .bool B3, .int .u64 B4, .string B5] 52)) #[.int .u64 0, .string ⟨#[]⟩, .bool false, .int .u64 0, .string ⟨#[]⟩] 52 (n := X + 1) (by simp [hXX]))); (have hV := (((In.self W).alloc (.cells #[.int .u64 B1, .string B2, .bool B3, .int .u64 B4, .string B5] 52)).alloc (.cells #[.int .u64 0, .string ⟨#[]⟩, .bool false, .int .u64 0, .string ⟨#[]⟩] 52))); (replace hC := ((hC.alloc (.cells #[.int .u64 B1, .string B2, .bool B3, .int .u64 B4, .string B5] 52)).alloc (.cells #[.int .u64 0, .string ⟨#[]⟩, .bool false, .int .u64 0, .string ⟨#[]⟩] 52))); (rw [← hXX] at hV ⊢); (have HX := Lib.hid hXX); (clear hXX); (generalize (W.alloc (.cells #[.int .u64 B1, .string B2, .bool B3, .int .u64 B4, .string B5] 52)).alloc (.cells #[.int .u64 0, .string ⟨#[]⟩, .bool false, .int .u64 0, .string ⟨#[]⟩] 52) = V at *))
  rw [HX.out] at hV
  have hcc := hV.cell
  rw [← hcc _ _ hgl] at d0 d1 d2 d3 d4
  rw [← hcc _ _ hrl] at htc
  rw [← hcc _ _ hpl] at p0
  rw [← hcc _ _ hwl] at w0
  rw [← hcc _ _ htl] at t0
  have hsz := hV.siz
  replace hgl := Nat.lt_of_lt_of_le hgl hsz
  replace hrl := Nat.lt_of_lt_of_le hrl hsz
  replace hpl := Nat.lt_of_lt_of_le hpl hsz
  replace hwl := Nat.lt_of_lt_of_le hwl hsz
  replace htl := Nat.lt_of_lt_of_le htl hsz
  clear hcc hsz hin
  have x0 := bV0.c0; have x1 := bV0.c1; have x2 := bV0.c2; have x3 := bV0.c3; have x4 := bV0.c4; have xl := bV0.lt
  have z0 := hC.c0; have z1 := hC.c1; have z2 := hC.c2; have z3 := hC.c3; have z4 := hC.c4; have zl := hC.lt
  have h := In.self V
  have hc := h.cell
  refine wp_region_flow 14 (by kernel_rfl) (by kernel_rfl) (fun _ _ d _ _ h => by cases d <;> exact h) ?_; simp only [List.take_succ_cons, List.take_zero, List.drop_succ_cons, List.drop_zero]; simp only [putAll, Act.put, List.setIfInBounds_toArray, List.set]; (try simp only [Nat.reduceAdd]); (try simp only [Nat.zero_add]); (repeat (first | ((with_reducible refine flow_float (v := ?_) ?_ ?_ ?_); rotate_left 1; (focus (with_reducible rfl)); (focus (intro u w1 hw hd w2; (try simp only [depH] at hd); (try simp only [ext] at hd); (try simp only [extU] at hd); (try simp only [Nat.reduceAdd] at hd); (try simp only [Nat.reduceEqDiff] at hd); (try simp only [reduceIte] at hd); (try simp only [and_true] at hd); (try simp only [true_and] at hd); go_simp; exact rfl))) | ((first | ((with_reducible refine flow_pure0 (v := ?_) ?_ ?_ ?_ ?_); rotate_left 1; (focus (with_reducible rfl)); (focus rfl)) | ((with_reducible refine flow_pureg (v := ?_) (j := ?_) (b := ?_) ?_ ?_ ?_ ?_); rotate_left 3; (focus (with_reducible rfl)); (focus (intro u w1 hw hd; (try simp only [depH] at hd); (try simp only [ext] at hd); (try simp only [extU] at hd); (try simp only [Nat.reduceAdd] at hd); (try simp only [Nat.reduceEqDiff] at hd); (try simp only [reduceIte] at hd); (try simp only [and_true] at hd); (try simp only [true_and] at hd); simp [yielded, hd]; done)))); (focus (intro u w1 hw hd; (try simp only [depH] at hd); (try simp only [ext] at hd); (try simp only [extU] at hd); (try simp only [Nat.reduceAdd] at hd); (try simp only [Nat.reduceEqDiff] at hd); (try simp only [reduceIte] at hd); (try simp only [and_true] at hd); (try simp only [true_and] at hd); have hc' := hw.cell; first | (go_simp; exact rfl) | (go_simp; go_at_call 25; ((with_reducible refine (c1 _).mono ?_)); rintro e w'' ⟨rfl, hb⟩; refine ⟨?_, hb⟩; exact rfl) | (go_simp; go_at_call 24; ((with_reducible refine (c2 _).mono ?_)); rintro e w'' ⟨rfl, hb⟩; refine ⟨?_, hb⟩; exact rfl)))) | ((with_reducible refine flow_skipg (j := ?_) (b := ?_) ?_ ?_ ?_); rotate_left 2; (focus (with_reducible rfl)); (focus (intro u w1 hw hd; (try simp only [depH] at hd); (try simp only [ext] at hd); (try simp only [extU] at hd); (try simp only [Nat.reduceAdd] at hd); (try simp only [Nat.reduceEqDiff] at hd); (try simp only [reduceIte] at hd); (try simp only [and_true] at hd); (try simp only [true_and] at hd); simp [yielded, hd]; done))) | ((with_reducible refine flow_alloc (t := ?_) (zs := ?_) ?_ ?_ ?_ ?_); rotate_left 2; (focus (with_reducible rfl)); (focus rfl); (focus (intro u w1; go_simp; exact rfl)))))
  (try clear hc hf h); intro u w' h ha hdi; replace h := h.ins; (try simp only [World.size_alloc] at h); (try dsimp only at ha); (repeat rw [World.size_alloc] at ha); (try simp only [allH] at ha); (try simp only [ext] at ha); (try simp only [extU] at ha); (try simp only [Nat.reduceAdd] at ha); (try simp only [Nat.reduceEqDiff] at ha); (try simp only [reduceIte] at ha); (try simp only [and_true] at ha); (try simp only [true_and] at ha); have hc := h.cell; have hf := h.frozen
  (try obtain ha := ha); (try dsimp only);  simp only [ha]; clear ha hdi 
  have hin := hV.call h.bel
  have bq := bV1.call h.bel
  clear hc hf h hV bV0 bV1 hC x0 x1 x2 x3 x4 xl z0 z1 z2 z3 z4 zl d0 d1 d2 d3 d4 htc p0 w0 t0 hgl hrl hpl hwl htl
  ((have q0 := bq.c0); (have q1 := bq.c1); (have q2 := bq.c2); (have q3 := bq.c3); (have q4 := bq.c4); (have f0 := bq.frozen 0); (have f1 := bq.frozen 1); (have f2 := bq.frozen 2); (have f3 := bq.frozen 3); (have f4 := bq.frozen 4); (have ql := bq.lt); (have K1 := Lib.hid ((((((bq.set 0 (.int .u64 A1)).set 1 (.string A2)).set 2 (.bool A3)).set 3 (.int .u64 A4)).set 4 (.string A5)))); (have K2 := Lib.hid ((((((hin.setCell (p := ⟨(X + 1), 0, none⟩) (by first | (simp; done) | (have := HX.out; simp; omega)) (.int .u64 A1)).setCell (p := ⟨(X + 1), 1, none⟩) (by first | (simp; done) | (have := HX.out; simp; omega)) (.string A2)).setCell (p := ⟨(X + 1), 2, none⟩) (by first | (simp; done) | (have := HX.out; simp; omega)) (.bool A3)).setCell (p := ⟨(X + 1), 3, none⟩) (by first | (simp; done) | (have := HX.out; simp; omega)) (.int .u64 A4)).setCell (p := ⟨(X + 1), 4, none⟩) (by first | (simp; done) | (have := HX.out; simp; omega)) (.string A5)))); (clear bq hin); (go_wp2_with fail); (have k1 := K1.out); (have k2 := K2.out); (clear q0 q1 q2 q3 q4 f0 f1 f2 f3 f4 ql K1 K2); (generalize ((((w'.setCell ⟨(X + 1), 0, none⟩ (.int .u64 A1)).setCell ⟨(X + 1), 1, none⟩ (.string A2)).setCell ⟨(X + 1), 2, none⟩ (.bool A3)).setCell ⟨(X + 1), 3, none⟩ (.int .u64 A4)).setCell ⟨(X + 1), 4, none⟩ (.string A5) = W5 at *); (have e0 : W5.cell? ⟨(X + 1), 0, none⟩ = some (.int .u64 A1) := k1.cell 0); (have e1 : W5.cell? ⟨(X + 1), 1, none⟩ = some (.string A2) := k1.cell 1); (have e2 : W5.cell? ⟨(X + 1), 2, none⟩ = some (.bool A3) := k1.cell 2); (have e3 : W5.cell? ⟨(X + 1), 3, none⟩ = some (.int .u64 A4) := k1.cell 3); (have e4 : W5.cell? ⟨(X + 1), 4, none⟩ = some (.string A5) := k1.cell 4); (have hz := k2.bel); (refine bodyPost_ret (v := .agg #[.int .u64 A1, .string A2, .bool A3, .int .u64 A4, .string A5]) ?_ rfl ⟨rfl, hz⟩); (simp [results, Tryz.results250, go_sem, e0, e1, e2, e3, e4]))
end Gus
end
section
/- elims: each replaces the elements of a row. -/
namespace Gus
open Go Go.RowKit Go.Proofs
/-- a row whose first k elements are replaced -/
def mxl (x F : Nat → Rat) (m k : Nat) : List Rat := (List.range m).map fun j => if j < k then F j else x j
theorem mxl_length (x F : Nat → Rat) (m k : Nat) : (mxl x F m k).length = m := by simp [mxl]
theorem mxl_zero (x F : Nat → Rat) (m : Nat) : mxl x F m 0 = vl m x := by
  unfold mxl vl
  exact List.map_congr_left fun i _ => by rw [if_neg (Nat.not_lt_zero _)]
theorem mxl_full (x F : Nat → Rat) (m : Nat) : mxl x F m m = vl m F := by
  unfold mxl vl
  exact List.map_congr_left fun i hi => by rw [if_pos (List.mem_range.1 hi)]
theorem mxl_at (x F : Nat → Rat) {m k : Nat} (hk : k < m) : (mxl x F m k).getD k 0 = x k := by simp [mxl, hk]
theorem mxl_set (x F : Nat → Rat) (m k : Nat) : (mxl x F m k).set k (F k) = mxl x F m (k + 1) := by
  unfold mxl
  apply List.ext_getElem
  · simp
  · intro i h1 h2
    simp only [List.getElem_set, List.getElem_map, List.getElem_range]
    by_cases h : k = i
    · subst h; simp
    · rw [if_neg h]
      by_cases h3 : i < k
      · rw [if_pos h3, if_pos (by omega)]
      · rw [if_neg h3, if_neg (by omega)]
set_option maxRecDepth 100000 in
set_option maxHeartbeats 4000000 in
theorem each_any' {m g : Nat} {x F : Nat → Rat} (w : World) (p rb R rc i : Nat) (dl cs : List Value) (hp : Bx w p 191 (.slice (some ⟨rb, 0, none⟩) R rc :: dl)) (hr : Bx w rb 32 cs) (hiR : i < R) (hci : cs[i]? = some (.slice (some ⟨g, 0, none⟩) m m)) (hv : VBx w g (vl m x)) (hm : m ≤ 4096)
    (g0 : Nat) (cb : Array Value) (eg : ∀ args w, (callFunc g0 args).run Tryz.prog w = .ok (.enter g0 args) w)
    (hcl : ∀ k W, k < m → w.grownBy W (some g) → Calls Tryz.prog g0 (#[.int .i64 (k : Nat), fracV (x k)] ++ cb) W fun e w' => e = .returned (fracV (F k)) ∧ Below W.heap.size W w') :
    Calls Tryz.prog 248 #[.pointer (some ⟨p, 0, none⟩), .int .i64 (i : Nat), .func (.func g0) #[] cb] w fun e w' => e = .returned (.tuple #[]) ∧ VBx w' g (vl m F) ∧ w.grownBy w' (some g) := by
  have hrg : ¬ rb = g := hr.ne_type hv (by decide)
  have hpg : ¬ p = g := hp.ne_type hv (by decide)
  have HC := Lib.hid hcl
  have iI : (i : Int) < R := by omega
  have i0 : (0 : Int) ≤ i := by omega
  have p0 := hp.c0
  have pl := hp.lt
  have r0 : w.cell? ⟨rb, i, none⟩ = some (.slice (some ⟨g, 0, none⟩) m m) := (hr.cell i).trans hci
  have rl := hr.lt
  have HP := Lib.hid hp
  have HR := Lib.hid hr
  have HV := Lib.hid hv
  have HCI := Lib.hid hci
  clear hp hr hv hcl hci
  go_enter Tryz.func248, Tryz.ntmps248
  go_wp2_with fail
  clear p0 r0 pl rl
  go_loopw [16] (fun v16 wr => ∃ k : Nat, k ≤ m ∧ v16 = .int .i64 k ∧ w.grownBy wr (some g) ∧ VBx wr g (mxl x F m k)) (fun v16 _ => m - (RowKit.intOf v16).toNat)
  case atStart => exact ⟨0, Nat.zero_le _, rfl, World.grownBy.refl _ _, by rw [mxl_zero]; exact HV.out⟩
  case round =>
    obtain ⟨k, hk, rfl, hg, bv⟩ := hrel
    by_cases hkm : k < m
    · have hkI : (k : Int) < m := by omega
      have hk0 : (0 : Int) ≤ k := by omega
      have hkw : IntKind.i64.wrap ((k : Int) + 1) = ((k + 1 : Nat) : Int) := IntWalk.i64_in _ (by omega)
      have bp : Bx wr p 191 (.slice (some ⟨rb, 0, none⟩) R rc :: dl) := HP.out.grown hg (by simp; exact hpg)
      have br : Bx wr rb 32 cs := HR.out.grown hg (by simp; exact hrg)
      have hlt : k < (mxl x F m k).length := by rw [mxl_length]; exact hkm
      obtain ⟨A1, A2, A3, A4, A5, hA, c0, c1, c2, c3, c4, f0, f1, f2, f3, f4⟩ := VBx.cells bv hlt
      rw [mxl_at x F hkm] at hA
      obtain ⟨q, hq⟩ : ∃ q, q = F k := ⟨_, rfl⟩
      have hcl := fun W h => HC.out k W hkm h
      rw [← hq, hA] at hcl
      have HQ := Lib.hid hq
      obtain ⟨B1, B2, B3, B4, B5, hB, hB'⟩ : ∃ A1 A2 A3 A4 A5, fracV q = .agg #[.int .u64 A1, .string A2, .bool A3, .int .u64 A4, .string A5] ∧ fcs q = [.int .u64 A1, .string A2, .bool A3, .int .u64 A4, .string A5] := ⟨_, _, _, _, _, rfl, rfl⟩
      rw [hB] at hcl
      have HB := Lib.hid hB'
      clear hq hB hB' hA
      have bvl := bv.lt
      go_upto_region 3 with fail
      have hrr := In.self wr
      skip
      ((obtain ⟨Z, hZ⟩ : ∃ z, z = wr.heap.size := ⟨_, rfl⟩); (have bZ := Bx.new_at wr #[.int .u64 A1, .string A2, .bool A3, .int .u64 A4, .string A5] 52 hZ); (have hgz : g < Z := by rw [hZ]; exact bv.lt); (replace hrr := hrr.alloc (.cells #[.int .u64 A1, .string A2, .bool A3, .int .u64 A4, .string A5] 52)); (replace bp := bp.alloc (.cells #[.int .u64 A1, .string A2, .bool A3, .int .u64 A4, .string A5] 52)); (replace br := br.alloc (.cells #[.int .u64 A1, .string A2, .bool A3, .int .u64 A4, .string A5] 52)); (replace bv := bv.alloc (.cells #[.int .u64 A1, .string A2, .bool A3, .int .u64 A4, .string A5] 52)); (rw [← hZ]); (clear hZ); (generalize wr.alloc (.cells #[.int .u64 A1, .string A2, .bool A3, .int .u64 A4, .string A5] 52) = W1 at *))
      clear c0 c1 c2 c3 c4 f0 f1 f2 f3 f4
      ((have z0 := bZ.c0); (have z1 := bZ.c1); (have z2 := bZ.c2); (have z3 := bZ.c3); (have z4 := bZ.c4); (have zl := bZ.lt))
      have p0 := bp.c0
      have pl := bp.lt
      have r0 : W1.cell? ⟨rb, i, none⟩ = some (.slice (some ⟨g, 0, none⟩) m m) := (br.cell i).trans HCI.out
      have rl := br.lt
      have hgg : w.grownBy W1 (some g) := hg.trans (Gro.bel hrr.bel _)
      have hlt : k < (mxl x F m k).length := by rw [mxl_length]; exact hkm
      have hgl := bv.lt
      have h := In.self W1; have hc := h.cell; have hf := h.frozen; refine wp_region_flow 13 (by kernel_rfl) (by kernel_rfl) (fun _ _ d _ _ h => by cases d <;> exact h) ?_; simp only [List.take_succ_cons, List.take_zero, List.drop_succ_cons, List.drop_zero]; simp only [putAll, Act.put, List.setIfInBounds_toArray, List.set]; (try simp only [Nat.reduceAdd]); (try simp only [Nat.zero_add]); (repeat (first | ((with_reducible refine flow_float (v := ?_) ?_ ?_ ?_); rotate_left 1; (focus (with_reducible rfl)); (focus (intro u w1 hw hd w2; (try simp only [depH] at hd); (try simp only [ext] at hd); (try simp only [extU] at hd); (try simp only [Nat.reduceAdd] at hd); (try simp only [Nat.reduceEqDiff] at hd); (try simp only [reduceIte] at hd); (try simp only [and_true] at hd); (try simp only [true_and] at hd); go_simp; exact rfl))) | ((first | ((with_reducible refine flow_pure0 (v := ?_) ?_ ?_ ?_ ?_); rotate_left 1; (focus (with_reducible rfl)); (focus rfl)) | ((with_reducible refine flow_pureg (v := ?_) (j := ?_) (b := ?_) ?_ ?_ ?_ ?_); rotate_left 3; (focus (with_reducible rfl)); (focus (intro u w1 hw hd; (try simp only [depH] at hd); (try simp only [ext] at hd); (try simp only [extU] at hd); (try simp only [Nat.reduceAdd] at hd); (try simp only [Nat.reduceEqDiff] at hd); (try simp only [reduceIte] at hd); (try simp only [and_true] at hd); (try simp only [true_and] at hd); simp [yielded, hd]; done)))); (focus (intro u w1 hw hd; (try simp only [depH] at hd); (try simp only [ext] at hd); (try simp only [extU] at hd); (try simp only [Nat.reduceAdd] at hd); (try simp only [Nat.reduceEqDiff] at hd); (try simp only [reduceIte] at hd); (try simp only [and_true] at hd); (try simp only [true_and] at hd); have hc' := hw.cell; go_simp; exact rfl))) | ((with_reducible refine flow_skipg (j := ?_) (b := ?_) ?_ ?_ ?_); rotate_left 2; (focus (with_reducible rfl)); (focus (intro u w1 hw hd; (try simp only [depH] at hd); (try simp only [ext] at hd); (try simp only [extU] at hd); (try simp only [Nat.reduceAdd] at hd); (try simp only [Nat.reduceEqDiff] at hd); (try simp only [reduceIte] at hd); (try simp only [and_true] at hd); (try simp only [true_and] at hd); simp [yielded, hd]; done))) | ((with_reducible refine flow_alloc (t := ?_) (zs := ?_) ?_ ?_ ?_ ?_); rotate_left 2; (focus (with_reducible rfl)); (focus rfl); (focus (intro u w1; go_simp; exact rfl)))))
      ((with_reducible refine flow_pure0 (v := ?_) ?_ ?_ ?_ ?_); rotate_left 1; (focus (with_reducible rfl)); (focus rfl); (focus (intro u w1 hw hd; (try simp only [depH] at hd); (try simp only [ext] at hd); (try simp only [extU] at hd); (try simp only [Nat.reduceAdd] at hd); (try simp only [Nat.reduceEqDiff] at hd); (try simp only [reduceIte] at hd); (try simp only [and_true] at hd); (try simp only [true_and] at hd); have hc' := hw.cell; go_simp; ((with_reducible refine (hcl w1 (hgg.trans (Gro.bel hw.ins.bel _))).mono ?_)); rintro e w'' ⟨rfl, hb⟩; refine ⟨?_, hb⟩; exact rfl)))
      (repeat (first | ((with_reducible refine flow_float (v := ?_) ?_ ?_ ?_); rotate_left 1; (focus (with_reducible rfl)); (focus (intro u w1 hw hd w2; (try simp only [depH] at hd); (try simp only [ext] at hd); (try simp only [extU] at hd); (try simp only [Nat.reduceAdd] at hd); (try simp only [Nat.reduceEqDiff] at hd); (try simp only [reduceIte] at hd); (try simp only [and_true] at hd); (try simp only [true_and] at hd); go_simp; exact rfl))) | ((first | ((with_reducible refine flow_pure0 (v := ?_) ?_ ?_ ?_ ?_); rotate_left 1; (focus (with_reducible rfl)); (focus rfl)) | ((with_reducible refine flow_pureg (v := ?_) (j := ?_) (b := ?_) ?_ ?_ ?_ ?_); rotate_left 3; (focus (with_reducible rfl)); (focus (intro u w1 hw hd; (try simp only [depH] at hd); (try simp only [ext] at hd); (try simp only [extU] at hd); (try simp only [Nat.reduceAdd] at hd); (try simp only [Nat.reduceEqDiff] at hd); (try simp only [reduceIte] at hd); (try simp only [and_true] at hd); (try simp only [true_and] at hd); simp [yielded, hd]; done)))); (focus (intro u w1 hw hd; (try simp only [depH] at hd); (try simp only [ext] at hd); (try simp only [extU] at hd); (try simp only [Nat.reduceAdd] at hd); (try simp only [Nat.reduceEqDiff] at hd); (try simp only [reduceIte] at hd); (try simp only [and_true] at hd); (try simp only [true_and] at hd); have hc' := hw.cell; go_simp; exact rfl))) | ((with_reducible refine flow_skipg (j := ?_) (b := ?_) ?_ ?_ ?_); rotate_left 2; (focus (with_reducible rfl)); (focus (intro u w1 hw hd; (try simp only [depH] at hd); (try simp only [ext] at hd); (try simp only [extU] at hd); (try simp only [Nat.reduceAdd] at hd); (try simp only [Nat.reduceEqDiff] at hd); (try simp only [reduceIte] at hd); (try simp only [and_true] at hd); (try simp only [true_and] at hd); simp [yielded, hd]; done))) | ((with_reducible refine flow_alloc (t := ?_) (zs := ?_) ?_ ?_ ?_ ?_); rotate_left 2; (focus (with_reducible rfl)); (focus rfl); (focus (intro u w1; go_simp; exact rfl)))))
      (try clear hc hf h); intro u w' h ha hdi; replace h := h.ins; (try simp only [World.size_alloc] at h); (try dsimp only at ha); (repeat rw [World.size_alloc] at ha); (try simp only [allH] at ha); (try simp only [ext] at ha); (try simp only [extU] at ha); (try simp only [Nat.reduceAdd] at ha); (try simp only [Nat.reduceEqDiff] at ha); (try simp only [reduceIte] at ha); (try simp only [and_true] at ha); (try simp only [true_and] at ha); have hc := h.cell; have hf := h.frozen
      (try obtain ha := ha); (try dsimp only);  simp only [ha]; clear ha hdi 
      have bv5 := bv.call h.bel
      obtain ⟨_, _, _, _, _, _, c0, c1, c2, c3, c4, f0, f1, f2, f3, f4⟩ := VBx.cells bv5 hlt
      have hgl5 := bv5.lt
      have hs := VBx.setA bv5 k q hlt HB.out
      rw [show (mxl x F m k).set k q = mxl x F m (k + 1) by rw [HQ.out]; exact mxl_set _ _ _ _] at hs
      have H1 := Lib.hid hs
      have H2 := Lib.hid ((hgg.trans (Gro.bel h.bel _)).trans (gr_putA w' g k (.int .u64 B1) (.string B2) (.bool B3) (.int .u64 B4) (.string B5)))
      clear hs hc hf h hgg bv5 bv bp br bZ z0 z1 z2 z3 z4 zl p0 pl r0 rl hgl hcl hrr hg
      go_wp2_with fail
      exact ⟨⟨k + 1, by omega, by go_num, H2.out, H1.out⟩, by simp [RowKit.intOf]; omega⟩
    · obtain rfl : k = m := by omega
      have hkI : ¬ (k : Int) < k := by omega
      rw [mxl_full] at bv
      have H1 := Lib.hid bv
      have H2 := Lib.hid hg
      clear bv hg
      go_wp2_with fail
      go_end0
      exact ⟨rfl, H1.out, H2.out⟩
end Gus
end
section
/- elims: the state of an elimination. -/
namespace Gus
open Go Go.RowKit Go.Proofs
theorem ownsRow_kept {w w' : World} {lo size n : Nat} {e : TypeId} {v : Value} {xs : List Value} (h : w.ownsRow lo e size v n xs) (hb : ∀ k, v.ownBlock = some k → w'.heap[k]? = w.heap[k]?) : w'.ownsRow lo e size v n xs := by
  refine ⟨h.1, ?_⟩
  rcases h.2 with h2 | ⟨g, cap, cur, rfl, h0, hg, h1⟩
  · exact .inl h2
  · exact .inr ⟨g, cap, cur, rfl, h0, (hb g rfl).trans hg, h1⟩
theorem ownsRow_ne {w : World} {lo size n b : Nat} {e T : TypeId} {v : Value} {xs cs : List Value} (h : w.ownsRow lo e size v n xs) (hB : Bx w b T cs) (hT : e ≠ T) : v.ownBlock ≠ some b := fun hk => by
  rcases h.2 with ⟨rfl, _⟩ | ⟨g, cap, cur, rfl, h0, hg, h1⟩
  · simp [Value.ownBlock] at hk
  · simp [Value.ownBlock] at hk
    subst hk
    have h6 : w.heap[g]? = some (Obj.cells cs.toArray T (0, 0)) := hB
    rw [hg] at h6
    injection h6 with h7
    injection h7 with _ h8
    exact hT h8
theorem ownsRow_grown {w w' : World} {lo size n b : Nat} {e T : TypeId} {v : Value} {xs cs : List Value} (h : w.ownsRow lo e size v n xs) (hB : Bx w b T cs) (hT : e ≠ T) (hg : w.grownBy w' (some b)) : w'.ownsRow lo e size v n xs :=
  ownsRow_kept h fun k hk => hg.block k (h.lt k hk).2 (fun e => ownsRow_ne h hB hT (by rw [hk, e]))
theorem ownsRow_bel {w w' : World} {lo size n : Nat} {e : TypeId} {v : Value} {xs : List Value} (h : w.ownsRow lo e size v n xs) (hb : Below w.heap.size w w') : w'.ownsRow lo e size v n xs :=
  ownsRow_kept h fun k hk => hb.block k (h.lt k hk).2
/-- the rows: a slice of slices, row i of m values in the block f i -/
structure RwAt (w : World) (lo R m : Nat) (ra : Option Addr) (f : Nat → Nat) (M : Mx) : Prop where
  rows : ∀ i, i < R → ∃ rb cs, ra = some ⟨rb, 0, none⟩ ∧ lo ≤ rb ∧ Bx w rb 32 cs ∧ cs[i]? = some (.slice (some ⟨f i, 0, none⟩) m m)
  row : ∀ i, i < R → VBx w (f i) (vl m (M i))
  inj : ∀ i j, i < R → j < R → f i = f j → i = j
  low : ∀ i, i < R → lo ≤ f i
theorem RwAt.keep {w w' : World} {lo R m : Nat} {ra : Option Addr} {f : Nat → Nat} {M : Mx} (h : RwAt w lo R m ra f M) (hb : ∀ b T cs, Bx w b T cs → T = 32 ∨ T = 52 → Bx w' b T cs) : RwAt w' lo R m ra f M :=
  ⟨fun i hi => by
    obtain ⟨rb, cs, h1, h2, h3, h4⟩ := h.rows i hi
    exact ⟨rb, cs, h1, h2, hb _ _ _ h3 (.inl rfl), h4⟩, fun i hi => hb _ _ _ (h.row i hi) (.inr rfl), h.inj, h.low⟩
theorem RwAt.call {w w' : World} {lo R m : Nat} {ra : Option Addr} {f : Nat → Nat} {M : Mx} (h : RwAt w lo R m ra f M) (hb : Below w.heap.size w w') : RwAt w' lo R m ra f M := h.keep fun _ _ _ h1 _ => h1.call hb
theorem RwAt.congr {w : World} {lo R m : Nat} {ra : Option Addr} {f : Nat → Nat} {M M' : Mx} (h : RwAt w lo R m ra f M) (he : ∀ i c, i < R → c < m → M i c = M' i c) : RwAt w lo R m ra f M' :=
  ⟨h.rows, fun i hi => by rw [← vl_congr (fun c hc => he i c hi hc)]; exact h.row i hi, h.inj, h.low⟩
/-- a store into a block of another type -/
theorem RwAt.other {w w' : World} {lo R m b : Nat} {T : TypeId} {cs : List Value} {ra : Option Addr} {f : Nat → Nat} {M : Mx} (h : RwAt w lo R m ra f M) (hB : Bx w b T cs) (h1 : T ≠ 32) (h2 : T ≠ 52) (hg : w.grownBy w' (some b)) : RwAt w' lo R m ra f M :=
  h.keep fun b' T' cs' h3 h4 => h3.grown hg (fun e => by
    cases e
    exact hB.ne_type h3 (by rcases h4 with rfl | rfl; exact h1; exact h2) rfl)
/-- row i has been replaced -/
theorem RwAt.set {w w' : World} {lo R m i : Nat} {ra : Option Addr} {f : Nat → Nat} {M M' : Mx} (h : RwAt w lo R m ra f M) (hi : i < R) (hg : w.grownBy w' (some (f i))) (hr : VBx w' (f i) (vl m (M' i))) (he : ∀ j c, j < R → j ≠ i → c < m → M' j c = M j c) : RwAt w' lo R m ra f M' :=
  ⟨fun j hj => by
    obtain ⟨rb, cs, h1, h2, h3, h4⟩ := h.rows j hj
    exact ⟨rb, cs, h1, h2, h3.grown hg (fun e => by
      injection e with e
      exact h3.ne_type (h.row i hi) (by decide) e), h4⟩,
  fun j hj => by
    by_cases hji : j = i
    · subst hji; exact hr
    · rw [vl_congr (fun c hc => he j c hj hji hc)]
      exact (h.row j hj).grown hg (fun e => by
        injection e with e
        exact hji (h.inj j i hj hi e)), h.inj, h.low⟩
/-- the state -/
structure ElAt (w : World) (lo p R m cols : Nat) (ra : Option Addr) (rc : Nat) (pv : Value) (f : Nat → Nat) (s : El) : Prop where
  box : Bx w p 191 (.slice ra R rc :: .int .i64 cols :: pv :: fcs s.det)
  plo : lo ≤ p
  rcap : R ≤ rc
  rw : RwAt w lo R m ra f s.M
  piv : w.ownsRow lo 3 1 pv s.piv.length (s.piv.map fun k => .int .i64 (k : Nat))
theorem ElAt.call {w w' : World} {lo p R m cols rc : Nat} {ra : Option Addr} {pv : Value} {f : Nat → Nat} {s : El} (h : ElAt w lo p R m cols ra rc pv f s) (hb : Below w.heap.size w w') : ElAt w' lo p R m cols ra rc pv f s :=
  ⟨h.box.call hb, h.plo, h.rcap, h.rw.call hb, ownsRow_bel h.piv hb⟩
theorem ElAt.set {w w' : World} {lo p R m cols rc i : Nat} {ra : Option Addr} {pv : Value} {f : Nat → Nat} {s : El} {M' : Mx} (h : ElAt w lo p R m cols ra rc pv f s) (hi : i < R) (hg : w.grownBy w' (some (f i))) (hr : VBx w' (f i) (vl m (M' i))) (he : ∀ j c, j < R → j ≠ i → c < m → M' j c = s.M j c) : ElAt w' lo p R m cols ra rc pv f ⟨M', s.piv, s.det⟩ :=
  ⟨h.box.grown hg (fun e => by
    injection e with e
    exact h.box.ne_type (h.rw.row i hi) (by decide) e), h.plo, h.rcap, h.rw.set hi hg hr he, ownsRow_grown h.piv (h.rw.row i hi) (by decide) hg⟩
theorem ElAt.congr {w : World} {lo p R m cols rc : Nat} {ra : Option Addr} {pv : Value} {f : Nat → Nat} {s : El} {M' : Mx} (h : ElAt w lo p R m cols ra rc pv f s) (he : ∀ i c, i < R → c < m → s.M i c = M' i c) : ElAt w lo p R m cols ra rc pv f ⟨M', s.piv, s.det⟩ := ⟨h.box, h.plo, h.rcap, h.rw.congr he, h.piv⟩
theorem ElAt.setDet {w : World} {lo p R m cols rc : Nat} {ra : Option Addr} {pv : Value} {f : Nat → Nat} {s : El} {q : Rat} {A1 A4 : Int} {A2 A5 : ByteArray} {A3 : Bool} (h : ElAt w lo p R m cols ra rc pv f s) (hq : fcs q = [.int .u64 A1, .string A2, .bool A3, .int .u64 A4, .string A5]) :
    ElAt (((((w.setCell ⟨p, 3, none⟩ (.int .u64 A1)).setCell ⟨p, 4, none⟩ (.string A2)).setCell ⟨p, 5, none⟩ (.bool A3)).setCell ⟨p, 6, none⟩ (.int .u64 A4)).setCell ⟨p, 7, none⟩ (.string A5)) lo p R m cols ra rc pv f ⟨s.M, s.piv, q⟩ ∧
    w.grownBy (((((w.setCell ⟨p, 3, none⟩ (.int .u64 A1)).setCell ⟨p, 4, none⟩ (.string A2)).setCell ⟨p, 5, none⟩ (.bool A3)).setCell ⟨p, 6, none⟩ (.int .u64 A4)).setCell ⟨p, 7, none⟩ (.string A5)) (some p) := by
  have hg : w.grownBy (((((w.setCell ⟨p, 3, none⟩ (.int .u64 A1)).setCell ⟨p, 4, none⟩ (.string A2)).setCell ⟨p, 5, none⟩ (.bool A3)).setCell ⟨p, 6, none⟩ (.int .u64 A4)).setCell ⟨p, 7, none⟩ (.string A5)) (some p) :=
    ((((gr_cell w ⟨p, 3, none⟩ _).trans (gr_cell _ ⟨p, 4, none⟩ _)).trans (gr_cell _ ⟨p, 5, none⟩ _)).trans (gr_cell _ ⟨p, 6, none⟩ _)).trans (gr_cell _ ⟨p, 7, none⟩ _)
  refine ⟨⟨?_, h.plo, h.rcap, h.rw.other h.box (by decide) (by decide) hg, ownsRow_grown h.piv h.box (by decide) hg⟩, hg⟩
  rw [hq]
  exact ((((h.box.set 3 (.int .u64 A1)).set 4 (.string A2)).set 5 (.bool A3)).set 6 (.int .u64 A4)).set 7 (.string A5)
/-- rows are cleared up to row j -/
def clrTo (M : Mx) (t k j : Nat) : Mx := fun r c => if r = t then M t c / M t k else if r < j then M r c - M r k * (M t c / M t k) else M r c
theorem clrTo_full (M : Mx) (t k R : Nat) {r c : Nat} (hr : r < R) : clrTo M t k R r c = rowClear M t k r c := by
  unfold clrTo rowClear
  by_cases h : r = t
  · rw [if_pos h, if_pos h]
  · rw [if_neg h, if_neg h, if_pos hr]
theorem clrTo_top (M : Mx) (t k r c : Nat) : clrTo M t k t r c = clrTo M t k (t + 1) r c := by
  unfold clrTo
  by_cases h : r = t
  · rw [if_pos h, if_pos h]
  · rw [if_neg h, if_neg h]
    by_cases h2 : r < t
    · rw [if_pos h2, if_pos (by omega)]
    · rw [if_neg h2, if_neg (by omega)]
theorem clrTo_skip (M : Mx) (t k j : Nat) (h0 : M j k = 0) (r c : Nat) : clrTo M t k j r c = clrTo M t k (j + 1) r c := by
  unfold clrTo
  by_cases h : r = t
  · rw [if_pos h, if_pos h]
  · rw [if_neg h, if_neg h]
    by_cases h2 : r < j
    · rw [if_pos h2, if_pos (by omega)]
    · rw [if_neg h2]
      by_cases h3 : r = j
      · subst h3; rw [if_pos (by omega), h0, Rat.zero_mul]; grind
      · rw [if_neg (by omega)]
theorem clrTo_other (M : Mx) (t k j : Nat) {r : Nat} (h : r ≠ j) (c : Nat) : clrTo M t k (j + 1) r c = clrTo M t k j r c := by
  unfold clrTo
  by_cases h1 : r = t
  · rw [if_pos h1, if_pos h1]
  · rw [if_neg h1, if_neg h1]
    by_cases h2 : r < j
    · rw [if_pos h2, if_pos (by omega)]
    · rw [if_neg h2, if_neg (by omega)]
theorem clrTo_now (M : Mx) (t k j c : Nat) (h : j ≠ t) : clrTo M t k j j c = M j c := by
  unfold clrTo; rw [if_neg h, if_neg (Nat.lt_irrefl _)]
theorem clrTo_next (M : Mx) (t k j c : Nat) (h : j ≠ t) : clrTo M t k (j + 1) j c = M j c - M j k * (M t c / M t k) := by
  unfold clrTo; rw [if_neg h, if_pos (by omega)]
theorem clrTo_t (M : Mx) (t k j c : Nat) : clrTo M t k j t c = M t c / M t k := by
  unfold clrTo; rw [if_pos rfl]
theorem clrTo_zero (M : Mx) (t k : Nat) {r : Nat} (h : r ≠ t) (c : Nat) : clrTo M t k 0 r c = M r c := by
  unfold clrTo; rw [if_neg h, if_neg (Nat.not_lt_zero _)]
end Gus
end
section
/- elims: clear. -/
namespace Gus
open Go Go.RowKit Go.Proofs
set_option maxRecDepth 100000 in
set_option maxHeartbeats 16000000 in
theorem clear_any {z zd : Nat} (w : World) (lo p R m cols rc t k : Nat) (ra : Option Addr) (pv : Value) (f : Nat → Nat) (s : El) (el : ElAt w lo p R m cols ra rc pv f s) (ht : t < R) (hk : k < m) (hne : s.M t k ≠ 0) (hR : R ≤ 4096) (hm : m ≤ 4096) (hlo : lo ≤ w.heap.size)
    (hz : ∀ i c, i < R → c < m → SzK z (s.M i c)) (hd : SzK zd s.det) (hcap : 4 * z + zd + 2 < 17592186044416) :
    Calls Tryz.prog 181 #[.pointer (some ⟨p, 0, none⟩), .int .i64 (t : Nat), .int .i64 (k : Nat)] w fun e w' => e = .returned (.tuple #[]) ∧ In lo w w' ∧ ElAt w' lo p R m cols ra rc pv f ⟨rowClear s.M t k, s.piv, s.det * s.M t k⟩ := by
  obtain ⟨rb, cs, rfl, hrb, hBr, hct⟩ := el.rw.rows t ht
  have HZ := Lib.hid hz
  have tR : (t : Int) < R := by omega
  have t0 : (0 : Int) ≤ t := by omega
  have km : (k : Int) < m := by omega
  have k0 : (0 : Int) ≤ k := by omega
  have hin : In lo w w := ⟨Below.refl _ _, hlo⟩
  have HF := el.rw
  obtain ⟨q, hq⟩ : ∃ q, q = s.M t k := ⟨_, rfl⟩
  obtain ⟨d, hd9⟩ : ∃ d, d = s.det := ⟨_, rfl⟩
  have hsq : SzK z q := by rw [hq]; exact hz t k ht hk
  rw [← hd9] at hd
  have cm := fmul_any d q hd hsq (by omega)
  obtain ⟨e, he⟩ : ∃ e, e = d * q := ⟨_, rfl⟩
  rw [← he] at cm
  have hrow := el.rw.row t ht
  obtain ⟨A1, A2, A3, A4, A5, hA, hA'⟩ : ∃ A1 A2 A3 A4 A5, fracV q = .agg #[.int .u64 A1, .string A2, .bool A3, .int .u64 A4, .string A5] ∧ fcs q = [.int .u64 A1, .string A2, .bool A3, .int .u64 A4, .string A5] := ⟨_, _, _, _, _, rfl, rfl⟩
  obtain ⟨c0, c1, c2, c3, c4⟩ := hrow.eltc hk (by rw [← hq]; exact hA')
  obtain ⟨D1, D2, D3, D4, D5, hD, hD'⟩ : ∃ A1 A2 A3 A4 A5, fracV d = .agg #[.int .u64 A1, .string A2, .bool A3, .int .u64 A4, .string A5] ∧ fcs d = [.int .u64 A1, .string A2, .bool A3, .int .u64 A4, .string A5] := ⟨_, _, _, _, _, rfl, rfl⟩
  obtain ⟨P1, P2, P3, P4, P5, hP, hP'⟩ : ∃ A1 A2 A3 A4 A5, fracV e = .agg #[.int .u64 A1, .string A2, .bool A3, .int .u64 A4, .string A5] ∧ fcs e = [.int .u64 A1, .string A2, .bool A3, .int .u64 A4, .string A5] := ⟨_, _, _, _, _, rfl, rfl⟩
  rw [hD, hA, hP] at cm
  have hbox := el.box
  rw [← hd9, hD'] at hbox
  have HQ := Lib.hid hq
  have HD9 := Lib.hid hd9
  have HE := Lib.hid he
  have HA := Lib.hid hA'
  have HP := Lib.hid hP'
  have HNE := Lib.hid hne
  have HCT := Lib.hid hct
  have hgw : f t < w.heap.size := hrow.lt
  clear hq hd9 he hA hA' hD hD' hP hP' hne hz hct HF
  go_enter Tryz.func181, Tryz.ntmps181
  go_upto_region 1 with fail
  ((obtain ⟨X, hXX⟩ : ∃ z, z = w.heap.size := ⟨_, rfl⟩); (have bV0 := ((Bx.new_at w #[.pointer (some ⟨p, 0, none⟩)] 186 (n := X) (by simp [hXX])).alloc (.cells #[.int .i64 t] 3))); (have bV1 := (Bx.new_at (w.alloc (.cells #[.pointer (some ⟨p, 0, none⟩)] 186)) #[.int .i64 t] 3 (n := X + 1) (by simp [hXX]))); (have hV := (((In.self w).alloc (.cells #[.pointer (some ⟨p, 0, none⟩)] 186)).alloc (.cells #[.int .i64 t] 3))); (replace hBr := ((hBr.alloc (.cells #[.pointer (some ⟨p, 0, none⟩)] 186)).alloc (.cells #[.int .i64 t] 3))); (replace hrow := ((hrow.alloc (.cells #[.pointer (some ⟨p, 0, none⟩)] 186)).alloc (.cells #[.int .i64 t] 3))); (replace hbox := ((hbox.alloc (.cells #[.pointer (some ⟨p, 0, none⟩)] 186)).alloc (.cells #[.int .i64 t] 3))); (replace el := ((el.call ((Below.refl _ _).alloc (Nat.le_refl _) (.cells #[.pointer (some ⟨p, 0, none⟩)] 186))).call ((Below.refl _ _).alloc (Nat.le_refl _) (.cells #[.int .i64 t] 3)))); (rw [← hXX] at hV ⊢); (have HX := Lib.hid hXX); (clear hXX); (generalize (w.alloc (.cells #[.pointer (some ⟨p, 0, none⟩)] 186)).alloc (.cells #[.int .i64 t] 3) = V at *))
  rw [HX.out] at hV
  have hgX : f t < X := by rw [HX.out]; exact hgw
  replace hin := hV.out hin hlo
  clear hV
  have bX := bV0
  have bY := bV1
  clear bV0 bV1
  skip
  clear c0 c1 c2 c3 c4
  have htc : V.cell? ⟨rb, t, none⟩ = some (.slice (some ⟨f t, 0, none⟩) m m) := (hBr.cell t).trans HCT.out
  obtain ⟨c0, c1, c2, c3, c4⟩ := VBx.eltc hrow hk (by rw [← HQ.out]; exact HA.out)
  have hrl := hBr.lt
  have hfl := hrow.lt
  skip
  ((have x0 := bX.c0); (have xl := bX.lt))
  ((have y0 := bY.c0); (have yl := bY.lt))
  ((have b0 := hbox.c0); (have b1 := hbox.c1); (have b2 := hbox.c2); (have b3 := hbox.c3); (have b4 := hbox.c4); (have b5 := hbox.c5); (have b6 := hbox.c6); (have b7 := hbox.c7); (have bl := hbox.lt))
  have h := In.self V; have hc := h.cell; have hf := h.frozen; refine wp_region_flow 11 (by kernel_rfl) (by kernel_rfl) (fun _ _ d _ _ h => by cases d <;> exact h) ?_; simp only [List.take_succ_cons, List.take_zero, List.drop_succ_cons, List.drop_zero]; simp only [putAll, Act.put, List.setIfInBounds_toArray, List.set]; (try simp only [Nat.reduceAdd]); (try simp only [Nat.zero_add]); (repeat (first | ((with_reducible refine flow_float (v := ?_) ?_ ?_ ?_); rotate_left 1; (focus (with_reducible rfl)); (focus (intro u w1 hw hd w2; (try simp only [depH] at hd); (try simp only [ext] at hd); (try simp only [extU] at hd); (try simp only [Nat.reduceAdd] at hd); (try simp only [Nat.reduceEqDiff] at hd); (try simp only [reduceIte] at hd); (try simp only [and_true] at hd); (try simp only [true_and] at hd); go_simp; exact rfl))) | ((first | ((with_reducible refine flow_pure0 (v := ?_) ?_ ?_ ?_ ?_); rotate_left 1; (focus (with_reducible rfl)); (focus rfl)) | ((with_reducible refine flow_pureg (v := ?_) (j := ?_) (b := ?_) ?_ ?_ ?_ ?_); rotate_left 3; (focus (with_reducible rfl)); (focus (intro u w1 hw hd; (try simp only [depH] at hd); (try simp only [ext] at hd); (try simp only [extU] at hd); (try simp only [Nat.reduceAdd] at hd); (try simp only [Nat.reduceEqDiff] at hd); (try simp only [reduceIte] at hd); (try simp only [and_true] at hd); (try simp only [true_and] at hd); simp [yielded, hd]; done)))); (focus (intro u w1 hw hd; (try simp only [depH] at hd); (try simp only [ext] at hd); (try simp only [extU] at hd); (try simp only [Nat.reduceAdd] at hd); (try simp only [Nat.reduceEqDiff] at hd); (try simp only [reduceIte] at hd); (try simp only [and_true] at hd); (try simp only [true_and] at hd); have hc' := hw.cell; go_simp; exact rfl))) | ((with_reducible refine flow_skipg (j := ?_) (b := ?_) ?_ ?_ ?_); rotate_left 2; (focus (with_reducible rfl)); (focus (intro u w1 hw hd; (try simp only [depH] at hd); (try simp only [ext] at hd); (try simp only [extU] at hd); (try simp only [Nat.reduceAdd] at hd); (try simp only [Nat.reduceEqDiff] at hd); (try simp only [reduceIte] at hd); (try simp only [and_true] at hd); (try simp only [true_and] at hd); simp [yielded, hd]; done))) | ((with_reducible refine flow_alloc (t := ?_) (zs := ?_) ?_ ?_ ?_ ?_); rotate_left 2; (focus (with_reducible rfl)); (focus rfl); (focus (intro u w1; go_simp; exact rfl)))))
  (try clear hc hf h); intro u w' h ha hdi; replace h := h.ins; (try simp only [World.size_alloc] at h); (try dsimp only at ha); (repeat rw [World.size_alloc] at ha); (try simp only [allH] at ha); (try simp only [ext] at ha); (try simp only [extU] at ha); (try simp only [Nat.reduceAdd] at ha); (try simp only [Nat.reduceEqDiff] at ha); (try simp only [reduceIte] at ha); (try simp only [and_true] at ha); (try simp only [true_and] at ha); have hc := h.cell; have hf := h.frozen; clear hdi hc hf; rename World => wf
  obtain ⟨ha, Eb, hu, hEb, bEb⟩ := ha
  (try dsimp only)
  simp only [ha, hu]
  clear ha hu
  have hfE : f t < Eb := Nat.lt_of_lt_of_le hfl hEb
  ((have p0 := bEb.c0); (have p1 := bEb.c1); (have p2 := bEb.c2); (have p3 := bEb.c3); (have p4 := bEb.c4); (have pf0 := bEb.frozen 0); (have pf1 := bEb.frozen 1); (have pf2 := bEb.frozen 2); (have pf3 := bEb.frozen 3); (have pf4 := bEb.frozen 4); (have pl := bEb.lt); (have KS := Lib.hid (((((bEb.set 0 (.int .u64 A1)).set 1 (.string A2)).set 2 (.bool A3)).set 3 (.int .u64 A4)).set 4 (.string A5))); (have KH := Lib.hid (((((h.setCell (p := ⟨Eb, 0, none⟩) (by first | exact hEb | (simp; omega)) (.int .u64 A1)).setCell (p := ⟨Eb, 1, none⟩) (by first | exact hEb | (simp; omega)) (.string A2)).setCell (p := ⟨Eb, 2, none⟩) (by first | exact hEb | (simp; omega)) (.bool A3)).setCell (p := ⟨Eb, 3, none⟩) (by first | exact hEb | (simp; omega)) (.int .u64 A4)).setCell (p := ⟨Eb, 4, none⟩) (by first | exact hEb | (simp; omega)) (.string A5))); (clear h bEb); (go_upto_region 2 with fail); (have hb := KH.out.bel); (have bEb := KS.out); (simp only [List.set] at bEb); (clear htc c0 c1 c2 c3 c4 hrl hfl x0 xl y0 yl b0 b1 b2 b3 b4 b5 b6 b7 bl); (replace hin := hin.call hb); (replace el := el.call hb); (replace hBr := hBr.call hb); (replace hrow := hrow.call hb); (replace hbox := hbox.call hb); (replace bX := bX.call hb); (replace bY := bY.call hb); (clear KS KH hb pl p0 p1 p2 p3 p4 pf0 pf1 pf2 pf3 pf4); (generalize ((((wf.setCell ⟨Eb, 0, none⟩ (.int .u64 A1)).setCell ⟨Eb, 1, none⟩ (.string A2)).setCell ⟨Eb, 2, none⟩ (.bool A3)).setCell ⟨Eb, 3, none⟩ (.int .u64 A4)).setCell ⟨Eb, 4, none⟩ (.string A5) = W1 at *))
  ((have x0 := bX.c0); (have xl := bX.lt))
  ((have b0 := hbox.c0); (have b1 := hbox.c1); (have b2 := hbox.c2); (have b3 := hbox.c3); (have b4 := hbox.c4); (have b5 := hbox.c5); (have b6 := hbox.c6); (have b7 := hbox.c7); (have bl := hbox.lt); (have bf0 := hbox.frozen 0); (have bf1 := hbox.frozen 1); (have bf2 := hbox.frozen 2); (have bf3 := hbox.frozen 3); (have bf4 := hbox.frozen 4); (have bf5 := hbox.frozen 5); (have bf6 := hbox.frozen 6); (have bf7 := hbox.frozen 7))
  ((have g0 := bEb.c0); (have g1 := bEb.c1); (have g2 := bEb.c2); (have g3 := bEb.c3); (have g4 := bEb.c4); (have gl := bEb.lt))
  have h := In.self W1; have hc := h.cell; have hf := h.frozen; refine wp_region_flow 9 (by kernel_rfl) (by kernel_rfl) (fun _ _ d _ _ h => by cases d <;> exact h) ?_; simp only [List.take_succ_cons, List.take_zero, List.drop_succ_cons, List.drop_zero]; simp only [putAll, Act.put, List.setIfInBounds_toArray, List.set]; (try simp only [Nat.reduceAdd]); (try simp only [Nat.zero_add]); (repeat (first | ((with_reducible refine flow_float (v := ?_) ?_ ?_ ?_); rotate_left 1; (focus (with_reducible rfl)); (focus (intro u w1 hw hd w2; (try simp only [depH] at hd); (try simp only [ext] at hd); (try simp only [extU] at hd); (try simp only [Nat.reduceAdd] at hd); (try simp only [Nat.reduceEqDiff] at hd); (try simp only [reduceIte] at hd); (try simp only [and_true] at hd); (try simp only [true_and] at hd); go_simp; exact rfl))) | ((first | ((with_reducible refine flow_pure0 (v := ?_) ?_ ?_ ?_ ?_); rotate_left 1; (focus (with_reducible rfl)); (focus rfl)) | ((with_reducible refine flow_pureg (v := ?_) (j := ?_) (b := ?_) ?_ ?_ ?_ ?_); rotate_left 3; (focus (with_reducible rfl)); (focus (intro u w1 hw hd; (try simp only [depH] at hd); (try simp only [ext] at hd); (try simp only [extU] at hd); (try simp only [Nat.reduceAdd] at hd); (try simp only [Nat.reduceEqDiff] at hd); (try simp only [reduceIte] at hd); (try simp only [and_true] at hd); (try simp only [true_and] at hd); simp [yielded, hd]; done)))); (focus (intro u w1 hw hd; (try simp only [depH] at hd); (try simp only [ext] at hd); (try simp only [extU] at hd); (try simp only [Nat.reduceAdd] at hd); (try simp only [Nat.reduceEqDiff] at hd); (try simp only [reduceIte] at hd); (try simp only [and_true] at hd); (try simp only [true_and] at hd); have hc' := hw.cell; first | (go_simp; exact rfl) | (go_simp; go_at_call 25; ((with_reducible refine (cm _).mono ?_)); rintro e w'' ⟨rfl, hb⟩; refine ⟨?_, hb⟩; exact rfl)))) | ((with_reducible refine flow_skipg (j := ?_) (b := ?_) ?_ ?_ ?_); rotate_left 2; (focus (with_reducible rfl)); (focus (intro u w1 hw hd; (try simp only [depH] at hd); (try simp only [ext] at hd); (try simp only [extU] at hd); (try simp only [Nat.reduceAdd] at hd); (try simp only [Nat.reduceEqDiff] at hd); (try simp only [reduceIte] at hd); (try simp only [and_true] at hd); (try simp only [true_and] at hd); simp [yielded, hd]; done))) | ((with_reducible refine flow_alloc (t := ?_) (zs := ?_) ?_ ?_ ?_ ?_); rotate_left 2; (focus (with_reducible rfl)); (focus rfl); (focus (intro u w1; go_simp; exact rfl)))))
  skip
  (try clear hc hf h); intro u w' h ha hdi; replace h := h.ins; (try simp only [World.size_alloc] at h); (try dsimp only at ha); (repeat rw [World.size_alloc] at ha); (try simp only [allH] at ha); (try simp only [ext] at ha); (try simp only [extU] at ha); (try simp only [Nat.reduceAdd] at ha); (try simp only [Nat.reduceEqDiff] at ha); (try simp only [reduceIte] at ha); (try simp only [and_true] at ha); (try simp only [true_and] at ha); have hc := h.cell; have hf := h.frozen; have hb := h.bel; clear hdi hc hf; clear x0 xl b0 b1 b2 b3 b4 b5 b6 b7 bl bf0 bf1 bf2 bf3 bf4 bf5 bf6 bf7 g0 g1 g2 g3 g4 gl cm; replace hin := hin.call hb; replace el := el.call hb; replace hBr := hBr.call hb; replace hrow := hrow.call hb; replace hbox := hbox.call hb; replace bX := bX.call hb; replace bY := bY.call hb; replace bEb := bEb.call hb; clear hb h; rename World => W4
  (try dsimp only)
  simp only [ha]
  clear ha
  have hs := el.setDet (q := e) HP.out
  have K1 := Lib.hid hs.1
  have K2 := Lib.hid (hin.grown hs.2 el.plo)
  have K3 := Lib.hid (hBr.grown hs.2 (fun h => hBr.ne_type hbox (by decide) (Option.some.inj h)))
  have K4 := Lib.hid (hrow.grown hs.2 (fun h => hrow.ne_type hbox (by decide) (Option.some.inj h)))
  have K5 := Lib.hid (bX.grown hs.2 (fun h => bX.ne_type hbox (by decide) (Option.some.inj h)))
  have K6 := Lib.hid (bY.grown hs.2 (fun h => bY.ne_type hbox (by decide) (Option.some.inj h)))
  have K7 := Lib.hid (bEb.grown hs.2 (fun h => bEb.ne_type hbox (by decide) (Option.some.inj h)))
  ((have b0 := hbox.c0); (have b1 := hbox.c1); (have b2 := hbox.c2); (have b3 := hbox.c3); (have b4 := hbox.c4); (have b5 := hbox.c5); (have b6 := hbox.c6); (have b7 := hbox.c7); (have bl := hbox.lt); (have bf0 := hbox.frozen 0); (have bf1 := hbox.frozen 1); (have bf2 := hbox.frozen 2); (have bf3 := hbox.frozen 3); (have bf4 := hbox.frozen 4); (have bf5 := hbox.frozen 5); (have bf6 := hbox.frozen 6); (have bf7 := hbox.frozen 7))
  clear hs el hin hBr hrow bX bY bEb hbox
  go_upto_region 3 with fail
  replace el := K1.out
  replace hin := K2.out
  have hBr := K3.out
  have hrow := K4.out
  have bX := K5.out
  have bY := K6.out
  have bEb := K7.out
  clear K1 K2 K3 K4 K5 K6 K7 bf0 bf1 bf2 bf3 bf4 bf5 bf6 bf7 b0 b1 b2 b3 b4 b5 b6 b7 bl
  generalize ((((W4.setCell ⟨p, 3, none⟩ (.int .u64 P1)).setCell ⟨p, 4, none⟩ (.string P2)).setCell ⟨p, 5, none⟩ (.bool P3)).setCell ⟨p, 6, none⟩ (.int .u64 P4)).setCell ⟨p, 7, none⟩ (.string P5) = W5 at *
  have hbox5 := el.box
  have hEne : ¬ Eb = f t := by omega
  have cE := each_any' (x := s.M t) (F := fun c => s.M t c / s.M t k) W5 p rb R rc t _ cs el.box hBr ht HCT.out hrow hm 249 #[.pointer (some ⟨Eb, 0, none⟩)] (enters_of Tryz.func249 (by kernel_rfl) rfl) (fun c W hc hg => by
    have hb : Bx W Eb 52 (fcs (s.M t k)) := by
      rw [← HQ.out, HA.out]; exact bEb.grown hg (fun h => hEne (Option.some.inj h))
    exact clr1_any W Eb c (s.M t c) (s.M t k) hb HNE.out (HZ.out t c ht hc) (by rw [← HQ.out]; exact hsq) (by omega))
  skip
  ((have x0 := bX.c0); (have xl := bX.lt))
  ((have y0 := bY.c0); (have yl := bY.lt))
  go_wp2_with fail
  (refine cE.mono ?_)
  rintro e1 W6 ⟨rfl, hv6, hg6⟩
  have el6 := el.set (M' := clrTo s.M t k 0) ht hg6 (by rw [vl_congr (fun c _ => clrTo_t s.M t k 0 c)]; exact hv6) (fun j c _ hj _ => clrTo_zero s.M t k hj c)
  have hin6 := hin.grown hg6 (el.rw.low t ht)
  have bX6 := bX.grown hg6 (fun h => bX.ne_type hrow (by decide) (Option.some.inj h))
  have bY6 := bY.grown hg6 (fun h => bY.ne_type hrow (by decide) (Option.some.inj h))
  clear cE hv6 hg6 el hin hBr hrow bX bY bEb hbox5 x0 xl y0 yl
  have hbox6 := el6.box
  ((have x0 := bX6.c0); (have xl := bX6.lt))
  have b0 := hbox6.c0
  have bl := hbox6.lt
  go_wp2_with fail
  clear b0 bl hbox6 x0 xl
  go_loopw [37] (fun v37 wr => ∃ r : Nat, r ≤ R ∧ v37 = .int .i64 r ∧ In lo w wr ∧ Bx wr X 186 [.pointer (some ⟨p, 0, none⟩)] ∧ Bx wr (X + 1) 3 [.int .i64 t] ∧ ElAt wr lo p R m cols (some ⟨rb, 0, none⟩) rc pv f ⟨clrTo s.M t k r, s.piv, e⟩) (fun v37 _ => R - (RowKit.intOf v37).toNat)
  case atStart => exact ⟨0, Nat.zero_le _, rfl, hin6, bX6, bY6, el6⟩
  case round =>
    clear hin6 bX6 bY6 el6
    obtain ⟨r, hr, rfl, hin, bX, bY, el⟩ := hrel
    by_cases hrR : r < R
    · have rI : (r : Int) < R := by omega
      have r0 : (0 : Int) ≤ r := by omega
      have hrw : IntKind.i64.wrap ((r : Int) + 1) = ((r + 1 : Nat) : Int) := IntWalk.i64_in _ (by omega)
      obtain ⟨rb2, cs2, he2, _, hBr, hcr⟩ := el.rw.rows r hrR
      obtain rfl : rb = rb2 := by injection he2 with h1; injection h1
      have hrow : VBx wr (f r) (vl m (clrTo s.M t k r r)) := el.rw.row r hrR
      obtain ⟨v, hv⟩ : ∃ v, v = clrTo s.M t k r r k := ⟨_, rfl⟩
      have HV := Lib.hid hv
      obtain ⟨B1, B2, B3, B4, B5, hB, hB'⟩ : ∃ A1 A2 A3 A4 A5, fracV v = .agg #[.int .u64 A1, .string A2, .bool A3, .int .u64 A4, .string A5] ∧ fcs v = [.int .u64 A1, .string A2, .bool A3, .int .u64 A4, .string A5] := ⟨_, _, _, _, _, rfl, rfl⟩
      obtain ⟨c0, c1, c2, c3, c4⟩ := VBx.eltc hrow hk (by rw [← hv]; exact hB')
      have rc0 := (hBr.cell r).trans hcr
      have rl := hBr.lt
      have fl := hrow.lt
      have hbox := el.box
      have b0 := hbox.c0
      have bl := hbox.lt
      have hfr : f r < wr.heap.size := hrow.lt
      have HCR := Lib.hid hcr
      have HB := Lib.hid hB'
      have HBV := Lib.hid hB
      skip
      ((have x0 := bX.c0); (have xl := bX.lt))
      ((have y0 := bY.c0); (have yl := bY.lt))
      clear hv hB hB' hcr he2 hbox
      go_upto_region 8 with fail
      ((obtain ⟨Cb, hCb⟩ : ∃ z, z = wr.heap.size := ⟨_, rfl⟩); (have bCb := Bx.new_at wr #[.int .u64 B1, .string B2, .bool B3, .int .u64 B4, .string B5] 52 hCb); (have hfC : f r < Cb := by rw [hCb]; exact hfr); (clear x0 xl y0 yl); (replace hin := hin.alloc (.cells #[.int .u64 B1, .string B2, .bool B3, .int .u64 B4, .string B5] 52)); (replace hBr := hBr.alloc (.cells #[.int .u64 B1, .string B2, .bool B3, .int .u64 B4, .string B5] 52)); (replace hrow := hrow.alloc (.cells #[.int .u64 B1, .string B2, .bool B3, .int .u64 B4, .string B5] 52)); (replace bX := bX.alloc (.cells #[.int .u64 B1, .string B2, .bool B3, .int .u64 B4, .string B5] 52)); (replace bY := bY.alloc (.cells #[.int .u64 B1, .string B2, .bool B3, .int .u64 B4, .string B5] 52)); (replace el := el.call ((Below.refl _ _).alloc (Nat.le_refl _) (.cells #[.int .u64 B1, .string B2, .bool B3, .int .u64 B4, .string B5] 52))); (rw [← hCb]); (clear hCb); (generalize wr.alloc (.cells #[.int .u64 B1, .string B2, .bool B3, .int .u64 B4, .string B5] 52) = W7 at *))
      clear c0 c1 c2 c3 c4 rc0 rl fl b0 bl
      ((have x0 := bX.c0); (have xl := bX.lt))
      ((have y0 := bY.c0); (have yl := bY.lt))
      ((have g0 := bCb.c0); (have g1 := bCb.c1); (have g2 := bCb.c2); (have g3 := bCb.c3); (have g4 := bCb.c4); (have gl := bCb.lt))
      by_cases hrt : r = t
      · subst hrt
        have HIN := Lib.hid hin
        have HEL := Lib.hid (el.congr (M' := clrTo s.M r k (r + 1)) fun i c _ _ => clrTo_top s.M r k i c)
        have HX1 := Lib.hid bX
        have HY1 := Lib.hid bY
        clear hin el bCb hBr hrow bX bY
        go_wp2_with fail
        exact ⟨⟨r + 1, by omega, by go_num, HIN.out, HX1.out, HY1.out, HEL.out⟩, by simp [RowKit.intOf]; omega⟩
      · have hne : ((r : Int) == t) = false := by
          have : ¬ (r : Int) = t := by omega
          simpa using this
        have hvM : v = s.M r k := by rw [HV.out]; exact clrTo_now s.M t k r k hrt
        have csg := fsign_any v
        rw [HBV.out] at csg
        obtain ⟨sg, hsg⟩ : ∃ sg, sg = isign v.num := ⟨_, rfl⟩
        rw [← hsg] at csg
        have hsg0 : sg = 0 ↔ v = 0 := by rw [hsg, isign_zero, Rat.num_eq_zero]
        have HVM := Lib.hid hvM
        clear hsg hvM
        ((go_wp2_with fail); (((with_reducible refine (csg _).mono ?_))); (rintro e wc2 ⟨rfl, hb⟩); (clear x0 xl y0 yl g0 g1 g2 g3 g4 gl csg); (replace hin := hin.call hb); (replace el := el.call hb); (replace hBr := hBr.call hb); (replace hrow := hrow.call hb); (replace bX := bX.call hb); (replace bY := bY.call hb); (replace bCb := bCb.call hb); (clear hb))
        by_cases hv0 : v = 0
        · have hs0 := hsg0.2 hv0
          subst hs0
          have HIN := Lib.hid hin
          have HEL := Lib.hid (el.congr (M' := clrTo s.M t k (r + 1)) fun i c _ _ => clrTo_skip s.M t k r (by rw [← HVM.out]; exact hv0) i c)
          have HX1 := Lib.hid bX
          have HY1 := Lib.hid bY
          clear hin el bCb hBr hrow bX bY hv0 hsg0
          go_wp2_with fail
          exact ⟨⟨r + 1, by omega, by go_num, HIN.out, HX1.out, HY1.out, HEL.out⟩, by simp [RowKit.intOf]; omega⟩
        · have hs1 : (sg == 0) = false := by
            have : ¬ sg = 0 := fun h => hv0 (hsg0.1 h)
            simpa using this
          clear hsg0
          obtain ⟨rb3, cs3, he3, _, hBt, hct3⟩ := el.rw.rows t ht
          obtain rfl : rb = rb3 := by injection he3 with h1; injection h1
          have hrowt : VBx wc2 (f t) (vl m (clrTo s.M t k r t)) := el.rw.row t ht
          have hftr : ¬ f t = f r := fun h => hrt (el.rw.inj _ _ ht hrR h).symm
          have hXr := bX.ne_type hrow (by decide)
          have hYr := bY.ne_type hrow (by decide)
          have hpr := el.box.ne_type hrow (by decide)
          have hrr := hBt.ne_type hrow (by decide)
          have hCr : ¬ Cb = f r := by omega
          have cE := each_any' (x := clrTo s.M t k r r) (F := clrTo s.M t k (r + 1) r) wc2 p rb R rc r _ cs2 el.box hBr hrR HCR.out hrow hm 250 #[.pointer (some ⟨Cb, 0, none⟩), .pointer (some ⟨X, 0, none⟩), .pointer (some ⟨X + 1, 0, none⟩)] (enters_of Tryz.func250 (by kernel_rfl) rfl) (fun c W hc hg => by
            have hCW : Bx W Cb 52 (fcs v) := by rw [HB.out]; exact bCb.grown hg (fun h => hCr (Option.some.inj h))
            have h0 := clr2_any (i := z) (j := z) (l := z + z) W Cb X (X + 1) p rb (f t) R rc m c t _ cs3 v (clrTo s.M t k r r c) (clrTo s.M t k r t) hCW (bX.grown hg (fun h => hXr (Option.some.inj h))) (bY.grown hg (fun h => hYr (Option.some.inj h))) (el.box.grown hg (fun h => hpr (Option.some.inj h))) (hBt.grown hg (fun h => hrr (Option.some.inj h))) ht hct3 (hrowt.grown hg (fun h => hftr (Option.some.inj h))) hc
              (by rw [HVM.out]; exact HZ.out r k hrR hk) (by rw [clrTo_now s.M t k r c hrt]; exact HZ.out r c hrR hc) (by rw [clrTo_t]; exact (HZ.out t c ht hc).div (HZ.out t k ht hk)) (by omega)
            have e : clrTo s.M t k r r c - v * clrTo s.M t k r t c = clrTo s.M t k (r + 1) r c := by
              rw [clrTo_now s.M t k r c hrt, clrTo_t, clrTo_next s.M t k r c hrt, HVM.out]
            rw [e] at h0
            exact h0)
          ((have x0 := bX.c0); (have xl := bX.lt))
          ((have y0 := bY.c0); (have yl := bY.lt))
          go_wp2_with fail
          (refine cE.mono ?_)
          rintro e1 W8 ⟨rfl, hv8, hg8⟩
          have HEL := Lib.hid (el.set (M' := clrTo s.M t k (r + 1)) hrR hg8 hv8 (fun j c _ hj _ => clrTo_other s.M t k r hj c))
          have HIN := Lib.hid (hin.grown hg8 (el.rw.low r hrR))
          have HX1 := Lib.hid (bX.grown hg8 (fun h => hXr (Option.some.inj h)))
          have HY1 := Lib.hid (bY.grown hg8 (fun h => hYr (Option.some.inj h)))
          clear cE hv8 hg8 hin el bCb hBr hrow bX bY hBt hrowt hct3 x0 xl y0 yl
          go_wp2_with fail
          exact ⟨⟨r + 1, by omega, by go_num, HIN.out, HX1.out, HY1.out, HEL.out⟩, by simp [RowKit.intOf]; omega⟩
    · obtain rfl : r = R := by omega
      have rI : ¬ (r : Int) < r := by omega
      have HIN := Lib.hid hin
      have HEL := Lib.hid (el.congr (M' := rowClear s.M t k) fun i c hi _ => clrTo_full s.M t k r hi)
      clear hin bX bY el
      go_wp2_with fail
      go_end0
      exact ⟨rfl, HIN.out, by have := HEL.out; rw [HE.out, HD9.out, HQ.out] at this; exact this⟩
end Gus
end
section
/- elims: swap. -/
namespace Gus
open Go Go.RowKit Go.Proofs
theorem RwAt.swap {w : World} {lo R m rb i k : Nat} {f : Nat → Nat} {M : Mx} {cs : List Value} (h : RwAt w lo R m (some ⟨rb, 0, none⟩) f M) (hB : Bx w rb 32 cs) (hlo : lo ≤ rb) (hi : i < R) (hk : k < R) (hik : i ≠ k) :
    RwAt ((w.setCell ⟨rb, i, none⟩ (.slice (some ⟨f k, 0, none⟩) m m)).setCell ⟨rb, k, none⟩ (.slice (some ⟨f i, 0, none⟩) m m)) lo R m (some ⟨rb, 0, none⟩) (fun j => if j = i then f k else if j = k then f i else f j) (rowSwap M i k) := by
  have hrow : ∀ j, j < R → cs[j]? = some (.slice (some ⟨f j, 0, none⟩) m m) := fun j hj => by
    obtain ⟨rb', cs', h1, _, h3, h4⟩ := h.rows j hj
    obtain rfl : rb = rb' := by injection h1 with h1; injection h1
    have h6 : w.heap[rb]? = some (Obj.cells cs.toArray _ (0, 0)) := hB
    have h7 : w.heap[rb]? = some (Obj.cells cs'.toArray _ (0, 0)) := h3
    rw [h6] at h7
    injection h7 with h7
    injection h7 with h8
    have h9 : cs = cs' := by simpa using h8
    rw [h9]; exact h4
  have hne : ∀ j, j < R → ¬ rb = f j := fun j hj => hB.ne_type (h.row j hj) (by decide)
  have hlen : ∀ j, j < R → j < cs.length := fun j hj => by
    have := hrow j hj
    exact (List.getElem?_eq_some_iff.1 this).1
  have hkeep : ∀ j, j < R → ∀ q, VBx w (f j) q → VBx ((w.setCell ⟨rb, i, none⟩ (.slice (some ⟨f k, 0, none⟩) m m)).setCell ⟨rb, k, none⟩ (.slice (some ⟨f i, 0, none⟩) m m)) (f j) q := fun j hj q hq =>
    (Bx.other (a := ⟨rb, i, none⟩) hq (hne j hj) _).other (a := ⟨rb, k, none⟩) (hne j hj) _
  refine ⟨fun j hj => ⟨rb, _, rfl, hlo, (hB.set i _).set k _, ?_⟩, fun j hj => ?_, fun a b ha hb hab => ?_, fun j hj => ?_⟩
  · by_cases h1 : j = i
    · subst h1
      rw [if_pos rfl, List.getElem?_set_ne (Ne.symm hik), List.getElem?_set_self (hlen j hj)]
    · rw [if_neg h1]
      by_cases h2 : j = k
      · subst h2
        rw [if_pos rfl, List.getElem?_set_self (by rw [List.length_set]; exact hlen j hj)]
      · rw [if_neg h2, List.getElem?_set_ne (fun e => h2 e.symm), List.getElem?_set_ne (fun e => h1 e.symm)]
        exact hrow j hj
  · unfold rowSwap
    by_cases h1 : j = i
    · simp only [if_pos h1]; exact hkeep k hk _ (h.row k hk)
    · simp only [if_neg h1]
      by_cases h2 : j = k
      · simp only [if_pos h2]; exact hkeep i hi _ (h.row i hi)
      · simp only [if_neg h2]; exact hkeep j hj _ (h.row j hj)
  · by_cases a1 : a = i <;> by_cases b1 : b = i
    · omega
    · rw [if_pos a1, if_neg b1] at hab
      by_cases b2 : b = k
      · rw [if_pos b2] at hab; have := h.inj _ _ hk hi hab; omega
      · rw [if_neg b2] at hab; have := h.inj _ _ hk hb hab; omega
    · rw [if_neg a1, if_pos b1] at hab
      by_cases a2 : a = k
      · rw [if_pos a2] at hab; have := h.inj _ _ hi hk hab; omega
      · rw [if_neg a2] at hab; have := h.inj _ _ ha hk hab; omega
    · rw [if_neg a1, if_neg b1] at hab
      by_cases a2 : a = k <;> by_cases b2 : b = k
      · omega
      · rw [if_pos a2, if_neg b2] at hab; have := h.inj _ _ hi hb hab; omega
      · rw [if_neg a2, if_pos b2] at hab; have := h.inj _ _ ha hi hab; omega
      · rw [if_neg a2, if_neg b2] at hab; exact h.inj _ _ ha hb hab
  · show lo ≤ (if j = i then f k else if j = k then f i else f j)
    split
    · exact h.low k hk
    · split
      · exact h.low i hi
      · exact h.low j hj
theorem rowSwap_self (M : Mx) (i r c : Nat) : rowSwap M i i r c = M r c := by
  unfold rowSwap
  by_cases h : r = i
  · rw [if_pos h, h]
  · rw [if_neg h, if_neg h]
set_option maxRecDepth 100000 in
set_option maxHeartbeats 4000000 in
theorem swap_any (w : World) (lo p R m cols rc i k : Nat) (ra : Option Addr) (pv : Value) (f : Nat → Nat) (s : El) (h : ElAt w lo p R m cols ra rc pv f s) (hi : i < R) (hk : k < R) (hlo : lo ≤ w.heap.size) :
    Calls Tryz.prog 180 #[.pointer (some ⟨p, 0, none⟩), .int .i64 (i : Nat), .int .i64 (k : Nat)] w fun e w' => e = .returned (.tuple #[]) ∧ In lo w w' ∧ ∃ f', ElAt w' lo p R m cols ra rc pv f' ⟨rowSwap s.M i k, s.piv, if i = k then s.det else -s.det⟩ := by
  have hin : In lo w w := ⟨Below.refl _ _, hlo⟩
  by_cases hik : i = k
  · subst hik
    have H1 := Lib.hid (h.congr (M' := rowSwap s.M i i) fun r c _ _ => (rowSwap_self _ _ _ _).symm)
    have hb : ((i : Int) != i) = false := by simp
    have HIN := Lib.hid hin
    clear h hin
    go_enter Tryz.func180, Tryz.ntmps180
    go_wp2_with fail
    go_end0
    exact ⟨rfl, HIN.out, f, H1.out⟩
  · obtain ⟨rb, cs, rfl, hrb, hBr, hci⟩ := h.rw.rows i hi
    have hrows := h.rw.rows k hk
    obtain ⟨rb2, cs2, he2, _, hBr2, hck⟩ := hrows
    obtain rfl : rb = rb2 := by injection he2 with h1; injection h1
    have r0 : w.cell? ⟨rb, i, none⟩ = some (.slice (some ⟨f i, 0, none⟩) m m) := (hBr.cell i).trans hci
    have r1 : w.cell? ⟨rb, k, none⟩ = some (.slice (some ⟨f k, 0, none⟩) m m) := (hBr2.cell k).trans hck
    have iR : (i : Int) < R := by omega
    have i0 : (0 : Int) ≤ i := by omega
    have kR : (k : Int) < R := by omega
    have k0 : (0 : Int) ≤ k := by omega
    have hne : ((i : Int) != k) = true := by
      have : ¬ (i : Int) = k := by omega
      simpa using this
    have rl := hBr.lt
    have HC0 := Lib.hid hci
    have HC1 : Hid (cs[k]? = some (.slice (some ⟨f k, 0, none⟩) m m)) := Lib.hid (by rw [← hBr.cell k]; exact (hBr2.cell k).trans hck)
    obtain ⟨d, hd⟩ : ∃ d, d = s.det := ⟨_, rfl⟩
    have hbox := h.box
    rw [← hd] at hbox
    obtain ⟨D1, D2, D3, D4, D5, hD, hD'⟩ : ∃ A1 A2 A3 A4 A5, fracV d = .agg #[.int .u64 A1, .string A2, .bool A3, .int .u64 A4, .string A5] ∧ fcs d = [.int .u64 A1, .string A2, .bool A3, .int .u64 A4, .string A5] := ⟨_, _, _, _, _, rfl, rfl⟩
    rw [hD'] at hbox
    have b0 := hbox.c0; have b1 := hbox.c1; have b2 := hbox.c2; have b3 := hbox.c3; have b4 := hbox.c4; have b5 := hbox.c5; have b6 := hbox.c6; have b7 := hbox.c7; have bl := hbox.lt
    have cn := fneg_any d
    rw [hD] at cn
    obtain ⟨P1, P2, P3, P4, P5, hP, hP'⟩ : ∃ A1 A2 A3 A4 A5, fracV (-d) = .agg #[.int .u64 A1, .string A2, .bool A3, .int .u64 A4, .string A5] ∧ fcs (-d) = [.int .u64 A1, .string A2, .bool A3, .int .u64 A4, .string A5] := ⟨_, _, _, _, _, rfl, rfl⟩
    rw [hP] at cn
    have HEL := Lib.hid h
    have HBR := Lib.hid hBr
    have HIN := Lib.hid hin
    have HD := Lib.hid hd
    have HP := Lib.hid hP'
    have HDF := Lib.hid hD'
    clear h hin hBr hBr2 hci hck he2 hbox hd hD hD' hP hP'
    go_enter Tryz.func180, Tryz.ntmps180
    go_upto_region 1 with fail
    have h := In.self w
    have hc := h.cell
    have hf := h.frozen
    refine wp_region_flow 24 (by kernel_rfl) (by kernel_rfl) (fun _ _ d _ _ h => by cases d <;> exact h) ?_; simp only [List.take_succ_cons, List.take_zero, List.drop_succ_cons, List.drop_zero]; simp only [putAll, Act.put, List.setIfInBounds_toArray, List.set]; (try simp only [Nat.reduceAdd]); (try simp only [Nat.zero_add]); (repeat (first | ((with_reducible refine flow_float (v := ?_) ?_ ?_ ?_); rotate_left 1; (focus (with_reducible rfl)); (focus (intro u w1 hw hd w2; (try simp only [depH] at hd); (try simp only [ext] at hd); (try simp only [extU] at hd); (try simp only [Nat.reduceAdd] at hd); (try simp only [Nat.reduceEqDiff] at hd); (try simp only [reduceIte] at hd); (try simp only [and_true] at hd); (try simp only [true_and] at hd); go_simp; exact rfl))) | ((first | ((with_reducible refine flow_pure0 (v := ?_) ?_ ?_ ?_ ?_); rotate_left 1; (focus (with_reducible rfl)); (focus rfl)) | ((with_reducible refine flow_pureg (v := ?_) (j := ?_) (b := ?_) ?_ ?_ ?_ ?_); rotate_left 3; (focus (with_reducible rfl)); (focus (intro u w1 hw hd; (try simp only [depH] at hd); (try simp only [ext] at hd); (try simp only [extU] at hd); (try simp only [Nat.reduceAdd] at hd); (try simp only [Nat.reduceEqDiff] at hd); (try simp only [reduceIte] at hd); (try simp only [and_true] at hd); (try simp only [true_and] at hd); simp [yielded, hd]; done)))); (focus (intro u w1 hw hd; (try simp only [depH] at hd); (try simp only [ext] at hd); (try simp only [extU] at hd); (try simp only [Nat.reduceAdd] at hd); (try simp only [Nat.reduceEqDiff] at hd); (try simp only [reduceIte] at hd); (try simp only [and_true] at hd); (try simp only [true_and] at hd); have hc' := hw.cell; go_simp; exact rfl))) | ((with_reducible refine flow_skipg (j := ?_) (b := ?_) ?_ ?_ ?_); rotate_left 2; (focus (with_reducible rfl)); (focus (intro u w1 hw hd; (try simp only [depH] at hd); (try simp only [ext] at hd); (try simp only [extU] at hd); (try simp only [Nat.reduceAdd] at hd); (try simp only [Nat.reduceEqDiff] at hd); (try simp only [reduceIte] at hd); (try simp only [and_true] at hd); (try simp only [true_and] at hd); simp [yielded, hd]; done))) | ((with_reducible refine flow_alloc (t := ?_) (zs := ?_) ?_ ?_ ?_ ?_); rotate_left 2; (focus (with_reducible rfl)); (focus rfl); (focus (intro u w1; go_simp; exact rfl)))))
    (try clear hc hf h); intro u w' h ha hdi; replace h := h.ins; (try simp only [World.size_alloc] at h); (try dsimp only at ha); (repeat rw [World.size_alloc] at ha); (try simp only [allH] at ha); (try simp only [ext] at ha); (try simp only [extU] at ha); (try simp only [Nat.reduceAdd] at ha); (try simp only [Nat.reduceEqDiff] at ha); (try simp only [reduceIte] at ha); (try simp only [and_true] at ha); (try simp only [true_and] at ha); have hc := h.cell; have hf := h.frozen
    (try obtain ha := ha); (try dsimp only);  simp only [ha]; clear ha hdi 
    have E0 := HEL.out.call h.bel
    have B0 := HBR.out.call h.bel
    have hg1 := (gr_cell w' ⟨rb, i, none⟩ (.slice (some ⟨f k, 0, none⟩) m m)).trans (gr_cell _ ⟨rb, k, none⟩ (.slice (some ⟨f i, 0, none⟩) m m))
    have E1 : ElAt ((w'.setCell ⟨rb, i, none⟩ (.slice (some ⟨f k, 0, none⟩) m m)).setCell ⟨rb, k, none⟩ (.slice (some ⟨f i, 0, none⟩) m m)) lo p R m cols (some ⟨rb, 0, none⟩) rc pv (fun j => if j = i then f k else if j = k then f i else f j) ⟨rowSwap s.M i k, s.piv, s.det⟩ :=
      ⟨E0.box.grown hg1 (fun e => by injection e with e; exact E0.box.ne_type B0 (by decide) e), E0.plo, E0.rcap, E0.rw.swap B0 hrb hi hk hik, ownsRow_grown E0.piv B0 (by decide) hg1⟩
    have I1 := ((HIN.out.call h.bel).setCell (p := ⟨rb, i, none⟩) hrb (.slice (some ⟨f k, 0, none⟩) m m)).setCell (p := ⟨rb, k, none⟩) hrb (.slice (some ⟨f i, 0, none⟩) m m)
    have HE1 := Lib.hid E1
    have HI1 := Lib.hid I1
    have rf0 := B0.frozen i
    have rf1 := B0.frozen k
    have r0 := (B0.cell i).trans HC0.out
    have r1 := (B0.cell k).trans HC1.out
    have rl := B0.lt
    clear E0 B0 hg1 E1 I1 h hc hf b0 b1 b2 b3 b4 b5 b6 b7 bl
    go_upto_region 2 with fail
    have E1 := HE1.out
    have I1 := HI1.out
    clear HE1 HI1 rf0 rf1 r0 r1 rl HEL HBR HIN HC0 HC1
    generalize (w'.setCell ⟨rb, i, none⟩ (.slice (some ⟨f k, 0, none⟩) m m)).setCell ⟨rb, k, none⟩ (.slice (some ⟨f i, 0, none⟩) m m) = W2 at *
    have hbox : Bx W2 p 191 (.slice (some ⟨rb, 0, none⟩) R rc :: .int .i64 cols :: pv :: fcs s.det) := E1.box
    rw [← HD.out, HDF.out] at hbox
    have b0 := hbox.c0; have b1 := hbox.c1; have b2 := hbox.c2; have b3 := hbox.c3; have b4 := hbox.c4; have b5 := hbox.c5; have b6 := hbox.c6; have b7 := hbox.c7; have bl := hbox.lt
    go_wp2_with fail
    ((with_reducible refine (cn _).mono ?_))
    rintro e W3 ⟨rfl, hb⟩
    have E3 := E1.call hb
    have I3 := I1.call hb
    have hs := E3.setDet (q := -d) HP.out
    have H1 := Lib.hid hs.1
    have H2 := Lib.hid (I3.grown hs.2 E3.plo)
    replace hbox := hbox.call hb
    clear b0 b1 b2 b3 b4 b5 b6 b7 bl hb E1 I1 E3 I3 hs cn
    have b0 := hbox.c0; have b1 := hbox.c1; have b2 := hbox.c2; have b3 := hbox.c3; have b4 := hbox.c4; have b5 := hbox.c5; have b6 := hbox.c6; have b7 := hbox.c7; have bl := hbox.lt
    have bf0 := hbox.frozen 0; have bf1 := hbox.frozen 1; have bf2 := hbox.frozen 2; have bf3 := hbox.frozen 3; have bf4 := hbox.frozen 4; have bf5 := hbox.frozen 5; have bf6 := hbox.frozen 6; have bf7 := hbox.frozen 7
    go_wp2_with fail
    go_end0
    exact ⟨rfl, H2.out, _, by have := H1.out; rw [HD.out] at this; exact this⟩
end Gus
end
