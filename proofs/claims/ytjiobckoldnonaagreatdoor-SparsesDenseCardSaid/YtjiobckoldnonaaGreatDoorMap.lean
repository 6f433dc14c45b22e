import Derived.Test.YtjiobckoldnonaaGreatDoorSpA
import Derived.DeepKeys5
import Derived.Maps.RangeWalk
import Derived.Maps.OwnSet
/- The map of a Builder: positions to fractions. -/
namespace Gus
open Go Go.RowKit Go.Proofs
theorem place_keyed : Maps.Keyed Tryz.prog 142 :=
  Maps.Keyed.of_law (deep_law_gate (by kernel_rfl) (Nat.le_of_ble_eq_true (by kernel_rfl)) (Nat.le_of_ble_eq_true (by kernel_rfl)) (by kernel_rfl) (by kernel_rfl))
abbrev posV (i k : Int) : Value := .agg #[.int .i64 i, .int .i64 k]
def posL (i k : Int) : Lit := .string (keyBytes [.int .i64 i, .int .i64 k])
theorem wf64 {i : Int} (h0 : -9223372036854775808 ≤ i) (h1 : i < 9223372036854775808) : (Lit.int .i64 i).wf = true := by
  simp [Lit.wf, IntKind.min, IntKind.max, IntKind.signed, IntKind.bits]; omega
theorem keyLits_int {P : Program} {d t : Nat} (ht : P.underlying t = some (.int .i64)) {i : Int} (hw : (Lit.int .i64 i).wf = true) : P.keyLits (d + 1) t [.int .i64 i] = some [.int .i64 i] := by
  unfold Program.keyLits
  simp [ht, hw]
theorem keyLits_int_inv {P : Program} {d t : Nat} (ht : P.underlying t = some (.int .i64)) {c : Value} {ls : List Lit} (h : P.keyLits (d + 1) t [c] = some ls) : ∃ i, c = .int .i64 i ∧ ls = [.int .i64 i] ∧ (Lit.int .i64 i).wf = true := by
  unfold Program.keyLits at h
  rw [ht] at h
  cases c <;> simp at h
  obtain ⟨⟨rfl, hw⟩, rfl⟩ := h
  exact ⟨_, rfl, rfl, hw⟩
theorem place_cells : Tryz.prog.cellsOf 142 = 2 := by kernel_rfl
theorem int_cells : Tryz.prog.cellsOf 3 = 1 := by kernel_rfl
theorem place_key : Tryz.prog.keyType 142 = true := by kernel_rfl
theorem types_pos : ∃ d, Tryz.prog.types.size = d + 1 := ⟨Tryz.prog.types.size - 1, (Nat.sub_add_cancel (Nat.le_of_ble_eq_true (by kernel_rfl))).symm⟩
theorem posL_of {i k : Int} (hi : (Lit.int .i64 i).wf = true) (hk : (Lit.int .i64 k).wf = true) : keyOf Tryz.prog 142 (posV i k) = some (posL i k) := by
  obtain ⟨d, hd⟩ := types_pos
  have h1 := keyLits_int (d := d) Tryz.underlying3 hi
  have h2 := keyLits_int (d := d) Tryz.underlying3 hk
  have hf : (posV i k).formed Tryz.prog 142 = true := by
    simp [Value.formed, Tryz.underlying142, place_cells]
  unfold keyOf
  rw [Tryz.underlying142]
  simp only [place_key, hf, Bool.and_self, if_true]
  rw [show Tryz.prog.keyLits (Tryz.prog.types.size + 1) 142 (posV i k).cells.toList = some [.int .i64 i, .int .i64 k] by
    unfold Program.keyLits
    rw [Tryz.underlying142, hd]
    simp [Value.cells, place_cells, int_cells, h1, h2]]
  rfl
theorem list_two {α : Type} : ∀ {l : List α}, l.length = 2 → ∃ a b, l = [a, b]
  | [a, b], _ => ⟨a, b, rfl⟩
theorem keyOf_struct_inv {P : Program} {k : TypeId} {fs : Array Field} {v : Value} {l : Lit} (hu : P.underlying k = some (.struct fs)) (h : keyOf P k v = some l) :
    v.formed P k = true ∧ ∃ ls, P.keyLits (P.types.size + 1) k v.cells.toList = some ls ∧ l = .string (keyBytes ls) := by
  unfold keyOf at h
  rw [hu] at h
  simp only at h
  split at h
  · rename_i hf
    rw [Bool.and_eq_true] at hf
    obtain ⟨ls, h1, h2⟩ := Option.map_eq_some_iff.1 h
    exact ⟨hf.2, ls, h1, h2.symm⟩
  · cases h
theorem formed_two {P : Program} {k : TypeId} {fs : Array Field} {v : Value} (hu : P.underlying k = some (.struct fs)) (hc : P.cellsOf k = 2) (h : v.formed P k = true) : ∃ c0 c1, v = .agg #[c0, c1] := by
  cases v <;> simp [Value.formed, hu, hc] at h
  rename_i cs
  obtain ⟨c0, c1, hcs⟩ := list_two (l := cs.toList) (by simpa using h)
  exact ⟨c0, c1, by rw [← hcs]⟩
theorem keyLits_two {P : Program} {k t d : Nat} {f0 f1 : Field} {c0 c1 : Value} {ls : List Lit} (hu : P.underlying k = some (.struct #[f0, f1])) (h0 : f0.type = t) (h1 : f1.type = t) (ho0 : f0.offset = 0) (ho1 : f1.offset = 1) (ht : P.underlying t = some (.int .i64)) (hct : P.cellsOf t = 1)
    (h : P.keyLits (d + 1 + 1) k [c0, c1] = some ls) : ∃ i j, c0 = .int .i64 i ∧ c1 = .int .i64 j ∧ ls = [.int .i64 i, .int .i64 j] ∧ (Lit.int .i64 i).wf = true ∧ (Lit.int .i64 j).wf = true := by
  unfold Program.keyLits at h
  rw [hu] at h
  simp only at h
  split at h
  · obtain ⟨l2, hl2, rfl⟩ := Option.map_eq_some_iff.1 h
    simp only [List.mapM_cons, List.mapM_nil, h0, h1, ho0, ho1, hct, List.drop_zero, List.drop_succ_cons, List.take_succ_cons, List.take_zero, List.take_nil, Option.bind_eq_bind, Option.pure_def, Option.bind_eq_some_iff, Option.some.injEq] at hl2
    obtain ⟨a, ha, b, ⟨b2, hb2, c, hc2, rfl⟩, rfl⟩ := hl2
    obtain ⟨i, rfl, rfl, hwi⟩ := keyLits_int_inv ht ha
    obtain ⟨j, rfl, rfl, hwj⟩ := keyLits_int_inv ht hb2
    subst hc2
    exact ⟨i, j, rfl, rfl, rfl, hwi, hwj⟩
  · cases h
theorem posL_inv {v : Value} {l : Lit} (h : keyOf Tryz.prog 142 v = some l) : ∃ i k : Int, v = posV i k ∧ l = posL i k ∧ (Lit.int .i64 i).wf = true ∧ (Lit.int .i64 k).wf = true := by
  obtain ⟨hf, ls, hls, rfl⟩ := keyOf_struct_inv Tryz.underlying142 h
  obtain ⟨c0, c1, rfl⟩ := formed_two Tryz.underlying142 place_cells hf
  obtain ⟨d, hd⟩ := types_pos
  rw [hd] at hls
  obtain ⟨i, j, rfl, rfl, rfl, hi, hj⟩ := keyLits_two (t := 3) Tryz.underlying142 rfl rfl rfl rfl Tryz.underlying3 int_cells hls
  exact ⟨i, j, rfl, rfl, hi, hj⟩
theorem bg_inj {m n : Nat} (h1 : lo m = lo n) (h2 : bg m = bg n) : m = n := (nat_eq_iff m n).1 ⟨h1, by rw [h2]⟩
theorem fracV_inj {p q : Rat} (h : fracV p = fracV q) : p = q := by
  simp only [fracV, Value.agg.injEq] at h
  have h' := congrArg Array.toList h
  simp only [List.cons.injEq, Value.int.injEq, Value.string.injEq, Value.bool.injEq, true_and, and_true, decide_eq_decide] at h'
  obtain ⟨h1, h2, h3, h4, h5⟩ := h'
  have hn := bg_inj h1 h2
  have hd := bg_inj h4 h5
  have := p.den_pos; have := q.den_pos
  refine Rat.ext ?_ (by omega)
  by_cases hp : p.num < 0
  · have := h3.1 hp; omega
  · have : ¬ q.num < 0 := fun h => hp (h3.2 h)
    omega
open Classical in
noncomputable def Rf (v : Value) : Option (DataW Rat × List MemPlace) := if h : ∃ q, v = fracV q then some (.held (Classical.choose h), []) else none
theorem Rf_frac (q : Rat) : Rf (fracV q) = some (.held q, []) := by
  have h : ∃ p, fracV q = fracV p := ⟨q, rfl⟩
  unfold Rf
  rw [dif_pos h, ← fracV_inj (Classical.choose_spec h)]
theorem Rf_inv {v : Value} {y : DataW Rat × List MemPlace} (h : Rf v = some y) : ∃ q, v = fracV q ∧ y = (.held q, []) := by
  by_cases hv : ∃ q, v = fracV q
  · obtain ⟨q, rfl⟩ := hv
    rw [Rf_frac] at h
    cases h; exact ⟨q, rfl, rfl⟩
  · unfold Rf at h; rw [dif_neg hv] at h; cases h
def setF (f : Nat → Nat → Rat) (i k : Nat) (q : Rat) : Nat → Nat → Rat := fun a b => if a = i ∧ b = k then q else f a b
theorem setF_same (f : Nat → Nat → Rat) (i k : Nat) (q : Rat) : setF f i k q i k = q := by unfold setF; rw [if_pos ⟨rfl, rfl⟩]
theorem setF_ne (f : Nat → Nat → Rat) {i k a b : Nat} (q : Rat) (h : ¬ (a = i ∧ b = k)) : setF f i k q a b = f a b := by unfold setF; rw [if_neg h]
theorem posL_inj {i k i' k' : Nat} (h : i < 2048) (h2 : k < 2048) (h' : i' < 2048) (h2' : k' < 2048) (e : posL i k = posL i' k') : i = i' ∧ k = k' := by
  have e1 := posL_of (i := (i : Int)) (k := (k : Int)) (wf64 (by omega) (by omega)) (wf64 (by omega) (by omega))
  have e2 := posL_of (i := (i' : Int)) (k := (k' : Int)) (wf64 (by omega) (by omega)) (wf64 (by omega) (by omega))
  rw [e] at e1
  have := place_keyed.inj e1 e2
  simp only [posV, Value.agg.injEq] at this
  have h3 := congrArg Array.toList this
  simp only [List.cons.injEq, Value.int.injEq, true_and, and_true] at h3
  omega
/-- block b is a Builder's map: the nonzero values of f within N x M -/
def BM (w : World) (b n N M : Nat) (f : Nat → Nat → Rat) : Prop :=
  ∃ D, w.ownsMap Tryz.prog 142 Rf b n D ∧ Maps.IsMap D ∧ (∀ i k, i < N → k < M → D.atKey (posL i k) (.held 0) = .held (f i k)) ∧ (∀ i k, i < N → k < M → (Maps.has D (posL i k) = true ↔ f i k ≠ 0)) ∧
    ∀ l, Maps.has D l = true → ∃ i k : Nat, i < N ∧ k < M ∧ l = posL i k
theorem BM.new (w : World) (N M : Nat) : BM (w.alloc (.map #[] 0)) w.heap.size 0 N M (fun _ _ => 0) :=
  ⟨.map [], World.ownsMap_made w _ _ _, Maps.isMap_empty, fun _ _ _ _ => rfl, fun _ _ _ _ => by simp [Maps.has], fun l h => by simp [Maps.has] at h⟩
section
variable {w w' : World} {b n N M : Nat} {f : Nat → Nat → Rat}
theorem BM.lt (h : BM w b n N M f) : b < w.heap.size := let ⟨_, h1, _⟩ := h; h1.lt
theorem BM.of_block (h : BM w b n N M f) (hb : w'.heap[b]? = w.heap[b]?) : BM w' b n N M f := by
  obtain ⟨D, ⟨es, clock, h1, h2, h3, h4⟩, hr⟩ := h
  exact ⟨D, ⟨es, clock, hb.trans h1, h2, h3, h4⟩, hr⟩
theorem BM.below {B : Nat} (h : BM w b n N M f) (hb : Below B w w') (hB : b < B) : BM w' b n N M f := h.of_block (hb.block b hB)
theorem BM.call (h : BM w b n N M f) (hb : Below w.heap.size w w') : BM w' b n N M f := h.below hb h.lt
theorem BM.other {a : Addr} (h : BM w b n N M f) (hne : a.block ≠ b) (v : Value) : BM (w.setCell a v) b n N M f := h.of_block (heap_setCell_other w a b v (Ne.symm hne))
theorem BM.alloc (h : BM w b n N M f) (o : Obj) : BM (w.alloc o) b n N M f := h.of_block (Below.heap_alloc w o b h.lt)
theorem BM.drew (h : BM w b n N M f) : BM w.drew b n N M f := h
theorem BM.ext {g : Nat → Nat → Rat} (h : BM w b n N M f) (hg : ∀ i k, i < N → k < M → g i k = f i k) : BM w b n N M g := by
  obtain ⟨D, h1, h2, h3, h4, h5⟩ := h
  exact ⟨D, h1, h2, fun i k hi hk => by rw [h3 i k hi hk, hg i k hi hk], fun i k hi hk => by rw [h4 i k hi hk, hg i k hi hk], h5⟩
theorem posL_at {i k : Nat} (hi : i < 2048) (hk : k < 2048) : keyOf Tryz.prog 142 (posV i k) = some (posL i k) := posL_of (wf64 (by omega) (by omega)) (wf64 (by omega) (by omega))
theorem zeroFrac (w : World) : (zeroValue 56).run Tryz.prog w = .ok (fracV 0) w := Tryz.zeroValue56 w
theorem BM.lookup (h : BM w b n N M f) (hN : N ≤ 2048) (hM : M ≤ 2048) {i k : Nat} (hi : i < N) (hk : k < M) : (Instr.lookup 138 (.map (some b)) (posV i k) false).run Tryz.prog w = .ok (fracV (f i k)) w := by
  obtain ⟨D, h1, h2, h3, h4, h5⟩ := h
  obtain ⟨v, ps, hr, hv⟩ := h1.lookup place_keyed Tryz.underlying138 (zeroFrac w) (Rf_frac 0) (posL_at (show i < 2048 by omega) (show k < 2048 by omega))
  rw [h3 i k hi hk] at hv
  obtain ⟨q, rfl, hq⟩ := Rf_inv hv
  cases hq
  exact hr
theorem BM.update (h : BM w b n N M f) (hN : N ≤ 2048) (hM : M ≤ 2048) {i k : Nat} (hi : i < N) (hk : k < M) {q : Rat} (hq : q ≠ 0) (hn : n < maxLen) :
    ∃ w', (Instr.mapUpdate 138 (.map (some b)) (posV i k) (fracV q)).run Tryz.prog w = .ok () w' ∧ BM w' b (n + 1) N M (setF f i k q) ∧ w.grownBy w' (some b) := by
  obtain ⟨D, h1, h2, h3, h4, h5⟩ := h
  have hkey := posL_at (show i < 2048 by omega) (show k < 2048 by omega)
  have hl : WideAt.IsKeyLit (posL i k) := place_keyed.key hkey
  obtain ⟨w', hr, ho, hg⟩ := h1.update place_keyed Tryz.underlying138 hn hkey (Rf_frac q)
  have hne : ∀ a c : Nat, a < N → c < M → ¬ (a = i ∧ c = k) → posL a c ≠ posL i k := fun a c ha hc hne he => hne (posL_inj (by omega) (by omega) (by omega) (by omega) he)
  refine ⟨w', hr, ⟨_, ho, h2.put _ _, fun a c ha hc => ?_, fun a c ha hc => ?_, fun l hl' => ?_⟩, hg⟩
  · by_cases he : a = i ∧ c = k
    · obtain ⟨rfl, rfl⟩ := he
      rw [Maps.atKey_put_same h2 hl, setF_same]
    · rw [Maps.atKey_put_other (hne a c ha hc he), h3 a c ha hc, setF_ne _ _ he]
  · by_cases he : a = i ∧ c = k
    · obtain ⟨rfl, rfl⟩ := he
      rw [Maps.has_put_same h2 hl, setF_same]; simp [hq]
    · rw [Maps.has_put_other (hne a c ha hc he), h4 a c ha hc, setF_ne _ _ he]
  · by_cases he : l = posL i k
    · exact ⟨i, k, hi, hk, he⟩
    · rw [Maps.has_put_other he] at hl'
      exact h5 l hl'
theorem BM.drop (h : BM w b n N M f) (hN : N ≤ 2048) (hM : M ≤ 2048) {i k : Nat} (hi : i < N) (hk : k < M) (ty : TypeId) :
    ∃ w', (Builtin.delete_ #[138, 142] ty #[.map (some b), posV i k]).run Tryz.prog w = .ok (.tuple #[]) w' ∧ BM w' b n N M (setF f i k 0) ∧ w.mapTurned w' b := by
  obtain ⟨D, h1, h2, h3, h4, h5⟩ := h
  have hkey := posL_at (show i < 2048 by omega) (show k < 2048 by omega)
  obtain ⟨w', hr, ho, hg⟩ := h1.drop place_keyed Tryz.underlying138 hkey ty
  have hne : ∀ a c : Nat, a < N → c < M → ¬ (a = i ∧ c = k) → posL a c ≠ posL i k := fun a c ha hc hne he => hne (posL_inj (by omega) (by omega) (by omega) (by omega) he)
  refine ⟨w', hr, ⟨_, ho, h2.del _, fun a c ha hc => ?_, fun a c ha hc => ?_, fun l hl' => ?_⟩, hg⟩
  · by_cases he : a = i ∧ c = k
    · obtain ⟨rfl, rfl⟩ := he
      rw [Maps.atKey_del_same, setF_same]
    · rw [Maps.atKey_del_other (hne a c ha hc he), h3 a c ha hc, setF_ne _ _ he]
  · by_cases he : a = i ∧ c = k
    · obtain ⟨rfl, rfl⟩ := he
      rw [Maps.has_del_same, setF_same]; simp
    · rw [Maps.has_del_other (hne a c ha hc he), h4 a c ha hc, setF_ne _ _ he]
  · by_cases he : l = posL i k
    · rw [he, Maps.has_del_same] at hl'; cases hl'
    · rw [Maps.has_del_other he] at hl'
      exact h5 l hl'
end
end Gus
