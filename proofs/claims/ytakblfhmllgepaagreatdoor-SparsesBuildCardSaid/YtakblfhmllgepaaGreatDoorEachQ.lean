/- Proved here: parts of the proof: Each Acc Turn. Conditions: those that each theorem states. -/
import Derived.Test.YtakblfhmllgepaaGreatDoorSprQ
section
/- (Sparse).each: a function called for every entry. -/
namespace Gus
open Go Go.RowKit Go.Proofs
/-- the entries of rows, with their positions -/
def itemsF : Nat → List (List Ent) → List (Nat × Nat × Rat)
  | _, [] => []
  | i, es :: rows => es.map (fun e => (i, e.1, e.2)) ++ itemsF (i + 1) rows
theorem itemsF_drop {rows : List (List Ent)} {k : Nat} (hk : k < rows.length) : itemsF k (rows.drop k) = (rows.getD k []).map (fun e => (k, e.1, e.2)) ++ itemsF (k + 1) (rows.drop (k + 1)) := by
  rw [drop_getD rows [] hk]; rfl
set_option maxRecDepth 100000 in
set_option maxHeartbeats 4000000 in
theorem each_any (Inv : List (Nat × Nat × Rat) → World → Prop) (w0 w : World) (v : Value) (r c : Nat) (rows : List (List Ent)) (g : Nat) (cb : Array Value) (eg : ∀ args w, (callFunc g args).run Tryz.prog w = .ok (.enter g args) w)
    (hsp : SpAt w0 v r c rows) (hin : ∀ t W, Inv t W → In w0.heap.size w0 W) (hst : ∀ t W W', Inv t W → Below W.heap.size W W' → Inv t W')
    (hcl : ∀ i k q t W, Inv ((i, k, q) :: t) W → Calls Tryz.prog g (#[.int .i64 (i : Nat), .int .i64 (k : Nat), fracV q] ++ cb) W fun e w' => e = .returned (.tuple #[]) ∧ Inv t w') (hr : rows.length ≤ 4096) (hl : ∀ i, (rows.getD i []).length ≤ 4096) (h0 : Inv (itemsF 0 rows) w) :
    Calls Tryz.prog 36 #[v, .func (.func g) #[] cb] w fun e w' => e = .returned (.tuple #[]) ∧ Inv [] w' := by
  obtain ⟨a, cap, rfl, hrow⟩ := hsp
  obtain ⟨L, hL⟩ : ∃ L, L = rows.length := ⟨_, rfl⟩
  rw [← hL] at hr hrow ⊢
  have HL := Lib.hid hL
  have HLL := Lib.hid hl
  have HS := Lib.hid hst
  have HP := Lib.hid hrow
  have HC := Lib.hid hcl
  have HI := Lib.hid hin
  have H0 := Lib.hid (hst _ _ _ h0 ((Below.refl _ _).alloc (Nat.le_refl _) (.cells #[.int .i64 (r : Int), .int .i64 (c : Int), .slice a L cap] 63)))
  clear hL hl hst hrow hcl h0 hin
  go_enter Tryz.func36, Tryz.ntmps36
  go_wp2_with fail
  go_loopw [11] (fun v11 wr => ∃ i : Nat, i ≤ L ∧ v11 = .int .i64 i ∧ Hid (Inv (itemsF i (rows.drop i)) wr)) (fun v11 _ => L - (RowKit.intOf v11).toNat)
  case atStart => exact ⟨0, Nat.zero_le _, rfl, H0⟩
  case round =>
    clear H0
    obtain ⟨i, hi, rfl, HV⟩ := hrel
    by_cases hiL : i < L
    · obtain ⟨b, off, x, rfl, hb, hcx, hxr⟩ := HP.out i hiL
      obtain ⟨es, hes⟩ : ∃ es, es = rows.getD i [] := ⟨_, rfl⟩
      have hdr := itemsF_drop (rows := rows) (k := i) (by rw [← HL.out]; exact hiL)
      rw [← hes] at hxr hdr
      have hv := HV.out
      rw [hdr] at hv
      have hin0 := HI.out _ _ hv
      obtain ⟨tl, htl⟩ : ∃ tl, tl = itemsF (i + 1) (rows.drop (i + 1)) := ⟨_, rfl⟩
      rw [← htl] at hv
      have hlen := HLL.out i
      rw [← hes] at hlen
      have hxg := hxr.g
      obtain ⟨xa, xc, rfl, _⟩ := hxr
      obtain ⟨K, hK⟩ : ∃ K, K = es.length := ⟨_, rfl⟩
      have hcx2 : wr.cell? ⟨b, off + i, none⟩ = some (.slice xa K xc) := by rw [hin0.cell b _ hb, hK]; exact hcx
      rw [← hK] at hlen
      have hbw : b < wr.heap.size := by have := hin0.siz; omega
      have hiI : (i : Int) < L := by omega
      have hi0 : (0 : Int) ≤ i := by omega
      have HXR := Lib.hid hxg
      have HT := Lib.hid htl
      have HK := Lib.hid hK
      have HVV : Hid (Inv ((es.drop 0).map (fun e => (i, e.1, e.2)) ++ tl) wr) := Lib.hid hv
      clear hcx hxg hes hdr hv htl hK HV hin0
      go_wp2_with fail
      go_loopw [18] (fun v18 wq => ∃ j : Nat, j ≤ K ∧ v18 = .int .i64 j ∧ Hid (Inv ((es.drop j).map (fun e => (i, e.1, e.2)) ++ tl) wq)) (fun v18 _ => K - (RowKit.intOf v18).toNat)
      case atStart => exact ⟨0, Nat.zero_le _, rfl, HVV⟩
      case round =>
        clear HVV hcx2 hbw
        obtain ⟨j, hj, rfl, HV⟩ := hrel
        by_cases hjK : j < K
        · obtain ⟨b2, off2, cap2, A1, A2, A3, A4, A5, hv, hb2, hf1, hf2, e0, e1, e2, e3, e4, e5⟩ := HXR.out.at (i := j) (by rw [List.length_map, ← HK.out]; exact hjK)
          have hdr := drop_getD es (0, 0) (show j < es.length by rw [← HK.out]; exact hjK)
          have hgd : (es.map cI).getD j (0, 0) = cI (es.getD j (0, 0)) := by
            simp only [List.getD_eq_getElem?_getD, List.getElem?_map, List.getElem?_eq_getElem (show j < es.length by rw [← HK.out]; exact hjK)]; rfl
          rw [hgd] at e0 hf1 hf2
          obtain ⟨e, he⟩ : ∃ e, e = es.getD j (0, 0) := ⟨_, rfl⟩
          rw [← he] at hdr e0 hf1 hf2
          have hI := HV.out
          rw [hdr, List.map_cons, List.cons_append] at hI
          obtain ⟨col, q, rfl⟩ : ∃ col q, e = (col, q) := ⟨e.1, e.2, rfl⟩
          simp only [cI] at e0 hf1 hf2 hI
          have hin0 := HI.out _ _ hI
          rw [← hin0.cell b2 _ hb2] at e0 e1 e2 e3 e4 e5
          have hbw2 : b2 < wr.heap.size := by have := hin0.siz; omega
          simp only [Value.slice.injEq, List.length_map] at hv
          obtain ⟨rfl, _, hcc⟩ := hv
          subst hcc
          have hjI : (j : Int) < K := by omega
          have hj0 : (0 : Int) ≤ j := by omega
          have hjw : IntKind.i64.wrap ((j : Int) + 1) = ((j + 1 : Nat) : Int) := IntWalk.i64_in _ (by omega)
          have h4 := HC.out i col q _ (wr.alloc (.cells #[.int .i64 col, .int .u64 A1, .string A2, .bool A3, .int .u64 A4, .string A5] 97)) (HS.out _ _ _ hI ((Below.refl _ _).alloc (Nat.le_refl _) _))
          rw [hf2] at h4
          have HF := Lib.hid hf1
          clear hdr he hf1 hf2 HV hI hgd hin0
          go_wp2_with fail
          (refine h4.mono ?_)
          rintro e w2 ⟨rfl, hI2⟩
          have HI2 := Lib.hid hI2
          clear hI2 h4 e0 e1 e2 e3 e4 e5 hbw2
          go_wp2_with fail
          exact ⟨⟨j + 1, by omega, by go_num, HI2⟩, by simp [RowKit.intOf]; omega⟩
        · have hjK' : j = K := by omega
          have hI := HV.out
          rw [List.drop_eq_nil_of_le (by rw [← HK.out]; omega), List.map_nil, List.nil_append, HT.out] at hI
          have HI2 := Lib.hid hI
          have hiw : IntKind.i64.wrap ((i : Int) + 1) = ((i + 1 : Nat) : Int) := IntWalk.i64_in _ (by omega)
          have hjI : ¬ (j : Int) < K := by omega
          clear hI HV
          go_wp2_with fail
          exact ⟨⟨i + 1, by omega, by go_num, HI2⟩, by simp [RowKit.intOf]; omega⟩
    · have hI := HV.out
      rw [List.drop_eq_nil_of_le (by rw [← HL.out]; omega)] at hI
      have HI2 : Hid (Inv [] wr) := Lib.hid hI
      have hiI : ¬ (i : Int) < L := by omega
      clear hI
      go_wp2_with fail
      go_end0
      exact ⟨rfl, HI2.out⟩
end Gus
end
section
/- Matrices by their values; builders filled by each. -/
namespace Gus
open Go Go.RowKit Go.Proofs
def mrows (r c : Nat) (f : Nat → Nat → Rat) : List (List Ent) := rowsL r fun i => rowOf (f i) c
/-- v is the r by c matrix with these values -/
def SpM (w : World) (v : Value) (r c : Nat) (f : Nat → Nat → Rat) : Prop := SpAt w v r c (mrows r c f)
def SpN (w : World) (lo : Nat) (v : Value) (r c : Nat) (f : Nat → Nat → Rat) : Prop := SpOwn w lo v r c fun i => rowOf (f i) c
theorem SpN.m {w : World} {lo : Nat} {v : Value} {r c : Nat} {f : Nat → Nat → Rat} (h : SpN w lo v r c f) : SpM w v r c f := SpOwn.at h
theorem SpN.call {w w' : World} {lo : Nat} {v : Value} {r c : Nat} {f : Nat → Nat → Rat} (h : SpN w lo v r c f) (hb : Below w.heap.size w w') : SpN w' lo v r c f := SpOwn.call h hb
theorem SpM.call {w w' : World} {v : Value} {r c : Nat} {f : Nat → Nat → Rat} (h : SpM w v r c f) (hb : Below w.heap.size w w') : SpM w' v r c f := SpAt.call h hb
theorem mrows_length (r c : Nat) (f : Nat → Nat → Rat) : (mrows r c f).length = r := rowsL_length _ _
theorem mrows_getD {r : Nat} (c : Nat) (f : Nat → Nat → Rat) {i : Nat} (hi : i < r) : (mrows r c f).getD i [] = rowOf (f i) c := rowsL_getD _ hi
theorem mrows_row (r c : Nat) (f : Nat → Nat → Rat) (i : Nat) : ((mrows r c f).getD i []).length ≤ c := by
  by_cases hi : i < r
  · rw [mrows_getD c f hi]; exact rowOf_length _ _
  · rw [List.getD_eq_getElem?_getD, List.getElem?_eq_none (by rw [mrows_length]; omega)]; exact Nat.zero_le _
theorem rowOf_congr {g h : Nat → Rat} {M : Nat} (e : ∀ k, k < M → g k = h k) : rowOf g M = rowOf h M := by
  unfold rowOf
  have e1 : (List.range M).filter (fun k => g k != 0) = (List.range M).filter (fun k => h k != 0) := List.filter_congr fun k hk => by rw [e k (List.mem_range.1 hk)]
  rw [e1]
  exact List.map_congr_left fun k hk => by rw [e k (List.mem_range.1 (List.mem_filter.1 hk).1)]
theorem mrows_congr {r c : Nat} {f g : Nat → Nat → Rat} (e : ∀ i k, i < r → k < c → f i k = g i k) : mrows r c f = mrows r c g := by
  unfold mrows rowsL
  exact List.map_congr_left fun i hi => rowOf_congr fun k hk => e i k (List.mem_range.1 hi) hk
/-- the entries of a matrix, row by row -/
def items (r c : Nat) (f : Nat → Nat → Rat) : List (Nat × Nat × Rat) := itemsF 0 (mrows r c f)
theorem mem_itemsF : ∀ {rows : List (List Ent)} {i0 i k : Nat} {q : Rat}, (i, k, q) ∈ itemsF i0 rows ↔ i0 ≤ i ∧ i - i0 < rows.length ∧ (k, q) ∈ rows.getD (i - i0) []
  | [], i0, i, k, q => by simp [itemsF]
  | es :: rows, i0, i, k, q => by
    unfold itemsF
    rw [List.mem_append, List.mem_map, mem_itemsF]
    constructor
    · rintro (⟨⟨a, b⟩, h1, h2⟩ | ⟨h1, h2, h3⟩)
      · cases h2
        refine ⟨Nat.le_refl _, by simp, ?_⟩
        simpa using h1
      · refine ⟨by omega, by simp; omega, ?_⟩
        rw [show i - i0 = (i - (i0 + 1)) + 1 by omega]
        simpa using h3
    · rintro ⟨h1, h2, h3⟩
      by_cases h : i = i0
      · subst h
        exact .inl ⟨(k, q), by simpa using h3, rfl⟩
      · refine .inr ⟨by omega, by simp at h2; omega, ?_⟩
        rw [show i - i0 = (i - (i0 + 1)) + 1 by omega] at h3
        simpa using h3
theorem mem_items {r c i k : Nat} {f : Nat → Nat → Rat} {q : Rat} : (i, k, q) ∈ items r c f ↔ i < r ∧ k < c ∧ f i k ≠ 0 ∧ q = f i k := by
  unfold items
  rw [mem_itemsF, mrows_length, Nat.sub_zero]
  constructor
  · rintro ⟨_, h2, h3⟩
    rw [mrows_getD c f h2, mem_rowOf] at h3
    exact ⟨h2, h3⟩
  · rintro ⟨h1, h2⟩
    refine ⟨Nat.zero_le _, h1, ?_⟩
    rw [mrows_getD c f h1, mem_rowOf]
    exact h2
theorem itemsF_length : ∀ (rows : List (List Ent)) (i0 c : Nat), (∀ es ∈ rows, es.length ≤ c) → (itemsF i0 rows).length ≤ rows.length * c
  | [], _, _, _ => by simp [itemsF]
  | es :: rows, i0, c, h => by
    unfold itemsF
    rw [List.length_append, List.length_map, List.length_cons, Nat.add_mul, Nat.one_mul]
    have h1 := h es (.head _)
    have h2 := itemsF_length rows (i0 + 1) c (fun e he => h e (List.mem_cons_of_mem _ he))
    omega
theorem items_length (r c : Nat) (f : Nat → Nat → Rat) : (items r c f).length ≤ r * c := by
  have := itemsF_length (mrows r c f) 0 c (fun es he => by
    obtain ⟨i, _, rfl⟩ := List.mem_map.1 he
    exact rowOf_length _ _)
  rw [mrows_length] at this
  exact this
/-- an addition to an entry -/
def addF (f : Nat → Nat → Rat) (x : Nat × Nat × Rat) : Nat → Nat → Rat := setF f x.1 x.2.1 (f x.1 x.2.1 + x.2.2)
def foldA (f : Nat → Nat → Rat) (L : List (Nat × Nat × Rat)) : Nat → Nat → Rat := L.foldl addF f
/-- what is added at a position -/
def sumAt (L : List (Nat × Nat × Rat)) (a c : Nat) : Rat := match L with
  | [] => 0
  | x :: L => (if x.1 = a ∧ x.2.1 = c then x.2.2 else 0) + sumAt L a c
theorem foldA_at : ∀ (L : List (Nat × Nat × Rat)) (f : Nat → Nat → Rat) (a c : Nat), foldA f L a c = f a c + sumAt L a c
  | [], f, a, c => by simp [foldA, sumAt, Rat.add_zero]
  | x :: L, f, a, c => by
    show foldA (addF f x) L a c = _
    rw [foldA_at L, sumAt]
    unfold addF setF
    by_cases h : a = x.1 ∧ c = x.2.1
    · obtain ⟨rfl, rfl⟩ := h
      rw [if_pos ⟨rfl, rfl⟩, if_pos ⟨rfl, rfl⟩, Rat.add_assoc]
    · rw [if_neg h, if_neg (fun e => h ⟨e.1.symm, e.2.symm⟩), Rat.zero_add]
theorem sumAt_append (L M : List (Nat × Nat × Rat)) (a c : Nat) : sumAt (L ++ M) a c = sumAt L a c + sumAt M a c := by
  induction L with
  | nil => simp [sumAt, Rat.zero_add]
  | cons x L ih => rw [List.cons_append, sumAt, sumAt, ih, Rat.add_assoc]
theorem sumAt_zero {L : List (Nat × Nat × Rat)} {a c : Nat} (h : ∀ x ∈ L, ¬ (x.1 = a ∧ x.2.1 = c)) : sumAt L a c = 0 := by
  induction L with
  | nil => rfl
  | cons x L ih => rw [sumAt, if_neg (h x (.head _)), ih (fun y hy => h y (List.mem_cons_of_mem _ hy)), Rat.zero_add]
/-- positions that occur once at most -/
theorem sumAt_once {L : List (Nat × Nat × Rat)} {a c : Nat} {q : Rat} (hp : L.Pairwise fun x y => ¬ (x.1 = y.1 ∧ x.2.1 = y.2.1)) (h : (a, c, q) ∈ L) : sumAt L a c = q := by
  induction L with
  | nil => cases h
  | cons x L ih =>
    rw [List.pairwise_cons] at hp
    rw [sumAt]
    rcases List.mem_cons.1 h with h1 | h1
    · subst h1
      rw [if_pos ⟨rfl, rfl⟩, sumAt_zero (fun y hy e => hp.1 y hy ⟨e.1.symm, e.2.symm⟩), Rat.add_zero]
    · rw [if_neg (fun e => hp.1 _ h1 e), ih hp.2 h1, Rat.zero_add]
theorem itemsF_once : ∀ (rows : List (List Ent)) (i0 : Nat), (∀ es ∈ rows, Onc es) → (itemsF i0 rows).Pairwise fun x y => ¬ (x.1 = y.1 ∧ x.2.1 = y.2.1)
  | [], _, _ => .nil
  | es :: rows, i0, h => by
    unfold itemsF
    rw [List.pairwise_append]
    refine ⟨?_, itemsF_once rows (i0 + 1) (fun e he => h e (List.mem_cons_of_mem _ he)), ?_⟩
    · rw [List.pairwise_map]
      exact (h es (.head _)).imp fun h e => h e.2
    · rintro x hx ⟨i, k, q⟩ hy ⟨e1, e2⟩
      obtain ⟨a, _, rfl⟩ := List.mem_map.1 hx
      have := (mem_itemsF.1 hy).1
      simp only at e1
      omega
theorem asc_onc {es : List Ent} (h : Asc es) : Onc es := h.imp fun h => by omega
theorem items_once (r c : Nat) (f : Nat → Nat → Rat) : (items r c f).Pairwise fun x y => ¬ (x.1 = y.1 ∧ x.2.1 = y.2.1) :=
  itemsF_once _ _ fun es he => by
    obtain ⟨i, _, rfl⟩ := List.mem_map.1 he
    exact asc_onc (rowOf_asc _ _)
/-- the sum of the entries at a position, behind a map of positions -/
theorem sumAt_items {r c : Nat} {f : Nat → Nat → Rat} (tr : Nat → Nat → Nat × Nat) (h : Nat → Nat → Rat → Rat) (hinj : ∀ i k i' k', tr i k = tr i' k' → i = i' ∧ k = k') (i k : Nat) (hi : i < r) (hk : k < c) (h0 : h i k 0 = 0) :
    sumAt ((items r c f).map fun x => ((tr x.1 x.2.1).1, (tr x.1 x.2.1).2, h x.1 x.2.1 x.2.2)) (tr i k).1 (tr i k).2 = h i k (f i k) := by
  by_cases hz : f i k = 0
  · rw [sumAt_zero, hz, h0]
    rintro x hx ⟨e1, e2⟩
    obtain ⟨⟨a, b, q⟩, hy, rfl⟩ := List.mem_map.1 hx
    have := hinj a b i k (Prod.ext e1 e2)
    obtain ⟨rfl, rfl⟩ := this
    exact (mem_items.1 hy).2.2.1 hz
  · refine sumAt_once ?_ (List.mem_map.2 ⟨(i, k, f i k), mem_items.2 ⟨hi, hk, hz, rfl⟩, rfl⟩)
    rw [List.pairwise_map]
    exact (items_once r c f).imp fun hn e => hn (by
      have := hinj _ _ _ _ (Prod.ext e.1 e.2)
      exact this)
end Gus
end
section
/- Builders filled by each; sparses.Turn. -/
namespace Gus
open Go Go.RowKit Go.Proofs
theorem SzK_foldA {j s : Nat} {f : Nat → Nat → Rat} {x : Nat × Nat × Rat} (hf : ∀ a c, SzK s (f a c)) (hx : SzK j x.2.2) : ∀ a c, SzK (s + j + 1) (addF f x a c) := by
  intro a c
  unfold addF setF
  split
  · exact (hf _ _).add hx
  · exact (hf a c).mono (by omega)
/-- a builder filled by a function that adds one value for every entry -/
theorem each_build (w0 w : World) (v : Value) (r c : Nat) (f : Nat → Nat → Rat) (g : Nat) (cb : Array Value) (eg : ∀ args w, (callFunc g args).run Tryz.prog w = .ok (.enter g args) w)
    (φ : Nat × Nat × Rat → Nat × Nat × Rat) (p b n0 R C j s0 : Nat) (f0 : Nat → Nat → Rat) (hsp : SpM w0 v r c f) (hin : In w0.heap.size w0 w) (hb : w0.heap.size ≤ b) (hr : r ≤ 2048) (hc : c ≤ 2048)
    (hB : BB w p b n0 R C f0) (hs0 : ∀ a c, SzK s0 (f0 a c)) (hφ : ∀ x ∈ items r c f, (φ x).1 < R ∧ (φ x).2.1 < C ∧ SzK j (φ x).2.2) (hn : n0 + (items r c f).length < maxLen)
    (hcl : ∀ i k q W n f', (i, k, q) ∈ items r c f → w.grownBy W (some b) → BB W p b n R C f' → (∀ a e, SzK (s0 + (items r c f).length * (j + 1) - (j + 1)) (f' a e)) → n < maxLen →
      Calls Tryz.prog g (#[.int .i64 (i : Nat), .int .i64 (k : Nat), fracV q] ++ cb) W fun e w' => e = .returned (.tuple #[]) ∧ BB w' p b (n + 1) R C (addF f' (φ (i, k, q))) ∧ W.grownBy w' (some b)) :
    Calls Tryz.prog 36 #[v, .func (.func g) #[] cb] w fun e w' => e = .returned (.tuple #[]) ∧ BB w' p b (n0 + (items r c f).length) R C (foldA f0 ((items r c f).map φ)) ∧ w.grownBy w' (some b) := by
  have key := each_any (fun t W => w.grownBy W (some b) ∧ (∀ x ∈ t, x ∈ items r c f) ∧ t.length ≤ (items r c f).length ∧ ∃ f', BB W p b (n0 + ((items r c f).length - t.length)) R C f' ∧ (∀ a e, SzK (s0 + ((items r c f).length - t.length) * (j + 1)) (f' a e)) ∧ foldA f' (t.map φ) = foldA f0 ((items r c f).map φ))
    w0 w v r c (mrows r c f) g cb eg hsp
    (fun t W h => ⟨⟨h.1.os.trans hin.bel.os, h.1.tape.trans hin.bel.tape, h.1.output.trans hin.bel.output, Nat.le_trans hin.bel.size h.1.size, fun i hi => (h.1.block i (Nat.lt_of_lt_of_le hi hin.siz) (by simp; omega)).trans (hin.bel.block i hi)⟩, Nat.le_trans hin.siz h.1.size⟩)
    (fun t W W' h hbel => ⟨gr_bel h.1 hbel, h.2.1, h.2.2.1, by
      obtain ⟨f', h1, h2, h3⟩ := h.2.2.2
      exact ⟨f', ⟨h1.1.call hbel, h1.2.call hbel⟩, h2, h3⟩⟩)
    (fun i k q t W h => by
      obtain ⟨h1, h2, h3, f', h4, h5, h6⟩ := h
      have hx := h2 _ (.head _)
      rw [List.length_cons] at h3 h4 h5
      obtain ⟨T, hT⟩ : ∃ T, T = (items r c f).length := ⟨_, rfl⟩
      rw [← hT] at h3 h4 h5 hn hcl ⊢
      have hmul : (T - (t.length + 1)) * (j + 1) + (j + 1) ≤ T * (j + 1) := by
        rw [← Nat.succ_mul]; exact Nat.mul_le_mul_right _ (by omega)
      refine (hcl i k q W _ f' hx h1 h4 (fun a e => (h5 a e).mono (by omega)) (by omega)).mono ?_
      rintro e w' ⟨rfl, h7, h8⟩
      refine ⟨rfl, h1.trans h8, fun x hx => h2 x (List.mem_cons_of_mem _ hx), by omega, _, ?_, ?_, h6⟩
      · rw [show T - t.length = (T - (t.length + 1)) + 1 by omega, ← Nat.add_assoc]; exact h7
      · intro a e
        refine (SzK_foldA h5 (hφ _ hx).2.2 a e).mono ?_
        rw [show T - t.length = (T - (t.length + 1)) + 1 by omega, Nat.succ_mul]; omega)
    (by rw [mrows_length]; omega) (fun i => Nat.le_trans (mrows_row r c f i) (by omega))
    ⟨⟨rfl, rfl, rfl, Nat.le_refl _, fun _ _ _ => rfl⟩, fun x hx => hx, Nat.le_refl _, f0, by rw [show itemsF 0 (mrows r c f) = items r c f from rfl, Nat.sub_self]; exact hB, by rw [show itemsF 0 (mrows r c f) = items r c f from rfl, Nat.sub_self, Nat.zero_mul]; exact hs0, rfl⟩
  refine key.mono ?_
  rintro e w' ⟨rfl, h1, _, _, f', h4, _, h6⟩
  refine ⟨rfl, ?_, h1⟩
  rw [← h6]
  simp only [List.length_nil, Nat.sub_zero] at h4
  exact h4
set_option maxRecDepth 100000 in
set_option maxHeartbeats 1000000 in
theorem turn1_any {s j : Nat} (W : World) (q p b n N M : Nat) (f : Nat → Nat → Rat) (i k : Nat) (x : Rat) (hq : W.cell? ⟨q, 0, none⟩ = some (.pointer (some ⟨p, 0, none⟩))) (hB : BB W p b n N M f) (hi : k < N) (hk : i < M) (hN : N ≤ 2048) (hM : M ≤ 2048) (hn : n < maxLen) (hpb : p ≠ b)
    (hs : SzK s (f k i)) (hj : SzK j x) (hsj : s + j + 1 < 17592186044416) :
    Calls Tryz.prog 51 #[.int .i64 i, .int .i64 k, fracV x, .pointer (some ⟨q, 0, none⟩)] W fun e w' => e = .returned (.tuple #[]) ∧ BB w' p b (n + 1) N M (setF f k i (f k i + x)) ∧ W.grownBy w' (some b) := by
  have h4 := fun o => badd_in (W.alloc o) p b n N M f k i x ⟨hB.1.alloc o, hB.2.alloc o⟩ hi hk hN hM hn hpb hs hj hsj
  have hqW := World.block_lt_of_cell? W _ hq
  simp only at hqW
  clear hB hs hj hsj
  go_enter Tryz.func51, Tryz.ntmps51
  go_wp2_with fail
  ((with_reducible refine (h4 _).mono ?_))
  rintro e w' ⟨rfl, hB2, hg⟩
  have HB := Lib.hid hB2
  have HG := Lib.hid ((World.grownBy_alloc W _ (some b)).trans hg)
  clear hB2 hg h4
  go_wp2_with fail
  go_end0
  exact ⟨rfl, HB.out, HG.out⟩
theorem rowOk_asc (m : Nat) : ∀ (es : List Ent) (last : Int), Asc es → (∀ x ∈ es, last < (x.1 : Int) ∧ x.1 < m ∧ x.2 ≠ 0) → rowOk m last (es.map cI) = true
  | [], _, _, _ => rfl
  | e :: es, last, ha, h => by
    have ha' := List.pairwise_cons.1 ha
    have h0 := h e (.head _)
    rw [List.map_cons, rowOk, rowOk_asc m es _ ha'.2 (fun x hx => ⟨by have := ha'.1 x hx; simp only [cI]; omega, (h x (List.mem_cons_of_mem _ hx)).2⟩)]
    have h1 : last < (cI e).1 := h0.1
    have h2 : (cI e).1 < (m : Int) := by show (e.1 : Int) < m; omega
    have h3 : (cI e).2 ≠ 0 := h0.2.2
    rw [decide_eq_true h1, decide_eq_true h2, decide_eq_true h3]; rfl
theorem checkS_valid {r c : Nat} (hr : r ≤ 2048) (hc : c ≤ 2048) (f : Nat → Nat → Rat) : checkS r c ((mrows r c f).map fun es => es.map cI) = 0 := by
  unfold checkS
  rw [show sidesE r c = 0 by unfold sidesE; rw [if_neg (by omega), if_neg (by omega)], List.length_map, mrows_length]
  rw [if_neg (by simp), if_neg (by simp), if_pos]
  rw [List.all_eq_true]
  intro es he
  obtain ⟨es', h1, rfl⟩ := List.mem_map.1 he
  obtain ⟨i, _, rfl⟩ := List.mem_map.1 h1
  exact rowOk_asc c _ _ (rowOf_asc _ _) fun x hx => by
    have := mem_rowOf.1 (show (x.1, x.2) ∈ rowOf (f i) c from hx)
    exact ⟨by omega, this.1, by rw [this.2.2]; exact this.2.1⟩
/-- sparses.Check of a valid matrix -/
theorem scheck_ok {w : World} {v : Value} {r c : Nat} {f : Nat → Nat → Rat} (h : SpM w v r c f) (hr : r ≤ 2048) (hc : c ≤ 2048) :
    Calls Tryz.prog 13 #[v] w fun e w' => e = .returned (.int .i64 0) ∧ Below w.heap.size w w' := by
  have := scheck_any w v r c _ h.g (by rw [List.length_map, mrows_length]; omega) (fun i => by
    by_cases hi : i < r
    · have e : ((mrows r c f).map fun es => es.map cI).getD i [] = ((mrows r c f).getD i []).map cI := by
        simp only [List.getD_eq_getElem?_getD, List.getElem?_map, List.getElem?_eq_getElem (show i < (mrows r c f).length by rw [mrows_length]; exact hi)]; rfl
      rw [e, List.length_map]
      exact Nat.le_trans (mrows_row r c f i) (by omega)
    · rw [List.getD_eq_getElem?_getD, List.getElem?_eq_none (by rw [List.length_map, mrows_length]; omega)]; exact Nat.zero_le _)
  rw [checkS_valid hr hc] at this
  exact this
theorem SpM.shape {w : World} {v : Value} {r c : Nat} {f : Nat → Nat → Rat} (h : SpM w v r c f) : ∃ a cap, v = .agg #[.int .i64 r, .int .i64 c, .slice a r cap] := by
  obtain ⟨a, cap, h1, _⟩ := h
  rw [mrows_length] at h1
  exact ⟨a, cap, h1⟩
theorem SpN.congr {w : World} {lo : Nat} {v : Value} {r c : Nat} {f g : Nat → Nat → Rat} (h : SpN w lo v r c f) (e : ∀ i k, i < r → k < c → f i k = g i k) : SpN w lo v r c g := by
  obtain ⟨R, vs, h1, h2, h3, h4⟩ := h
  refine ⟨R, vs, h1, h2, h3, h4.len, fun i hi => ?_, h4.apart⟩
  rw [← rowOf_congr fun k hk => e i k hi hk]
  exact h4.row i hi
theorem SpN.mono {w : World} {lo lo' : Nat} {v : Value} {r c : Nat} {f : Nat → Nat → Rat} (h : SpN w lo v r c f) (hl : lo' ≤ lo) : SpN w lo' v r c f := by
  obtain ⟨R, vs, h1, h2, h3⟩ := h
  exact ⟨R, vs, h1, by omega, h3⟩
theorem SpOwn.other {w : World} {lo : Nat} {v : Value} {r c : Nat} {Ls : Nat → List Ent} {a : Addr} (h : SpOwn w lo v r c Ls) (ha : a.block < lo) (u : Value) : SpOwn (w.setCell a u) lo v r c Ls := by
  obtain ⟨R, vs, rfl, h1, h2, h3⟩ := h
  exact ⟨R, vs, rfl, h1, h2.other (by omega) u, h3.other (by omega) u⟩
set_option maxRecDepth 100000 in
set_option maxHeartbeats 2000000 in
theorem turn_any {j : Nat} (w : World) (v : Value) (r c : Nat) (f : Nat → Nat → Rat) (hS : SpM w v r c f) (hr : r ≤ 2048) (hc : c ≤ 2048) (hz : ∀ i k, SzK j (f i k)) (hcap : r * c * (j + 1) + 1 < 17592186044416) :
    Calls Tryz.prog 22 #[v] w fun e w' => ∃ v', e = .returned (.tuple #[v', .int .i64 0]) ∧ SpN w' w.heap.size v' c r (fun k i => f i k) ∧ Below w.heap.size w w' := by
  have hck := fun W (h : Below w.heap.size w W) => scheck_ok (hS.call h) hr hc
  have hbg := begun_any c r
  obtain ⟨a, cap, rfl⟩ := hS.shape
  have HS := Lib.hid hS
  clear hS
  go_enter Tryz.func22, Tryz.ntmps22
  go_wp2_with fail
  ((with_reducible refine (hck _ ?_).mono ?_))
  · exact (((In.self w).alloc _).alloc _).bel
  rintro e w1 ⟨rfl, hb1⟩
  obtain ⟨X, hX⟩ : ∃ X, X = w.heap.size := ⟨_, rfl⟩
  have hin1 : In X w w1 := by rw [hX]; exact (((In.self w).alloc _).alloc _).call hb1
  have bx1 := ((Bx.new_at w #[.int .i64 r, .int .i64 c, .slice a r cap] 63 hX).alloc (.cells #[.int .i64 0, .int .i64 0, .slice none 0 0] 63)).call hb1
  have br1 := (Bx.new_at (w.alloc (.cells #[.int .i64 r, .int .i64 c, .slice a r cap] 63)) #[.int .i64 0, .int .i64 0, .slice none 0 0] 63 (n := X + 1) (by rw [World.size_alloc, hX])).call hb1
  rw [← hX]
  have HX := Lib.hid hX
  clear hX hb1 hck
  have x0 := bx1.c0
  have x1 := bx1.c1
  have hxl := bx1.lt
  go_wp2_with fail
  ((with_reducible refine (hbg _).mono ?_))
  rintro e w2 ⟨rfl, hB, hb2⟩
  obtain ⟨b, hb⟩ : ∃ b, b = w1.heap.size := ⟨_, rfl⟩
  have hin2 := hin1.call hb2
  have bx2 := bx1.call hb2
  have br2 := br1.call hb2
  have hbX : X + 1 < b := by rw [hb]; exact br1.lt
  rw [← hb] at hB ⊢
  clear hb hb2 hin1 bx1 br1 x0 x1 hxl hbg
  have HB := Lib.hid hB
  have x0 := bx2.c0
  have x1 := bx2.c1
  have x2 := bx2.c2
  have hxl := bx2.lt
  clear hB
  go_wp2_with fail
  obtain ⟨q, hq⟩ : ∃ q, q = w2.heap.size := ⟨_, rfl⟩
  have bq := Bx.new_at w2 #[.pointer (some ⟨b + 1, 0, none⟩)] 24 hq
  have hB3 : BB (w2.alloc (.cells #[.pointer (some ⟨b + 1, 0, none⟩)] 24)) (b + 1) b 0 c r (fun _ _ => 0) := ⟨HB.out.1.alloc _, HB.out.2.alloc _⟩
  have hin3 := hin2.alloc (.cells #[.pointer (some ⟨b + 1, 0, none⟩)] 24)
  have bx3 := bx2.alloc (.cells #[.pointer (some ⟨b + 1, 0, none⟩)] 24)
  have br3 := br2.alloc (.cells #[.pointer (some ⟨b + 1, 0, none⟩)] 24)
  have hbq : b + 1 < q := by rw [hq]; exact HB.out.1.lt
  rw [← hq]
  clear hin2 bx2 br2 hq x0 x1 x2 hxl HB
  generalize w2.alloc (.cells #[.pointer (some ⟨b + 1, 0, none⟩)] 24) = W3 at *
  have hT := items_length r c f
  obtain ⟨T, hTT⟩ : ∃ T, T = (items r c f).length := ⟨_, rfl⟩
  have hTb : T * (j + 1) ≤ r * c * (j + 1) := by rw [hTT]; exact Nat.mul_le_mul_right _ hT
  have hT4 : T ≤ 4194304 := by rw [hTT]; exact Nat.le_trans hT (Nat.mul_le_mul hr hc)
  have hrc : (items r c f).map (fun x => (x.2.1, x.1, x.2.2)) = (items r c f).map (fun x => (((fun i k => (k, i)) x.1 x.2.1 : Nat × Nat).1, ((fun i k => (k, i)) x.1 x.2.1 : Nat × Nat).2, (fun _ _ q => q) x.1 x.2.1 x.2.2)) := rfl
  have hin3' : In w.heap.size w W3 := by rw [← HX.out]; exact hin3
  have he := each_build w W3 (.agg #[.int .i64 r, .int .i64 c, .slice a r cap]) r c f 51 #[.pointer (some ⟨q, 0, none⟩)] (enters_of Tryz.func51 (by kernel_rfl) rfl) (fun x => (x.2.1, x.1, x.2.2)) (b + 1) b 0 c r j 1 (fun _ _ => 0) HS.out hin3' (by rw [← HX.out]; omega) hr hc hB3 (fun _ _ => SzK.zero)
    (fun ⟨i, k, x⟩ hx => by have := mem_items.1 hx; exact ⟨this.2.1, this.1, by simp only; rw [this.2.2.2]; exact hz i k⟩) (by rw [← hTT]; simp only [maxLen]; omega)
    (fun i k x W n f' hx hg hBW hsz hn => by
      have hm := mem_items.1 hx
      have hT0 : 0 < T := by rw [hTT]; exact List.length_pos_of_mem hx
      rw [← hTT] at hsz
      have hTj : j + 1 ≤ T * (j + 1) := Nat.le_mul_of_pos_left _ hT0
      exact turn1_any W q (b + 1) b n c r f' i k x (((bq.grown hg (by simp; omega)).c0)) hBW hm.2.1 hm.1 hc hr hn (by omega) (hsz k i) (by rw [hm.2.2.2]; exact hz i k) (by omega))
  ((with_reducible refine he.mono ?_))
  rintro e w4 ⟨rfl, hB4, hg4⟩
  have bq4 := bq.grown hg4 (by simp; omega)
  have br4 := br3.grown hg4 (by simp; omega)
  have hin4 : In X w w4 := ⟨hin3.bel.grown hg4 hin3.siz (fun k h => by cases h; omega), Nat.le_trans hin3.siz hg4.size⟩
  have hsp := bsparse_any w4 (b + 1) b _ c r _ hB4 hc hr
  have q0 := bq4.c0
  have hql := bq4.lt
  have hXw : X ≤ w4.heap.size := hin4.siz
  clear he hg4 bx3 br3 hin3 hin3' bq hB3 hB4
  go_wp2_with fail
  ((with_reducible refine hsp.mono ?_))
  rintro e w5 ⟨v5, rfl, hv5, hb5⟩
  have br5 := br4.call hb5
  have hin5 := hin4.call hb5
  obtain ⟨R, h5⟩ : ∃ R, v5 = .agg #[.int .i64 c, .int .i64 r, .slice (some ⟨R, 0, none⟩) c c] := by
    obtain ⟨R, _, h, _⟩ := hv5; exact ⟨R, h⟩
  have hfT : ∀ k i, k < c → i < r → foldA (fun _ _ => 0) ((items r c f).map (fun x => (x.2.1, x.1, x.2.2))) k i = f i k := fun k i hk hi => by
    rw [foldA_at, Rat.zero_add]
    exact sumAt_items (r := r) (c := c) (f := f) (fun i k => (k, i)) (fun _ _ q => q) (fun i k i' k' e => by cases e; exact ⟨rfl, rfl⟩) i k hi hk rfl
  have hv6 : SpN w5 w4.heap.size v5 c r (fun k i => f i k) := SpN.congr hv5 hfT
  have hXw2 : X + 1 < w4.heap.size := br4.lt
  have hv7 := ((SpOwn.other (a := ⟨X + 1, 0, none⟩) hv6 hXw2 (.int .i64 c)).other (a := ⟨X + 1, 1, none⟩) hXw2 (.int .i64 r)).other (a := ⟨X + 1, 2, none⟩) hXw2 (.slice (some ⟨R, 0, none⟩) c c)
  have br6 := ((br5.set 0 (.int .i64 c)).set 1 (.int .i64 r)).set 2 (.slice (some ⟨R, 0, none⟩) c c)
  have hin6 := ((hin5.setCell (p := ⟨X + 1, 0, none⟩) (by simp) (.int .i64 c)).setCell (p := ⟨X + 1, 1, none⟩) (by simp) (.int .i64 r)).setCell (p := ⟨X + 1, 2, none⟩) (by simp) (.slice (some ⟨R, 0, none⟩) c c)
  have f0 := br5.frozen 0
  have f1 := br5.frozen 1
  have f2 := br5.frozen 2
  have b0 := br5.c0
  have b1 := br5.c1
  have b2 := br5.c2
  have hl5 := br5.lt
  subst h5
  have H1 := Lib.hid hv7
  have H2 := Lib.hid br6
  have H3 := Lib.hid hin6
  clear hv7 br6 hin6 hv5 hv6 hb5 br4 br5 hin4 hin5 hsp hfT hrc bq4 q0 hql
  go_wp2_with fail
  obtain ⟨W6, hW6⟩ : ∃ W6, W6 = ((w5.setCell ⟨X + 1, 0, none⟩ (.int .i64 c)).setCell ⟨X + 1, 1, none⟩ (.int .i64 r)).setCell ⟨X + 1, 2, none⟩ (.slice (some ⟨R, 0, none⟩) c c) := ⟨_, rfl⟩
  have h1 := H1.out
  have h2 := H2.out
  have h3 := H3.out
  rw [← hW6] at h1 h2 h3 ⊢
  clear hW6 H1 H2 H3 f0 f1 f2 b0 b1 b2
  have e0 : W6.cell? ⟨X + 1, 0, none⟩ = some (.int .i64 c) := h2.cell 0
  have e1 : W6.cell? ⟨X + 1, 1, none⟩ = some (.int .i64 r) := h2.cell 1
  have e2 : W6.cell? ⟨X + 1, 2, none⟩ = some (.slice (some ⟨R, 0, none⟩) c c) := h2.cell 2
  refine bodyPost_ret (v := .tuple #[.agg #[.int .i64 c, .int .i64 r, .slice (some ⟨R, 0, none⟩) c c], .int .i64 0]) ?_ rfl ⟨_, rfl, SpN.mono h1 (by rw [← HX.out]; exact hXw), by rw [← HX.out]; exact h3.bel⟩
  simp [results, Tryz.results22, go_sem, e0, e1, e2]
end Gus
end
