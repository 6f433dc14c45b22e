/- Proved: whatever the diagonal and the right-hand side, gussetlaw19.CgsFew returns true, and the arguments read as before. Conditions: the three listed tables hold what the text of the program lays (the card ties them). -/
import Derived.Test.YtjbclomfocnplaaGreatDoorCgcQ
import Derived.Test.YtjbclomfocnplaaGreatDoorFlowQ
import Derived.Test.YtjbclomfocnplaaGreatDoorSameQ
import Derived.ChangeSlices
section
/- The number of different diagonal elements, as gussetlaw19.CgsFew counts them. -/
namespace Gus
def resid (d : List Nat) (i : Nat) : Nat := d.getD i 0 % 9
/-- no element before i has its residue; the first k elements are looked at -/
def firstTo (d : List Nat) (i k : Nat) : Bool := (List.range k).all fun m => decide (resid d m ≠ resid d i)
theorem firstTo_succ (d : List Nat) (i k : Nat) : firstTo d i (k + 1) = (firstTo d i k && decide (resid d k ≠ resid d i)) := by
  simp [firstTo, List.range_succ, List.all_append]
def cntF (d : List Nat) : Nat → Nat
  | 0 => 0
  | i + 1 => cntF d i + if firstTo d i i = true then 1 else 0
theorem cntF_le (d : List Nat) : ∀ n, cntF d n ≤ n
  | 0 => Nat.le_refl _
  | n + 1 => by
    have := cntF_le d n
    show cntF d n + (if firstTo d n n = true then 1 else 0) ≤ n + 1
    split <;> omega
theorem classes (d : List Nat) : ∀ n, ∃ (g : Nat → Nat) (a : Nat → Rat), ∀ i, i < n → g i < cntF d n ∧ a (g i) = ((1 + resid d i : Nat) : Rat)
  | 0 => ⟨fun _ => 0, fun _ => 0, fun i hi => absurd hi (Nat.not_lt_zero _)⟩
  | n + 1 => by
    obtain ⟨g, a, h⟩ := classes d n
    by_cases hf : firstTo d n n = true
    · have e : cntF d (n + 1) = cntF d n + 1 := by show cntF d n + (if _ then 1 else 0) = _; rw [if_pos hf]
      refine ⟨fun i => if i = n then cntF d n else g i, fun m => if m = cntF d n then ((1 + resid d n : Nat) : Rat) else a m, fun i hi => ?_⟩
      by_cases hin : i = n
      · subst hin
        simp only [if_true]
        exact ⟨by omega, trivial⟩
      · have h1 := h i (by omega)
        simp only [if_neg hin, if_neg (show ¬ g i = cntF d n by omega)]
        exact ⟨by omega, h1.2⟩
    · have e : cntF d (n + 1) = cntF d n := by show cntF d n + (if _ then 1 else 0) = _; rw [if_neg hf, Nat.add_zero]
      obtain ⟨k, hk, hkr⟩ : ∃ k, k < n ∧ resid d k = resid d n := by
        refine Decidable.by_contra fun hno => hf ?_
        unfold firstTo
        rw [List.all_eq_true]
        intro m hm
        exact decide_eq_true fun he => hno ⟨m, List.mem_range.1 hm, he⟩
      refine ⟨fun i => if i = n then g k else g i, a, fun i hi => ?_⟩
      by_cases hin : i = n
      · subst hin
        simp only [if_true]
        have h1 := h k hk
        exact ⟨by omega, by rw [h1.2, hkr]⟩
      · simp only [if_neg hin]
        have h1 := h i (by omega)
        exact ⟨by omega, h1.2⟩
/-- the diagonal matrix of the law -/
def diagA (d : List Nat) : Nat → Nat → Rat := fun i k => if i = k then ((1 + resid d i : Nat) : Rat) else 0
theorem few_steps {d : List Nat} {n j : Nat} {b : Vc} (hF : Fin n (diagA d) (startC n (diagA d) b fun _ => 0) j) : j ≤ cntF d n := by
  obtain ⟨g, a, h⟩ := classes d n
  refine diag_few a g (A := diagA d) (fun i k hi _ => ?_) (fun i hi => (h i hi).1) (startC n (diagA d) b fun _ => 0) rfl j hF.2.2
  unfold diagA
  by_cases e : i = k
  · rw [if_pos e, if_pos e, (h i hi).2]
  · rw [if_neg e, if_neg e]
theorem diagA_sym (d : List Nat) (n : Nat) : Sym n (diagA d) := fun i k _ _ => by
  unfold diagA
  by_cases e : i = k
  · subst e; rfl
  · rw [if_neg e, if_neg (Ne.symm e)]
theorem diagA_pos (d : List Nat) (n : Nat) : Pos n (diagA d) := fun v hv => by
  have e : ∀ i, i < n → mv n (diagA d) v i = ((1 + resid d i : Nat) : Rat) * v i := fun i hi => by
    unfold mv diagA
    rw [sm_one (k := i) hi fun k _ hk => by rw [if_neg (Ne.symm hk), Rat.zero_mul], if_pos rfl]
  have e2 : dt n v (mv n (diagA d) v) = dt n v v + sm (fun i => ((resid d i : Nat) : Rat) * (v i * v i)) n := by
    unfold dt
    rw [← sm_add]
    refine sm_congr n fun i hi => ?_
    rw [e i hi]
    push_cast
    grind
  rw [e2]
  have h1 := dt_nonneg n v
  have h2 : 0 ≤ sm (fun i => ((resid d i : Nat) : Rat) * (v i * v i)) n := sm_nonneg n fun i _ => Rat.mul_nonneg (by exact_mod_cast Nat.zero_le _) (sq_nonneg _)
  grind
theorem diagA_cm (d : List Nat) (n : Nat) : CM n 4 4 (diagA d) := by
  refine ⟨1, fun i k => if i = k then ((1 + resid d i : Nat) : Int) else 0, by decide, by decide, fun i k _ _ => ⟨?_, ?_⟩⟩
  · show (if i = k then ((1 + resid d i : Nat) : Int) else 0).natAbs < 2 ^ 4
    have : resid d i < 9 := Nat.mod_lt _ (by decide)
    split <;> omega
  · unfold diagA
    rw [cast_ite]
    by_cases e : i = k
    · rw [if_pos e, if_pos e]; push_cast; grind
    · rw [if_neg e, if_neg e]; exact Rat.zero_mul _
theorem szN_cap7 {n : Nat} (hn : n ≤ 7) : szN 4 n 71 n ≤ 150000000000 := by
  have : n = 0 ∨ n = 1 ∨ n = 2 ∨ n = 3 ∨ n = 4 ∨ n = 5 ∨ n = 6 ∨ n = 7 := by omega
  rcases this with rfl | rfl | rfl | rfl | rfl | rfl | rfl | rfl <;> decide
theorem few_runS {d : List Nat} {n : Nat} {qb : List (Int × Int)} (hn : n ≤ 7) (hb : qb.all nearQ = true) (hbo : QOk qb) : RunS n 150000000000 (diagA d) (mEl qb) (startC n (diagA d) (mEl qb) fun _ => 0) :=
  runS_of (a := 4) (s := 71) (c := 71) hn (diagA_cm d n) ((mEl_cs hb hbo n).mono (by omega) (by omega)) (start_sizeb (c := 71) ((mEl_cs hb hbo n).mono (by omega) (by omega)) (diagA_cm d n)) (szN_cap7 hn) (by decide) (by decide)
end Gus
end
section
/- Regions by the flow of their data, where moves are not taken ahead of their turn (long conditions that draw their order). -/
namespace Gus
open Go Go.RowKit
section
variable {P : Program} {ops : Array Oper} {w0 : World}
/-- operation i may be taken as soon as it may come up: extracts alone -/
def isE (ops : Array Oper) (i : Nat) : Bool := (match ops[i]? with | some o => (match o.op with | .extract _ _ => true | _ => false) | none => false) && isF ops i
def sinkE (ops : Array Oper) (n : Nat) : Bool := (List.range n).all fun i => isE ops i || (List.range (n + 1)).any fun j => decide (i < j) && Region.waitsFor .any ops j i && (j == n || !isE ops j)
def flowEB (ops : Array Oper) (n : Nat) : Bool :=
  decide (n < ops.size) && sinkE ops n && Region.chainB .any ops n && backB ops n && nodupD (ops.toList.take n) && Region.seqB .any ops (ops.size - n) n (firstN n ops.size) && Region.noSelect ops
theorem tail_waitsE {n : Nat} {listed : Array Bool} (hs : sinkE ops n = true) (hc : Region.chainB .any ops n = true) (hn : n < ops.size) (inv : HeadInv .any ops n listed) :
    ∀ (d i : Nat), n - i = d → i < n → isE ops i = false → listed.getD i true = false → ∀ t, n ≤ t → t ∉ Region.ready .any ops listed := by
  intro d
  induction d using Nat.strongRecOn with
  | _ d ih =>
    intro i hd hi hF hun t ht hr
    obtain ⟨_, ot, hot, hall⟩ := mem_ready.1 hr
    have htlt : t < ops.size := (Array.getElem?_eq_some_iff.1 hot).1
    by_cases htn : t = n
    · subst htn
      have h1 := List.all_eq_true.1 hs i (List.mem_range.2 hi)
      rw [hF, Bool.false_or] at h1
      obtain ⟨j, hj, hj2⟩ := List.any_eq_true.1 h1
      simp only [Bool.and_eq_true, decide_eq_true_eq, Bool.or_eq_true, beq_iff_eq, Bool.not_eq_true'] at hj2
      obtain ⟨⟨hij, hwf⟩, hjF⟩ := hj2
      obtain ⟨oj, hoj, e, he, hb, hon⟩ := Region.waitsFor_spec hwf
      have hjle : j ≤ t := by have := List.mem_range.1 hj; omega
      by_cases hjt : j = t
      · subst hjt
        have : oj = ot := Option.some.inj (hoj.symm.trans hot)
        subst this
        have h2 := hall e he hb
        rw [hon, getD_both hun] at h2; cases h2
      · have hjF' : isE ops j = false := by
          rcases hjF with h | h
          · exact absurd h hjt
          · exact h
        have hjun : listed.getD j true = false := by
          cases hl : listed.getD j true with
          | false => rfl
          | true =>
            have hjs : j < listed.size := by rw [inv.size]; omega
            have hl' : listed.getD j false = true := by simp [hjs] at hl ⊢; exact hl
            have h2 := inv.closed j oj hoj hl' e he hb
            rw [hon, getD_both hun] at h2; cases h2
        exact ih (t - j) (by omega) j rfl (by omega) hjF' hjun t (Nat.le_refl _) hr
    · have h1 := List.all_eq_true.1 hc t (List.mem_range.2 htlt)
      simp only [Bool.or_eq_true, decide_eq_true_eq] at h1
      rcases h1 with h1 | h1
      · omega
      · obtain ⟨oj, hoj, e, he, hb, hon⟩ := Region.waitsFor_spec h1
        have : oj = ot := Option.some.inj (hoj.symm.trans hot)
        subst this
        have h2 := hall e he hb
        rw [hon, getD_both (inv.tail (t - 1) (by omega) (by omega))] at h2; cases h2
theorem wpAny_of_flowE {n : Nat} {Q : Exit → Act → World → Prop} {A : (Nat → Value) → Act} {a0 : Act} {V : Nat → (Nat → Value) → Value → World → Prop} {Φ : Nat → Bool} (hB : flowEB ops n = true) (hA : ∀ u, A u = putAll u 0 (ops.toList.take n) a0)
    (hQ : ∀ c a d v w, Q (.panic c) (Act.put a d v) w → Q (.panic c) a w)
    (hst : ∀ j, j < n → (∀ u, Stable (V j u)) ∧ (∀ u, Placed (Φ j) (V j u))) (hlo : ∀ j o, j < n → ops[j]? = some o → LocalU o (V j)) (hop : ∀ j o, j < n → ops[j]? = some o → ∀ u w, St w0 w → (∀ e ∈ o.after.toList, Region.binds .any e = true → V e.on u (u e.on) w) → okOp P ops o (A u) w (Fresh (Φ j) (V j u) w) ∧
      (fl o = true → Φ j = false ∧ ∃ v, (∀ w2, (execOp (A u).eval o).run P w2 = .ok (.value v) w2) ∧ ∀ w2, V j u v w2))
    (hT : ∀ u w, St w0 w → (∀ j, j < n → V j u (u j) w) → dist Φ u n → wpList P ops Q (ops.toList.drop n) (A u) w) :
    ∀ (c : Nat) (listed : Array Bool) (u : Nat → Value) (w : World), HeadInv .any ops n listed → cnt listed n = c → St w0 w → (∀ j, j < n → listed.getD j true = true → V j u (u j) w) →
      (∀ i j, i < n → j < n → i ≠ j → listed.getD i true = true → listed.getD j true = true → Φ i = true → Φ j = true → ∀ b, blk (u i) = some b → blk (u j) ≠ some b) → wpAny P .any ops Q (c + (ops.size - n)) listed (A u) w := by
  simp only [flowEB, Bool.and_eq_true, decide_eq_true_eq] at hB
  obtain ⟨⟨⟨⟨⟨⟨hn, hs⟩, hc⟩, hb⟩, hnd⟩, hseq⟩, hsel⟩ := hB
  have hback : ∀ i o e, i < n → ops[i]? = some o → e ∈ o.after.toList → Region.binds .any e = true → e.on < i := fun i o e hi ho he hbd => by
    have h1 := List.all_eq_true.1 hb i (List.mem_range.2 hi)
    rw [ho] at h1
    have h2 := List.all_eq_true.1 h1 e he
    rw [hbd] at h2
    simpa using h2
  intro c
  induction c with
  | zero =>
    intro listed u w inv hcn hw hv hdi
    have hall := cnt_zero n hcn
    have hl : listed = firstN n ops.size := by
      apply Array.ext
      · simp [firstN, inv.size]
      · intro i h1 h2
        simp only [firstN, List.getElem_toArray, List.getElem_map, List.getElem_range]
        by_cases hi : i < n
        · have := hall i hi
          rw [Array.getD_eq_getD_getElem?, Array.getElem?_eq_getElem h1] at this
          simpa [hi] using this
        · have := getD_both (inv.tail i (by omega) (by rw [inv.size] at h1; exact h1))
          rw [Array.getD_eq_getD_getElem?, Array.getElem?_eq_getElem h1] at this
          simpa [hi] using this
    subst hl
    rw [Nat.zero_add]
    have hdl : (ops.toList.drop n).length = ops.size - n := by simp
    have := wpAny_of_seq (P := P) (Q' := Q) (ops.toList.drop n) n (firstN n ops.size) (A u) w (fun j => by simp [List.getElem?_drop]) (by rw [hdl]; exact hseq) (hT u w hw (fun j hj => hv j hj (hall j hj)) (fun i j hi hj hne => hdi i j hi hj hne (hall i hi) (hall j hj)))
    rwa [hdl] at this
  | succ c ih =>
    intro listed u w inv hcn hw hv hdi
    rw [show c + 1 + (ops.size - n) = (c + (ops.size - n)) + 1 by omega]
    obtain ⟨i0, hi0, hun0, hmin⟩ := cnt_pos n (by omega : 0 < cnt listed n)
    have hls : ∀ j, j < n → listed.getD j true = true → listed.getD j false = true := fun j hj h => by
      have hjs : j < listed.size := by rw [inv.size]; omega
      simp [hjs] at h ⊢; exact h
    have hlt : ∀ j, j < n → listed.getD j false = true → listed.getD j true = true := fun j hj h => by
      have hjs : j < listed.size := by rw [inv.size]; omega
      simp [hjs] at h ⊢; exact h
    have hi0s : i0 < ops.size := by omega
    have ho0 : ops[i0]? = some ops[i0] := by simp [hi0s]
    have hr0 : i0 ∈ Region.ready .any ops listed :=
      mem_ready.2 ⟨hun0, ops[i0], ho0, fun e he hbd => by
        have h3 := hback i0 _ e hi0 ho0 (by simpa using he) hbd
        exact hls _ (by omega) (hmin _ h3)⟩
    have key : ∀ i o v w', i < n → ops[i]? = some o → i ∈ Region.ready .any ops listed → Fresh (Φ i) (V i u) w v w' → St w w' → wpAny P .any ops Q (c + (ops.size - n)) (listed.setIfInBounds i true) ((A u).put o.dst v) w' := fun i o v w' hin ho hi hV hs' => by
      obtain ⟨hiun, _, _, _⟩ := mem_ready.1 hi
      have hAu : (A u).put o.dst v = A (upd u i v) := by
        rw [hA, hA]
        have := putAll_upd (u := u) (v := v) (ops.toList.take n) 0 i a0 o hnd (by rw [List.getElem?_take, if_pos hin]; simpa using ho)
        rw [Nat.zero_add] at this
        exact this.symm
      rw [hAu]
      have his : i < listed.size := by rw [inv.size]; omega
      have hagree : ∀ j oj, j < n → ops[j]? = some oj → (j = i ∨ listed.getD j true = true) → ∀ e ∈ oj.after.toList, Region.binds .any e = true → u e.on = upd u i v e.on := fun j oj hj hoj hjl e he hbd => by
        have hlt' := hback j oj e hj hoj he hbd
        have hne : e.on ≠ i := fun h => by
          rcases hjl with rfl | hjl
          · omega
          · have h2 := inv.closed j oj hoj (hls j hj hjl) e (by simpa using he) hbd
            rw [h, getD_both hiun] at h2; cases h2
        unfold upd
        rw [if_neg hne]
      refine ih _ _ _ (inv.set hi hin) ?_ (hw.trans hs') (fun j hj hl => ?_) (fun i1 j1 hi1 hj1 hne hl1 hl2 hf1 hf2 b hb1 => ?_)
      · have := cnt_set hiun his n
        rw [if_pos hin] at this; omega
      · have hjs : j < ops.size := by omega
        have hoj : ops[j]? = some ops[j] := by simp [hjs]
        by_cases hji : j = i
        · subst hji
          refine hlo j _ hj hoj u _ _ _ (hagree j _ hj hoj (.inl rfl)) ?_
          unfold upd
          rw [if_pos rfl]; exact hV.1
        · rw [getD_set_ne true (fun h => hji h.symm)] at hl
          refine hlo j _ hj hoj u _ _ _ (hagree j _ hj hoj (.inr hl)) ?_
          unfold upd
          rw [if_neg hji]
          exact (hst j hj).1 u _ _ _ (hv j hj hl) hs'
      · unfold upd at hb1 ⊢
        by_cases h1 : i1 = i
        · have h2 : ¬ j1 = i := fun h => hne (h1.trans h.symm)
          rw [if_pos h1] at hb1
          rw [if_neg h2]
          intro hb2
          rw [getD_set_ne true (fun h => h2 h.symm)] at hl2
          have h3 := (hst j1 hj1).2 u hf2 _ _ (hv j1 hj1 hl2) b hb2
          have h4 := hV.2 (by rw [← h1]; exact hf1) b hb1
          omega
        · rw [if_neg h1] at hb1
          rw [getD_set_ne true (fun h => h1 h.symm)] at hl1
          by_cases h2 : j1 = i
          · rw [if_pos h2]
            intro hb2
            have h3 := (hst i1 hi1).2 u hf1 _ _ (hv i1 hi1 hl1) b hb1
            have h4 := hV.2 (by rw [← h2]; exact hf2) b hb2
            omega
          · rw [if_neg h2]
            rw [getD_set_ne true (fun h => h2 h.symm)] at hl2
            exact hdi i1 j1 hi1 hj1 hne hl1 hl2 hf1 hf2 b hb1
    have hdep : ∀ i o, i < n → ops[i]? = some o → i ∈ Region.ready .any ops listed → ∀ e ∈ o.after.toList, Region.binds .any e = true → V e.on u (u e.on) w := fun i o hin ho hi e he hbd => by
      obtain ⟨_, o', ho', hall⟩ := mem_ready.1 hi
      have : o' = o := Option.some.inj (ho'.symm.trans ho)
      subst this
      have h3 := hback i _ e hin ho he hbd
      exact hv _ (by omega) (hlt _ (by omega) (hall e (by simpa using he) hbd))
    cases hF : isE ops i0 with
    | true =>
      unfold isE at hF
      rw [Bool.and_eq_true] at hF
      replace hF := hF.2
      unfold isF at hF
      rw [ho0] at hF
      simp only [Bool.and_eq_true] at hF
      obtain ⟨hfl, hap⟩ := hF
      obtain ⟨hΦ0, v, hv1, hv2⟩ := (hop i0 _ hi0 ho0 u w hw (hdep i0 _ hi0 ho0 hr0)).2 hfl
      have hg : (ops[i0]).guard = none := by
        unfold fl at hfl
        rw [Bool.and_eq_true] at hfl
        exact Option.isNone_iff_eq_none.1 hfl.1
      refine wpAny_first (oi := ops[i0]) (v := v) ho0 (Region.noSelect_spec hsel) (fun c a w h => hQ c a _ v w h) _ listed _ w (fun j oj hj hne hun hno => ?_) hr0 (.inl ⟨by unfold Region.wanted; rw [hg], hv1⟩) (key i0 _ v w hi0 ho0 hr0 ⟨hv2 w, fun h => absurd h (by rw [hΦ0]; exact Bool.false_ne_true)⟩ (St.refl w))
      have hjs : j < ops.size := (Array.getElem?_eq_some_iff.1 hj).1
      have h1 := List.all_eq_true.1 hap j (List.mem_range.2 hjs)
      rw [hj] at h1
      simp only [Bool.or_eq_true, beq_iff_eq] at h1
      rcases h1 with ((h1 | h1) | h1) | h1
      · exact absurd h1 hne
      · obtain ⟨oj', hoj', e, he, hbd, hon⟩ := Region.waitsFor_spec h1
        have : oj' = oj := Option.some.inj (hoj'.symm.trans hj)
        subst this
        exact absurd hon (hno e he hbd)
      · obtain ⟨o', ho', e, he, hbd, hon⟩ := Region.waitsFor_spec h1
        obtain ⟨_, o'', ho'', hall⟩ := mem_ready.1 hr0
        have : o' = o'' := Option.some.inj (ho'.symm.trans ho'')
        subst this
        have h2 := hall e he hbd
        rw [hon, getD_both hun] at h2; cases h2
      · exact h1
    | false =>
      refine ⟨(fun h0 => by rw [h0] at hr0; cases hr0), fun i hi => ?_⟩
      have hin : i < n := by
        rcases Nat.lt_or_ge i n with h | h
        · exact h
        · exact absurd hi (tail_waitsE hs hc hn inv _ i0 rfl hi0 hF hun0 i h)
      obtain ⟨_, o, ho, _⟩ := mem_ready.1 hi
      exact wpOp_of_ok ho (hop i o hin ho u w hw (hdep i o hin ho hi)).1 fun v w' hV hs' => key i o v w' hin ho hi hV hs'
/-- A region that draws its order, by the flow of its data. -/
theorem wp_region_flowE {id : Nat} {Q : Exit → Act → World → Prop} {a0 : Act} {l : List Oper} (n : Nat) (hm : P.follows .mixedOrders = true) (hB : flowEB l.toArray n = true) (hQ : ∀ c a d v w, Q (.panic c) (Act.put a d v) w → Q (.panic c) a w)
    (h : flow P l.toArray w0 (fun u => putAll u 0 (l.take n) a0) (fun a w => wpList P l.toArray Q (l.drop n) a w) 0 (l.take n) (fun _ _ _ _ => True) (fun _ => false)) : (Code.region id l.toArray true).wp P Q a0 w0 := by
  obtain ⟨V, Φ, _, _, h2, h3, h4⟩ := flow_spec _ _ _ _ h
  have hB' := hB
  simp only [flowEB, Bool.and_eq_true, decide_eq_true_eq] at hB'
  obtain ⟨⟨⟨⟨⟨⟨hn, hs⟩, hc⟩, hb⟩, hnd⟩, hseq⟩, hsel⟩ := hB'
  have hn' : n < l.length := by simpa using hn
  have htl : (l.take n).length = n := by simp; omega
  rw [htl, Nat.zero_add] at h2 h4
  refine wp_region_any hm ?_
  obtain ⟨u, hu⟩ := putAll_start (l.take n) 0 a0
  have key := wpAny_of_flowE (P := P) (ops := l.toArray) (w0 := w0) (n := n) (Q := Q) (A := fun u => putAll u 0 (l.take n) a0) (a0 := a0) (V := V) (Φ := Φ) hB (fun u => rfl) hQ (fun j hj => h2 j (Nat.zero_le _) hj)
    (fun j o hj ho => by
      have h5 := (h3 j o (by rw [List.getElem?_take, if_pos hj]; simpa using ho)).1
      rwa [Nat.zero_add] at h5)
    (fun j o hj ho u w hw hd => by
      have h5 := (h3 j o (by rw [List.getElem?_take, if_pos hj]; simpa using ho)).2 (fun e he hbd => by
        have h1 := List.all_eq_true.1 hb j (List.mem_range.2 hj)
        rw [ho] at h1
        have h2 := List.all_eq_true.1 h1 e he
        rw [hbd] at h2
        simpa using h2) u w hw hd
      rwa [Nat.zero_add] at h5)
    (fun u w hw ha hdi => h4 u w hw (allH_of n ha) hdi) (cnt (Array.replicate l.toArray.size false) n) (Array.replicate l.toArray.size false) u { w0 with drawn := w0.drawn + 1 }
    ⟨by simp, fun j oj _ hl => (by rw [getD_replicate_false] at hl; cases hl), fun t _ ht => getD_in (by simpa using ht) (getD_replicate_false _ _)⟩ rfl ((Below.refl _ _).drew)
    (fun j hj hl => by
      have hjs : j < (Array.replicate l.toArray.size false).size := by rw [Array.size_replicate]; omega
      rw [getD_in hjs (getD_replicate_false _ _)] at hl; cases hl)
    (fun i j hi hj hne hl1 => by
      have hjs : i < (Array.replicate l.toArray.size false).size := by rw [Array.size_replicate]; omega
      rw [getD_in hjs (getD_replicate_false _ _)] at hl1; cases hl1)
  have hcn : cnt (Array.replicate l.toArray.size false) n = n := by
    have : ∀ k, k ≤ l.toArray.size → cnt (Array.replicate l.toArray.size false) k = k := by
      intro k
      induction k with
      | zero => intro _; rfl
      | succ k ih =>
        intro hk
        unfold cnt
        rw [ih (by omega), getD_in (by rw [Array.size_replicate]; omega) (getD_replicate_false _ _)]; rfl
    exact this n (by omega)
  rw [hcn] at key
  rw [show n + (l.toArray.size - n) = l.toArray.size by omega] at key
  simp only [hu] at key
  exact key
end
end Gus
end
section
/- gussetlaw19.CgsConjugate. -/
namespace Gus
open Go Go.RowKit Go.Proofs
section
variable {n m j : Nat} {A : Nat → Nat → Rat} {b : Vc} {s0 : Cg}
theorem CS.zero (n m : Nat) (h : 0 < m) : CS n m m fun _ => 0 := ⟨1, fun _ => 0, by decide, by
    have := Nat.pow_le_pow_right (show 0 < 2 by decide) h
    omega, fun i _ => ⟨Nat.pow_pos (by decide), by show (0 : Rat) * ((1 : Nat) : Rat) = ((0 : Int) : Rat); decide +kernel⟩⟩
end
end Gus
end
section
/- Energies of a run, as plain arithmetic; sizes for the law of energies. -/
namespace Gus
open Go Go.RowKit Go.Proofs
section
variable {n m j : Nat} {A : Nat → Nat → Rat} {b : Vc} {s0 : Cg}
theorem fin_pos (hsy : Sym n A) (hP : Pos n A) (h0 : s0.p = s0.r) : ∃ j, Fin n A s0 j := by
  obtain ⟨j, h1, h2, h3⟩ := run_ends hsy hP s0 h0
  exact ⟨j, h1, h2, fun k hk => ⟨h3 k hk, run_pos hsy hP s0 h0 j h3 k hk⟩⟩
end
theorem OneS.en {n m : Nat} {A : Nat → Nat → Rat} {b x : Vc} (h : OneS n m A b x) : SzK (9 * m + 3) (en n A b x) := by
  have hn := h.hn; have hm := h.hm
  have h1 : SzK (6 * m) (dt n x (mv n A x)) := (h.hx.dt h.mv3).szk (by omega) (by omega)
  have h2 : SzK (3 * m) (dt n b x) := (h.hb.dt h.hx).szk (by omega) (by omega)
  have h3 : SzK 2 (1 / 2 : Rat) := by constructor <;> decide +kernel
  exact ((h3.mul h1).sub h2).mono (by omega)
end Gus
end
section
/- gussetlaw19.CgsFew. -/
namespace Gus
open Go Go.RowKit Go.Proofs
/-- a slice of bytes -/
def U8At (w : World) (a : Option Addr) (d : List Nat) : Prop := ∀ i, i < d.length → ∃ b off, a = some ⟨b, off, none⟩ ∧ b < w.heap.size ∧ w.cell? ⟨b, off + i, none⟩ = some (.int .u8 ((d.getD i 0 : Nat) : Int))
theorem U8At.call {w w' : World} {a : Option Addr} {d : List Nat} (h : U8At w a d) (hb : Below w.heap.size w w') : U8At w' a d := fun i hi => by
  obtain ⟨b, off, h1, h2, h3⟩ := h i hi
  exact ⟨b, off, h1, Nat.lt_of_lt_of_le h2 hb.size, by rw [hb.cell (p := ⟨b, off + i, none⟩) h2]; exact h3⟩
theorem qs_one {w : World} {V : Nat} {ba : Option Addr} {bc : Nat} {qb : List (Int × Int)} (h : Bx w V 25 [.slice ba qb.length bc]) (hb : QAt w ba qb) : QsAt w (some ⟨V, 0, none⟩) [qb] := fun i hi => by
  obtain rfl : i = 0 := by simp at hi; omega
  exact ⟨V, 0, ba, bc, rfl, h.lt, h.c0, hb⟩
theorem small_split1 {qb : List (Int × Int)} (h : smallT [] [qb] = true) : qb.all nearQ = true ∧ qb.length ≤ 12 := by
  simp only [smallT, smallV, List.all_cons, List.all_nil, Bool.and_true, Bool.and_eq_true, decide_eq_true_eq] at h
  exact ⟨h.2.2.2, h.2.2.1⟩
/-- the first i elements of the diagonal -/
def diagT (d : List Nat) (i : Nat) : Nat → Nat → Rat := fun r c => if r = c ∧ r < i then ((1 + resid d r : Nat) : Rat) else 0
theorem diagT_succ (d : List Nat) (i r c : Nat) : diagT d (i + 1) r c = addF (diagT d i) (i, i, ((1 + resid d i : Nat) : Rat)) r c := by
  unfold addF setF diagT
  by_cases h1 : r = i
  · subst h1
    by_cases h2 : c = r
    · subst h2; simp [Rat.zero_add]
    · simp [h2, Ne.symm h2]
  · simp only [h1, false_and, if_false]
    by_cases h2 : r = c
    · by_cases h3 : r < i
      · rw [if_pos ⟨h2, by omega⟩, if_pos ⟨h2, h3⟩]
      · rw [if_neg (by omega), if_neg (by omega)]
    · rw [if_neg (by omega), if_neg (by omega)]
theorem diagT_size (d : List Nat) (i r c : Nat) : SzK 4 (diagT d i r c) := by
  unfold diagT
  have : resid d r < 9 := Nat.mod_lt _ (by decide)
  split
  · exact SzK_int (n := ((1 + resid d r : Nat) : Int)) (k := 4) (by omega) (by decide)
  · exact SzK.zero.mono (by decide)
set_option maxRecDepth 100000 in
set_option maxHeartbeats 16000000 in
theorem few_any (w : World) (da ba : Option Addr) (dc bc : Nat) (d : List Nat) (hd : U8At w da d) (hd8 : ∀ i, d.getD i 0 < 256) (hLd : d.length ≤ maxLen) (qb : List (Int × Int)) (hqb : QAt w ba qb) (hob : QOk qb) (hLb : qb.length ≤ maxLen) :
    Calls Tryz.prog 5 #[.slice da d.length dc, .slice ba qb.length bc] w fun e w' => e = .returned (.bool true) ∧ Below w.heap.size w w' := by
  have cz := cgworks_any
  have hin := In.self w
  obtain ⟨sm, hsm⟩ : ∃ sm, sm = smallT [] [qb] := ⟨_, rfl⟩
  obtain ⟨n, hn⟩ : ∃ n, n = d.length := ⟨_, rfl⟩
  rw [← hn] at hLd ⊢
  have HN := Lib.hid hn
  clear hn
  have hdw := hd
  have hqw := hqb
  go_enter Tryz.func5, Tryz.ntmps5
  skip
  by_cases hn7 : n ≤ 7
  · have hnI : ¬ (7 : Int) < n := by omega
    go_wp2_with fail
    ((obtain ⟨V, hV⟩ : ∃ z, z = w.heap.size := ⟨_, rfl⟩); (have bV := Bx.new_at w #[.slice ba qb.length bc] 25 hV); (replace hin := hin.alloc (.cells #[.slice ba qb.length bc] 25)); (replace hqb := hqb.call ((Below.refl _ _).alloc (Nat.le_refl _) (.cells #[.slice ba qb.length bc] 25))); (replace hd := hd.call ((Below.refl _ _).alloc (Nat.le_refl _) (.cells #[.slice ba qb.length bc] 25))); (rw [← hV]); (clear hV); (generalize w.alloc (.cells #[.slice ba qb.length bc] 25) = W1 at *))
    have c0 := small_any W1 0 none 0 [] (some ⟨V, 0, none⟩) 1 [qb] (fun k hk => absurd hk (Nat.not_lt_zero _)) (qs_one bV hqb) (by decide) (by simp) (fun q hq => by simp only [List.mem_cons, List.not_mem_nil, or_false] at hq; subst hq; exact hLb)
    rw [← hsm, show [qb].length = 1 from rfl, show ([] : List TQ).length = 0 from rfl] at c0
    have HSM := Lib.hid hsm
    clear hsm
    ((((with_reducible refine (c0).mono ?_))); (rintro e wc2 ⟨rfl, hb⟩); (clear c0 bV); (replace hin := hin.call hb); (replace hqb := hqb.call hb); (replace hd := hd.call hb); (clear hb))
    skip
    rcases sm with _ | _
    · ((go_wp2_with fail); (((with_reducible refine (cz _).mono ?_))); (rintro e wc3 ⟨rfl, hb⟩); (skip); (replace hin := hin.call hb); (replace hqb := hqb.call hb); (replace hd := hd.call hb); (clear hb))
      go_wp2_with fail
      go_ret
      exact ⟨rfl, hin.bel⟩
    · skip
      obtain ⟨hbn, h12⟩ := small_split1 HSM.out.symm
      have c1 := new_ok n n (by omega) (by omega)
      obtain ⟨X, hX⟩ : ∃ X, X = wc2.heap.size := ⟨_, rfl⟩
      have hwX : w.heap.size ≤ X := by rw [hX]; exact hin.siz
      skip
      ((go_wp2_with fail); (((with_reducible refine (c1 _).mono ?_))); (rintro e wn ⟨b, rfl, hXb, hB, hb⟩); (clear c1); (replace hin := hin.call hb); (replace hqb := hqb.call hb); (replace hd := hd.call hb); (clear hb))
      rw [← hX] at hXb
      clear hX hqb hd
      replace hB : BB wn (b + 1) b 0 n n (diagT d 0) := hB.ext fun r c _ _ => by unfold diagT; rw [if_neg (by omega)]
      go_wp2_with fail
      go_loopw [7, 8] (fun v7 v8 wr => ∃ i : Nat, i ≤ n ∧ v7 = .int .i64 (cntF d i) ∧ v8 = .int .i64 i ∧ In w.heap.size w wr ∧ BB wr (b + 1) b i n n (diagT d i)) (fun _ v8 _ => n - (RowKit.intOf v8).toNat)
      case atStart => exact ⟨0, Nat.zero_le _, rfl, rfl, hin, hB⟩
      case round =>
        rename World => wr
        clear hin hB
        obtain ⟨i, hi, rfl, rfl, hin, hB⟩ := hrel
        by_cases hij : i < n
        · have hiI : (i : Int) < n := by omega
          have hi0 : (0 : Int) ≤ i := by omega
          obtain ⟨b2, off2, rfl, hb2, hc⟩ := hdw i (by rw [← HN.out]; exact hij)
          rw [← hin.cell b2 _ hb2] at hc
          have hb2w : b2 < wr.heap.size := by have := hin.siz; omega
          have hx8 := hd8 i
          obtain ⟨x, hx⟩ : ∃ x, x = d.getD i 0 := ⟨_, rfl⟩
          rw [← hx] at hc hx8
          have HXX := Lib.hid hx
          clear hx
          have c2 := fracInt_any (1 + (x : Int) % 9) (by omega) (by omega)
          obtain ⟨q, hq⟩ : ∃ q : Rat, q = ((1 + (x : Int) % 9 : Int) : Rat) := ⟨_, rfl⟩
          rw [← hq] at c2
          have hqr : q = ((1 + resid d i : Nat) : Rat) := by
            rw [hq]
            have e : (1 + (x : Int) % 9 : Int) = ((1 + resid d i : Nat) : Int) := by unfold resid; rw [← HXX.out]; omega
            rw [e]; rfl
          have HQ := Lib.hid hqr
          have hqz : SzK 4 q := by rw [hq]; exact SzK_int (by omega) (by decide)
          obtain ⟨A1, A2, A3, A4, A5, hA, hA'⟩ : ∃ A1 A2 A3 A4 A5, fracV q = .agg #[.int .u64 A1, .string A2, .bool A3, .int .u64 A4, .string A5] ∧ fcs q = [.int .u64 A1, .string A2, .bool A3, .int .u64 A4, .string A5] := ⟨_, _, _, _, _, rfl, rfl⟩
          rw [hA] at c2
          have HA := Lib.hid hA
          clear hq hqr hA hA'
          skip
          skip
          ((go_wp2_with fail); (((with_reducible refine (c2 _).mono ?_))); (rintro e wc1 ⟨rfl, hb⟩); (clear hc hb2w c2); (replace hin := hin.call hb); (replace hB := hB.call hb); (clear hb))
          have ha := badd_in (s := 4) (j := 4) wc1 (b + 1) b i n n (diagT d i) i i q hB hij hij (by omega) (by omega) (by simp only [maxLen]; omega) (by omega) (diagT_size d i i i) hqz (by omega)
          rw [HA.out] at ha
          go_wp2_with fail
          ((with_reducible refine ha.mono ?_))
          rintro e w5 ⟨rfl, hB5, hg⟩
          have hin5 := hin.grown hg (by omega)
          replace hB5 : BB w5 (b + 1) b (i + 1) n n (diagT d (i + 1)) := hB5.ext fun r c _ _ => by rw [diagT_succ, HQ.out]; rfl
          clear ha hg hin hB hqz HQ HA
          go_wp2_with fail
          go_loopw [9, 10] (fun v9 v10 wz => ∃ k : Nat, k ≤ i ∧ v9 = .bool (firstTo d i k) ∧ v10 = .int .i64 k ∧ In w.heap.size w wz ∧ BB wz (b + 1) b (i + 1) n n (diagT d (i + 1))) (fun _ v10 _ => i - (RowKit.intOf v10).toNat)
          case atStart => exact ⟨0, Nat.zero_le _, rfl, rfl, hin5, hB5⟩
          case round =>
            rename World => wz
            clear hin5 hB5
            obtain ⟨k, hk, rfl, rfl, hin, hB⟩ := hrel
            by_cases hki : k < i
            · have hkI : (k : Int) < i := by omega
              have hk0 : (0 : Int) ≤ k := by omega
              have hkn : (k : Int) < n := by omega
              obtain ⟨b3, off3, he3, hb3, hc3⟩ := hdw k (by rw [← HN.out]; omega)
              obtain ⟨rfl, rfl⟩ : b2 = b3 ∧ off2 = off3 := by simpa using he3
              obtain ⟨b4, off4, he4, hb4, hc4⟩ := hdw i (by rw [← HN.out]; omega)
              obtain ⟨rfl, rfl⟩ : b2 = b4 ∧ off2 = off4 := by simpa using he4
              rw [← hin.cell b2 _ hb2] at hc3 hc4
              rw [← HXX.out] at hc4
              have hsuc := firstTo_succ d i k
              obtain ⟨y, hy⟩ : ∃ y, y = d.getD k 0 := ⟨_, rfl⟩
              rw [← hy] at hc3
              have hres : decide (resid d k ≠ resid d i) = !decide ((y : Int) % 9 = (x : Int) % 9) := by
                rw [← decide_not]
                refine decide_eq_decide.2 ?_
                unfold resid
                rw [← hy, ← HXX.out]; omega
              have hy8 : y < 256 := by rw [hy]; exact hd8 k
              clear hy
              rw [hres] at hsuc
              obtain ⟨z, hz⟩ : ∃ z, z = firstTo d i k := ⟨_, rfl⟩
              rw [← hz] at hsuc ⊢
              obtain ⟨z2, hz2⟩ : ∃ z, z = firstTo d i (k + 1) := ⟨_, rfl⟩
              rw [← hz2] at hsuc
              have HZ2 := Lib.hid hz2
              have HSUC := Lib.hid hsuc
              clear hz hz2 hsuc hres he3 he4
              skip
              have hb2z : b2 < wz.heap.size := by have := hin.siz; omega
              skip
              skip
              rcases z with _ | _
              · have hs := HSUC.out
                rw [Bool.false_and] at hs
                subst hs
                go_upto_region 13 with fail
                have h := In.self wz; have hc := h.cell; have hf := h.frozen; refine wp_region_flowE 14 (by kernel_rfl) (by kernel_rfl) (fun _ _ d _ _ h => by cases d <;> exact h) ?_; simp only [List.take_succ_cons, List.take_zero, List.drop_succ_cons, List.drop_zero]; simp only [putAll, Act.put, List.setIfInBounds_toArray, List.set]; (try simp only [Nat.reduceAdd]); (try simp only [Nat.zero_add]); (repeat (first | ((with_reducible refine flow_float (v := ?_) ?_ ?_ ?_); rotate_left 1; (focus (with_reducible rfl)); (focus (intro u w1 hw hd w2; (try simp only [depH] at hd); (try simp only [ext] at hd); (try simp only [extU] at hd); (try simp only [Nat.reduceAdd] at hd); (try simp only [Nat.reduceEqDiff] at hd); (try simp only [reduceIte] at hd); (try simp only [if_true] at hd); (try simp only [if_false] at hd); (try simp only [and_true] at hd); (try simp only [true_and] at hd); go_simp; exact rfl))) | ((with_reducible refine flow_pure0 (v := ?_) ?_ ?_ ?_ ?_); rotate_left 1; (focus (with_reducible rfl)); (focus rfl); (focus (intro u w1 hw hd; (try simp only [depH] at hd); (try simp only [ext] at hd); (try simp only [extU] at hd); (try simp only [Nat.reduceAdd] at hd); (try simp only [Nat.reduceEqDiff] at hd); (try simp only [reduceIte] at hd); (try simp only [if_true] at hd); (try simp only [if_false] at hd); (try simp only [and_true] at hd); (try simp only [true_and] at hd); have hc' := hw.cell; go_simp; exact rfl))) | ((with_reducible refine flow_skipg (j := ?_) (b := ?_) ?_ ?_ ?_); rotate_left 2; (focus (with_reducible rfl)); (focus (intro u w1 hw hd; (try simp only [depH] at hd); (try simp only [ext] at hd); (try simp only [extU] at hd); (try simp only [Nat.reduceAdd] at hd); (try simp only [Nat.reduceEqDiff] at hd); (try simp only [reduceIte] at hd); (try simp only [if_true] at hd); (try simp only [if_false] at hd); (try simp only [and_true] at hd); (try simp only [true_and] at hd); simp [yielded, hd]; done))) | ((with_reducible refine flow_pureg (v := ?_) (j := ?_) (b := ?_) ?_ ?_ ?_ ?_); rotate_left 3; (focus (with_reducible rfl)); (focus (intro u w1 hw hd; (try simp only [depH] at hd); (try simp only [ext] at hd); (try simp only [extU] at hd); (try simp only [Nat.reduceAdd] at hd); (try simp only [Nat.reduceEqDiff] at hd); (try simp only [reduceIte] at hd); (try simp only [if_true] at hd); (try simp only [if_false] at hd); (try simp only [and_true] at hd); (try simp only [true_and] at hd); simp [yielded, hd]; done)); (focus (intro u w1 hw hd; (try simp only [depH] at hd); (try simp only [ext] at hd); (try simp only [extU] at hd); (try simp only [Nat.reduceAdd] at hd); (try simp only [Nat.reduceEqDiff] at hd); (try simp only [reduceIte] at hd); (try simp only [if_true] at hd); (try simp only [if_false] at hd); (try simp only [and_true] at hd); (try simp only [true_and] at hd); have hc' := hw.cell; go_simp; exact rfl))) | ((with_reducible refine flow_alloc (t := ?_) (zs := ?_) ?_ ?_ ?_ ?_); rotate_left 2; (focus (with_reducible rfl)); (focus rfl); (focus (intro u w1; go_simp; exact rfl)))))
                (try clear hc hf h); intro u w' h ha hdi; replace h := h.ins; (try simp only [World.size_alloc] at h); (try dsimp only at ha); (repeat rw [World.size_alloc] at ha); (try simp only [allH] at ha); (try simp only [ext] at ha); (try simp only [extU] at ha); (try simp only [Nat.reduceAdd] at ha); (try simp only [Nat.reduceEqDiff] at ha); (try simp only [reduceIte] at ha); (try simp only [if_true] at ha); (try simp only [if_false] at ha); (try simp only [and_true] at ha); (try simp only [true_and] at ha); have hc := h.cell; have hf := h.frozen; have hb := h.bel; clear hdi hc hf; clear hc3 hc4 hb2z; replace hin := hin.call hb; replace hB := hB.call hb; clear hb h; rename World => W1
                (try dsimp only)
                (try simp only [ha])
                clear ha
                have HI9 := Lib.hid hin
                have HB9 := Lib.hid hB
                go_wp2_with fail
                exact ⟨⟨k + 1, by omega, by rw [← HZ2.out], by go_num, HI9.out, HB9.out⟩, by simp [RowKit.intOf]; omega⟩
              · skip
                have hs := HSUC.out
                rw [Bool.true_and] at hs
                go_upto_region 13 with fail
                by_cases hyx : (y : Int) % 9 = (x : Int) % 9
                · rw [decide_eq_true hyx, Bool.not_true] at hs
                  subst hs
                  have htm : Hid (((y : Int).tmod 9 != (x : Int).tmod 9) = false) := Lib.hid (by
                    rw [Int.tmod_eq_emod_of_nonneg (by omega), Int.tmod_eq_emod_of_nonneg (by omega), hyx]; simp)
                  have h := In.self wz; have hc := h.cell; have hf := h.frozen; refine wp_region_flowE 14 (by kernel_rfl) (by kernel_rfl) (fun _ _ d _ _ h => by cases d <;> exact h) ?_; simp only [List.take_succ_cons, List.take_zero, List.drop_succ_cons, List.drop_zero]; simp only [putAll, Act.put, List.setIfInBounds_toArray, List.set]; (try simp only [Nat.reduceAdd]); (try simp only [Nat.zero_add]); (repeat (first | ((with_reducible refine flow_float (v := ?_) ?_ ?_ ?_); rotate_left 1; (focus (with_reducible rfl)); (focus (intro u w1 hw hd w2; (try simp only [depH] at hd); (try simp only [ext] at hd); (try simp only [extU] at hd); (try simp only [Nat.reduceAdd] at hd); (try simp only [Nat.reduceEqDiff] at hd); (try simp only [reduceIte] at hd); (try simp only [if_true] at hd); (try simp only [if_false] at hd); (try simp only [and_true] at hd); (try simp only [true_and] at hd); go_simp; exact rfl))) | ((with_reducible refine flow_pure0 (v := ?_) ?_ ?_ ?_ ?_); rotate_left 1; (focus (with_reducible rfl)); (focus rfl); (focus (intro u w1 hw hd; (try simp only [depH] at hd); (try simp only [ext] at hd); (try simp only [extU] at hd); (try simp only [Nat.reduceAdd] at hd); (try simp only [Nat.reduceEqDiff] at hd); (try simp only [reduceIte] at hd); (try simp only [if_true] at hd); (try simp only [if_false] at hd); (try simp only [and_true] at hd); (try simp only [true_and] at hd); have hc' := hw.cell; go_simp; exact rfl))) | ((with_reducible refine flow_skipg (j := ?_) (b := ?_) ?_ ?_ ?_); rotate_left 2; (focus (with_reducible rfl)); (focus (intro u w1 hw hd; (try simp only [depH] at hd); (try simp only [ext] at hd); (try simp only [extU] at hd); (try simp only [Nat.reduceAdd] at hd); (try simp only [Nat.reduceEqDiff] at hd); (try simp only [reduceIte] at hd); (try simp only [if_true] at hd); (try simp only [if_false] at hd); (try simp only [and_true] at hd); (try simp only [true_and] at hd); simp [yielded, hd]; done))) | ((with_reducible refine flow_pureg (v := ?_) (j := ?_) (b := ?_) ?_ ?_ ?_ ?_); rotate_left 3; (focus (with_reducible rfl)); (focus (intro u w1 hw hd; (try simp only [depH] at hd); (try simp only [ext] at hd); (try simp only [extU] at hd); (try simp only [Nat.reduceAdd] at hd); (try simp only [Nat.reduceEqDiff] at hd); (try simp only [reduceIte] at hd); (try simp only [if_true] at hd); (try simp only [if_false] at hd); (try simp only [and_true] at hd); (try simp only [true_and] at hd); simp [yielded, hd]; done)); (focus (intro u w1 hw hd; (try simp only [depH] at hd); (try simp only [ext] at hd); (try simp only [extU] at hd); (try simp only [Nat.reduceAdd] at hd); (try simp only [Nat.reduceEqDiff] at hd); (try simp only [reduceIte] at hd); (try simp only [if_true] at hd); (try simp only [if_false] at hd); (try simp only [and_true] at hd); (try simp only [true_and] at hd); have hc' := hw.cell; go_simp; exact rfl))) | ((with_reducible refine flow_alloc (t := ?_) (zs := ?_) ?_ ?_ ?_ ?_); rotate_left 2; (focus (with_reducible rfl)); (focus rfl); (focus (intro u w1; go_simp; exact rfl)))))
                  (try clear hc hf h); intro u w' h ha hdi; replace h := h.ins; (try simp only [World.size_alloc] at h); (try dsimp only at ha); (repeat rw [World.size_alloc] at ha); (try simp only [allH] at ha); (try simp only [ext] at ha); (try simp only [extU] at ha); (try simp only [Nat.reduceAdd] at ha); (try simp only [Nat.reduceEqDiff] at ha); (try simp only [reduceIte] at ha); (try simp only [if_true] at ha); (try simp only [if_false] at ha); (try simp only [and_true] at ha); (try simp only [true_and] at ha); have hc := h.cell; have hf := h.frozen; have hb := h.bel; clear hdi hc hf; clear hc3 hc4 hb2z; replace hin := hin.call hb; replace hB := hB.call hb; clear hb h; rename World => W1
                  (try dsimp only)
                  (try simp only [ha])
                  clear ha
                  have HI9 := Lib.hid hin
                  have HB9 := Lib.hid hB
                  go_wp2_with fail
                  exact ⟨⟨k + 1, by omega, by rw [← HZ2.out]; exact congrArg Value.bool htm.out, by go_num, HI9.out, HB9.out⟩, by simp [RowKit.intOf]; omega⟩
                · skip
                  rw [decide_eq_false hyx, Bool.not_false] at hs
                  subst hs
                  have htm : Hid (((y : Int).tmod 9 != (x : Int).tmod 9) = true) := Lib.hid (by
                    rw [Int.tmod_eq_emod_of_nonneg (by omega), Int.tmod_eq_emod_of_nonneg (by omega)]; exact bne_iff_ne.2 hyx)
                  have h := In.self wz; have hc := h.cell; have hf := h.frozen; refine wp_region_flowE 14 (by kernel_rfl) (by kernel_rfl) (fun _ _ d _ _ h => by cases d <;> exact h) ?_; simp only [List.take_succ_cons, List.take_zero, List.drop_succ_cons, List.drop_zero]; simp only [putAll, Act.put, List.setIfInBounds_toArray, List.set]; (try simp only [Nat.reduceAdd]); (try simp only [Nat.zero_add]); (repeat (first | ((with_reducible refine flow_float (v := ?_) ?_ ?_ ?_); rotate_left 1; (focus (with_reducible rfl)); (focus (intro u w1 hw hd w2; (try simp only [depH] at hd); (try simp only [ext] at hd); (try simp only [extU] at hd); (try simp only [Nat.reduceAdd] at hd); (try simp only [Nat.reduceEqDiff] at hd); (try simp only [reduceIte] at hd); (try simp only [if_true] at hd); (try simp only [if_false] at hd); (try simp only [and_true] at hd); (try simp only [true_and] at hd); go_simp; exact rfl))) | ((with_reducible refine flow_pure0 (v := ?_) ?_ ?_ ?_ ?_); rotate_left 1; (focus (with_reducible rfl)); (focus rfl); (focus (intro u w1 hw hd; (try simp only [depH] at hd); (try simp only [ext] at hd); (try simp only [extU] at hd); (try simp only [Nat.reduceAdd] at hd); (try simp only [Nat.reduceEqDiff] at hd); (try simp only [reduceIte] at hd); (try simp only [if_true] at hd); (try simp only [if_false] at hd); (try simp only [and_true] at hd); (try simp only [true_and] at hd); have hc' := hw.cell; go_simp; exact rfl))) | ((with_reducible refine flow_skipg (j := ?_) (b := ?_) ?_ ?_ ?_); rotate_left 2; (focus (with_reducible rfl)); (focus (intro u w1 hw hd; (try simp only [depH] at hd); (try simp only [ext] at hd); (try simp only [extU] at hd); (try simp only [Nat.reduceAdd] at hd); (try simp only [Nat.reduceEqDiff] at hd); (try simp only [reduceIte] at hd); (try simp only [if_true] at hd); (try simp only [if_false] at hd); (try simp only [and_true] at hd); (try simp only [true_and] at hd); simp [yielded, hd]; done))) | ((with_reducible refine flow_pureg (v := ?_) (j := ?_) (b := ?_) ?_ ?_ ?_ ?_); rotate_left 3; (focus (with_reducible rfl)); (focus (intro u w1 hw hd; (try simp only [depH] at hd); (try simp only [ext] at hd); (try simp only [extU] at hd); (try simp only [Nat.reduceAdd] at hd); (try simp only [Nat.reduceEqDiff] at hd); (try simp only [reduceIte] at hd); (try simp only [if_true] at hd); (try simp only [if_false] at hd); (try simp only [and_true] at hd); (try simp only [true_and] at hd); simp [yielded, hd]; done)); (focus (intro u w1 hw hd; (try simp only [depH] at hd); (try simp only [ext] at hd); (try simp only [extU] at hd); (try simp only [Nat.reduceAdd] at hd); (try simp only [Nat.reduceEqDiff] at hd); (try simp only [reduceIte] at hd); (try simp only [if_true] at hd); (try simp only [if_false] at hd); (try simp only [and_true] at hd); (try simp only [true_and] at hd); have hc' := hw.cell; go_simp; exact rfl))) | ((with_reducible refine flow_alloc (t := ?_) (zs := ?_) ?_ ?_ ?_ ?_); rotate_left 2; (focus (with_reducible rfl)); (focus rfl); (focus (intro u w1; go_simp; exact rfl)))))
                  (try clear hc hf h); intro u w' h ha hdi; replace h := h.ins; (try simp only [World.size_alloc] at h); (try dsimp only at ha); (repeat rw [World.size_alloc] at ha); (try simp only [allH] at ha); (try simp only [ext] at ha); (try simp only [extU] at ha); (try simp only [Nat.reduceAdd] at ha); (try simp only [Nat.reduceEqDiff] at ha); (try simp only [reduceIte] at ha); (try simp only [if_true] at ha); (try simp only [if_false] at ha); (try simp only [and_true] at ha); (try simp only [true_and] at ha); have hc := h.cell; have hf := h.frozen; have hb := h.bel; clear hdi hc hf; clear hc3 hc4 hb2z; replace hin := hin.call hb; replace hB := hB.call hb; clear hb h; rename World => W1
                  (try dsimp only)
                  (try simp only [ha])
                  clear ha
                  have HI9 := Lib.hid hin
                  have HB9 := Lib.hid hB
                  go_wp2_with fail
                  exact ⟨⟨k + 1, by omega, by rw [← HZ2.out]; exact congrArg Value.bool htm.out, by go_num, HI9.out, HB9.out⟩, by simp [RowKit.intOf]; omega⟩
            · obtain rfl : k = i := by omega
              have hkI : ¬ (k : Int) < k := by omega
              have hcs : cntF d (k + 1) = cntF d k + if firstTo d k k = true then 1 else 0 := rfl
              obtain ⟨z, hz⟩ : ∃ z, z = firstTo d k k := ⟨_, rfl⟩
              obtain ⟨c9, hc9⟩ : ∃ c, c = cntF d k := ⟨_, rfl⟩
              rw [← hz, ← hc9] at hcs
              rw [← hz, ← hc9]
              have hcl : c9 ≤ k := by rw [hc9]; exact cntF_le d k
              have HCS := Lib.hid hcs
              have HI9 := Lib.hid hin
              have HB9 := Lib.hid hB
              clear hcs hz hc9 hin hB
              rcases z with _ | _
              · go_wp2_with fail
                exact ⟨⟨k + 1, by omega, by rw [HCS.out]; simp, by go_num, HI9.out, HB9.out⟩, by simp [RowKit.intOf]; omega⟩
              · have hcw : IntKind.i64.wrap ((c9 : Int) + 1) = ((c9 + 1 : Nat) : Int) := IntWalk.i64_in _ (by omega)
                go_wp2_with fail
                exact ⟨⟨k + 1, by omega, by rw [HCS.out]; simp, by go_num, HI9.out, HB9.out⟩, by simp [RowKit.intOf]; omega⟩
        · obtain rfl : i = n := by omega
          have hiI : ¬ (i : Int) < i := by omega
          have hsp := bsparse_any wr (b + 1) b i i i _ hB (by omega) (by omega)
          obtain ⟨c9, hc9⟩ : ∃ c, c = cntF d i := ⟨_, rfl⟩
          rw [← hc9]
          have HC9 := Lib.hid hc9
          clear hc9 hB
          skip
          skip
          ((go_wp2_with fail); (((with_reducible refine (hsp).mono ?_))); (rintro e ws ⟨sv, rfl, hS, hb⟩); (clear hsp); (replace hin := hin.call hb); (clear hb))
          replace hS : SpM ws sv i i (diagA d) := (SpN.congr hS fun r c hr hc => by
            unfold diagT diagA
            by_cases e : r = c
            · rw [if_pos ⟨e, hr⟩, if_pos e]
            · rw [if_neg (fun h => e h.1), if_neg e]).m
          obtain ⟨ra, rk, rfl⟩ := hS.shape
          go_upto_region 17 with fail
          skip
          ((obtain ⟨Sb, hSb⟩ : ∃ z, z = ws.heap.size := ⟨_, rfl⟩); (have bSb := Bx.new_at ws #[.int .i64 i, .int .i64 i, .slice ra i rk] 30 hSb); (replace hin := hin.alloc (.cells #[.int .i64 i, .int .i64 i, .slice ra i rk] 30)); (replace hS := hS.call ((Below.refl _ _).alloc (Nat.le_refl _) (.cells #[.int .i64 i, .int .i64 i, .slice ra i rk] 30))); (rw [← hSb]); (clear hSb); (generalize ws.alloc (.cells #[.int .i64 i, .int .i64 i, .slice ra i rk] 30) = W2 at *))
          have c17 := lvec_any W2 ba bc i qb (hqw.call hin.bel) hob (by omega) (by omega)
          ((go_wp2_with fail); (((with_reducible refine (c17).mono ?_))); (rintro e wc3 ⟨⟨vv, rfl, hv⟩, hb⟩); (clear c17); (replace hin := hin.call hb); (replace hS := hS.call hb); (replace bSb := bSb.call hb); (clear hb))
          rw [mList_vl] at hv
          obtain ⟨va, vk, he⟩ := hv.shape
          rw [vl_length] at he
          subst he
          have hRS := few_runS (d := d) (n := i) hn7 hbn hob
          have hsy := diagA_sym d i
          obtain ⟨j, hF⟩ := fin_pos (s0 := startC i (diagA d) (mEl qb) fun _ => 0) hsy (diagA_pos d i) rfl
          have hjc : j ≤ c9 := by rw [HC9.out]; exact few_steps hF
          obtain ⟨s0, hs0⟩ : ∃ s, s = startC i (diagA d) (mEl qb) fun _ => 0 := ⟨_, rfl⟩
          have hs0x : s0.x = fun _ => 0 := by rw [hs0]; rfl
          have hs0r : ∀ k, k < i → s0.r k = mEl qb k - mv i (diagA d) s0.x k := fun k _ => by rw [hs0]; rfl
          have hs0p : s0.p = s0.r := by rw [hs0]; rfl
          rw [← hs0] at hRS hF
          clear hs0
          have hjn := hF.1
          have c18 := run_vl wc3 _ _ hS hsy hv hs0x hs0r hs0p hRS
          ((have y0 := bSb.c0); (have y1 := bSb.c1); (have y2 := bSb.c2); (have yl := bSb.lt))
          skip
          ((go_wp2_with fail); (((with_reducible refine (c18).mono ?_))); (rintro e wu ⟨⟨v, rfl, hP⟩, hb⟩); (clear y0 y1 y2 yl c18); (replace hin := hin.call hb); (replace hS := hS.call hb); (replace hv := hv.call hb); (replace bSb := bSb.call hb); (clear hb))
          obtain ⟨dl, rfl, hst⟩ : ∃ dl, v = .tuple #[dl, .int .i64 0] ∧ StepsAt wu dl i (j + 1) (runD i (diagA d) (mEl qb) s0 j) := by
            rcases hP with ⟨j', dl, h1, h2, h3⟩ | ⟨h, _⟩
            · obtain rfl := h1.unique hF
              exact ⟨dl, h2, h3⟩
            · exact absurd ⟨j, hF⟩ h
          clear hP
          obtain ⟨lb, loff, lcap, he, hall⟩ := hst.open
          subst he
          clear hst
          have hw1 : IntKind.i64.wrap (((j + 1 : Nat) : Int) - 1) = (j : Int) := by
            rw [show (((j + 1 : Nat) : Int) - 1) = (j : Int) by omega]; exact IntWalk.i64_in _ (by omega)
          have hw1' : IntKind.i64.wrap ((j : Int) + 1 - 1) = (j : Int) := by
            rw [show ((j : Int) + 1 - 1) = (j : Int) by omega]; exact IntWalk.i64_in _ (by omega)
          have hw2 : ¬ ((j : Int) + 1 < 1) := by omega
          have hw3 : ¬ (c9 < j) := by omega
          have hw4 : ¬ ((c9 : Int) < (j : Int)) := by omega
          have HMK := Lib.hid (mk_vec i (by omega))
          have hux0 := In.self wu
          skip
          go_upto_region 21 with fail
          ((have y0 := bSb.c0); (have y1 := bSb.c1); (have y2 := bSb.c2); (have yl := bSb.lt))
          have c21 := fun W xv (h : In wu.heap.size wu W) (hx : VcQ (List.replicate i 0) xv W) => (from_vl W _ _ xv (hS.call h.bel) hsy (hv.call h.bel) (by rw [hs0x, vl_zero]; exact hx) hs0r hs0p hRS).mono fun e W' ⟨⟨v, h1, h2⟩, h3⟩ => (⟨⟨v, h1, WkP.tup (by
            rcases h2 with ⟨j', dl, h4, h5, h6⟩ | ⟨h4, _⟩
            · obtain rfl := h4.unique hF
              exact ⟨dl, h5, h6⟩
            · exact absurd ⟨j, hF⟩ h4)⟩, h3⟩ : (∃ v, e = Ending.returned v ∧ TupP (WkP i j (runD i (diagA d) (mEl qb) s0 j)) v W') ∧ Below W.heap.size W W')
          have h := In.self wu; have hc := h.cell; have hf := h.frozen; refine wp_region_flow 9 (by kernel_rfl) (by kernel_rfl) (fun _ _ d _ _ h => by cases d <;> exact h) ?_; simp only [List.take_succ_cons, List.take_zero, List.drop_succ_cons, List.drop_zero]; simp only [putAll, Act.put, List.setIfInBounds_toArray, List.set]; (try simp only [Nat.reduceAdd]); (try simp only [Nat.zero_add]); (repeat (first | ((with_reducible refine flow_float (v := ?_) ?_ ?_ ?_); rotate_left 1; (focus (with_reducible rfl)); (focus (intro u w1 hw hd w2; (try simp only [depH] at hd); (try simp only [ext] at hd); (try simp only [extU] at hd); (try simp only [Nat.reduceAdd] at hd); (try simp only [Nat.reduceEqDiff] at hd); (try simp only [reduceIte] at hd); (try simp only [if_true] at hd); (try simp only [if_false] at hd); (try simp only [and_true] at hd); (try simp only [true_and] at hd); go_simp; exact rfl))) | ((with_reducible refine flow_pure0 (v := ?_) ?_ ?_ ?_ ?_); rotate_left 1; (focus (with_reducible rfl)); (focus rfl); (focus (intro u w1 hw hd; (try simp only [depH] at hd); (try simp only [ext] at hd); (try simp only [extU] at hd); (try simp only [Nat.reduceAdd] at hd); (try simp only [Nat.reduceEqDiff] at hd); (try simp only [reduceIte] at hd); (try simp only [if_true] at hd); (try simp only [if_false] at hd); (try simp only [and_true] at hd); (try simp only [true_and] at hd); have hc' := hw.cell; go_simp; exact rfl))) | ((with_reducible refine flow_skipg (j := ?_) (b := ?_) ?_ ?_ ?_); rotate_left 2; (focus (with_reducible rfl)); (focus (intro u w1 hw hd; (try simp only [depH] at hd); (try simp only [ext] at hd); (try simp only [extU] at hd); (try simp only [Nat.reduceAdd] at hd); (try simp only [Nat.reduceEqDiff] at hd); (try simp only [reduceIte] at hd); (try simp only [if_true] at hd); (try simp only [if_false] at hd); (try simp only [and_true] at hd); (try simp only [true_and] at hd); simp [yielded, hd]; done))) | ((with_reducible refine flow_pureg (v := ?_) (j := ?_) (b := ?_) ?_ ?_ ?_ ?_); rotate_left 3; (focus (with_reducible rfl)); (focus (intro u w1 hw hd; (try simp only [depH] at hd); (try simp only [ext] at hd); (try simp only [extU] at hd); (try simp only [Nat.reduceAdd] at hd); (try simp only [Nat.reduceEqDiff] at hd); (try simp only [reduceIte] at hd); (try simp only [if_true] at hd); (try simp only [if_false] at hd); (try simp only [and_true] at hd); (try simp only [true_and] at hd); simp [yielded, hd]; done)); (focus (intro u w1 hw hd; (try simp only [depH] at hd); (try simp only [ext] at hd); (try simp only [extU] at hd); (try simp only [Nat.reduceAdd] at hd); (try simp only [Nat.reduceEqDiff] at hd); (try simp only [reduceIte] at hd); (try simp only [if_true] at hd); (try simp only [if_false] at hd); (try simp only [and_true] at hd); (try simp only [true_and] at hd); have hc' := hw.cell; go_simp; exact rfl))) | ((with_reducible refine flow_alloc (t := ?_) (zs := ?_) ?_ ?_ ?_ ?_); rotate_left 2; (focus (with_reducible rfl)); (focus rfl); (focus (intro u w1; go_simp; exact rfl)))))
          (with_reducible refine flow_rel (Vi := VcQ (List.replicate i 0)) false ?_ ?_ ?_ ?_ ?_ ?_); (focus rfl); (focus rfl); (focus exact stable_vcq _); (focus exact placed_false _); (focus (intro u w1 hw hd; (try simp only [depH] at hd); (try simp only [ext] at hd); (try simp only [extU] at hd); (try simp only [Nat.reduceAdd] at hd); (try simp only [Nat.reduceEqDiff] at hd); (try simp only [reduceIte] at hd); (try simp only [if_true] at hd); (try simp only [if_false] at hd); (try simp only [and_true] at hd); (try simp only [true_and] at hd); have hc' := hw.cell; have hmk := HMK.out w1; go_simp; (try simp only [okUpon]); exact ⟨⟨(VBx.made w1 i).at i List.length_replicate.symm i, fun h => by cases h⟩, (Below.refl _ _).alloc (Nat.le_refl _) _⟩))
          (with_reducible refine flow_rel (Vi := TupP (WkP i j (runD i (diagA d) (mEl qb) s0 j))) false ?_ ?_ ?_ ?_ ?_ ?_); (focus rfl); (focus rfl); (focus exact stable_tupp (WkP.stable _ _ _)); (focus exact placed_false _); (focus (intro u w1 hw hd; (try simp only [depH] at hd); (try simp only [ext] at hd); (try simp only [extU] at hd); (try simp only [Nat.reduceAdd] at hd); (try simp only [Nat.reduceEqDiff] at hd); (try simp only [reduceIte] at hd); (try simp only [if_true] at hd); (try simp only [if_false] at hd); (try simp only [and_true] at hd); (try simp only [true_and] at hd); obtain ⟨hd1, hd2, hd3⟩ := hd; have hc' := hw.cell; go_simp; (try simp only [okUpon]); go_at_call 16; ((with_reducible refine (c21 _ _ hw.ins hd3).mono ?_)); rintro e w'' ⟨⟨v, rfl, hv⟩, hb⟩; exact ⟨v, rfl, ⟨hv, fun h => by cases h⟩, hb⟩))
          (((with_reducible refine flow_link (k := 5) (R := MvS) ?_ ?_ ?_ ?_); (focus rfl); (focus rfl); (focus (intro u w1 hw hd; (try simp only [depH] at hd); (try simp only [ext] at hd); (try simp only [extU] at hd); (try simp only [Nat.reduceAdd] at hd); (try simp only [Nat.reduceEqDiff] at hd); (try simp only [reduceIte] at hd); (try simp only [if_true] at hd); (try simp only [if_false] at hd); (try simp only [and_true] at hd); (try simp only [true_and] at hd); obtain ⟨⟨a, l, k, e, h3⟩, _⟩ := hd; exact ⟨u 5, fun w2 => (by go_simp), rfl, a, l, k, e, h3⟩))); ((with_reducible refine flow_link (k := 6) (R := FstS) ?_ ?_ ?_ ?_); (focus rfl); (focus rfl); (focus (intro u w1 hw hd; (try simp only [depH] at hd); (try simp only [ext] at hd); (try simp only [extU] at hd); (try simp only [Nat.reduceAdd] at hd); (try simp only [Nat.reduceEqDiff] at hd); (try simp only [reduceIte] at hd); (try simp only [if_true] at hd); (try simp only [if_false] at hd); (try simp only [and_true] at hd); (try simp only [true_and] at hd); obtain ⟨h4, a, l, k, e, h5⟩ := hd; exact ⟨.slice a l k, fun w2 => (by clear h4; go_simp), a, l, k, e, h5, rfl⟩))); ((with_reducible refine flow_link (k := 6) (R := SndS) ?_ ?_ ?_ ?_); (focus rfl); (focus rfl); (focus (intro u w1 hw hd; (try simp only [depH] at hd); (try simp only [ext] at hd); (try simp only [extU] at hd); (try simp only [Nat.reduceAdd] at hd); (try simp only [Nat.reduceEqDiff] at hd); (try simp only [reduceIte] at hd); (try simp only [if_true] at hd); (try simp only [if_false] at hd); (try simp only [and_true] at hd); (try simp only [true_and] at hd); obtain ⟨h4, a, l, k, e, h5⟩ := hd; exact ⟨.int .i64 e, fun w2 => (by clear h4; go_simp), a, l, k, e, h5, rfl⟩))))
          skip
          (try clear hc hf h); intro u w' h ha hdi; replace h := h.ins; (try simp only [World.size_alloc] at h); (try dsimp only at ha); (repeat rw [World.size_alloc] at ha); (try simp only [allH] at ha); (try simp only [ext] at ha); (try simp only [extU] at ha); (try simp only [Nat.reduceAdd] at ha); (try simp only [Nat.reduceEqDiff] at ha); (try simp only [reduceIte] at ha); (try simp only [if_true] at ha); (try simp only [if_false] at ha); (try simp only [and_true] at ha); (try simp only [true_and] at ha); have hc := h.cell; have hf := h.frozen; have hb := h.bel; clear hdi hc hf; clear y0 y1 y2 yl c21; replace hin := hin.call hb; replace hux0 := hux0.call hb; replace hS := hS.call hb; replace hv := hv.call hb; replace bSb := bSb.call hb; clear hb h; rename World => wx
          obtain ⟨⟨⟨⟨⟨⟨⟨⟨h0, h1⟩, h2⟩, h3⟩, h4⟩, h5⟩, h6⟩, h7⟩, h8⟩ := ha
          obtain ⟨_, df, g5, hst⟩ := h5
          obtain ⟨g6, g7, g8⟩ := tups_out g5 h6 h7 h8
          (try dsimp only)
          simp only [g7, g8]
          clear h0 h1 h2 h3 h4 h6 h7 h8 g5 g6 g7 g8
          obtain ⟨fb, foff, fcap, he, hfall⟩ := hst.open
          subst he
          clear hst HMK
          have hux : In wu.heap.size wu wx := hux0
          have hall2 : ∀ m, m < j + 1 → ∃ xa ra pa xk rk pk, StepK wx lb loff i m xa ra pa xk rk pk (runD i (diagA d) (mEl qb) s0 j m) := fun m hm => by
            obtain ⟨xa, ra, pa, xk, rk, pk, K⟩ := hall m hm
            exact ⟨xa, ra, pa, xk, rk, pk, K.call hux.bel⟩
          clear hall hux
          go_wp2_with fail
          go_loopw [17] (fun v17 wy => ∃ m : Nat, m ≤ j + 1 ∧ v17 = .int .i64 m ∧ In wx.heap.size wx wy) (fun v17 _ => j + 1 - (RowKit.intOf v17).toNat)
          case atStart => exact ⟨0, Nat.zero_le _, rfl, In.self _⟩
          case round =>
            rename World => wy
            obtain ⟨m, hm, rfl, hy⟩ := hrel
            by_cases hmj : m < j + 1
            · have hmI : (m : Int) < (j : Int) + 1 := by omega
              have hm0 : (0 : Int) ≤ m := by omega
              obtain ⟨xa1, ra1, pa1, xk1, rk1, pk1, K1⟩ := hall2 m hmj
              obtain ⟨xa2, ra2, pa2, xk2, rk2, pk2, K2⟩ := hfall m hmj
              replace K1 := K1.call hy.bel
              replace K2 := K2.call hy.bel
              skip
              have f1 := fun W (h : In wy.heap.size wy W) => vsame_any W _ _ _ _ (K2.x.call h.bel) (K1.x.call h.bel) (by rw [vl_length]; omega)
              have f2 := fun W (h : In wy.heap.size wy W) => vsame_any W _ _ _ _ (K2.p.call h.bel) (K1.p.call h.bel) (by rw [vl_length]; omega)
              simp only at f1
              simp only at f2
              obtain ⟨E1, E2, E3, E4, E5, hE, hE'⟩ : ∃ A1 A2 A3 A4 A5, fracV ((runD i (diagA d) (mEl qb) s0 j m).en) = .agg #[.int .u64 A1, .string A2, .bool A3, .int .u64 A4, .string A5] ∧ fcs ((runD i (diagA d) (mEl qb) s0 j m).en) = [.int .u64 A1, .string A2, .bool A3, .int .u64 A4, .string A5] := ⟨_, _, _, _, _, rfl, rfl⟩
              have k0 := K1.c0
              have k2 := K1.c2
              have q0 := K2.c0
              have q2 := K2.c2
              have kl := K1.lt
              have ql := K2.lt
              skip
              have ec0 : wy.cell? ⟨lb, loff + m * 13 + 8, none⟩ = some (.int .u64 E1) := (K1.ce 0 (by decide)).trans (congrArg (fun l : List Value => l[0]?) hE')
              have ed0 : wy.cell? ⟨fb, foff + m * 13 + 8, none⟩ = some (.int .u64 E1) := (K2.ce 0 (by decide)).trans (congrArg (fun l : List Value => l[0]?) hE')
              have ec1 : wy.cell? ⟨lb, loff + m * 13 + 9, none⟩ = some (.string E2) := (K1.ce 1 (by decide)).trans (congrArg (fun l : List Value => l[1]?) hE')
              have ed1 : wy.cell? ⟨fb, foff + m * 13 + 9, none⟩ = some (.string E2) := (K2.ce 1 (by decide)).trans (congrArg (fun l : List Value => l[1]?) hE')
              have ec2 : wy.cell? ⟨lb, loff + m * 13 + 10, none⟩ = some (.bool E3) := (K1.ce 2 (by decide)).trans (congrArg (fun l : List Value => l[2]?) hE')
              have ed2 : wy.cell? ⟨fb, foff + m * 13 + 10, none⟩ = some (.bool E3) := (K2.ce 2 (by decide)).trans (congrArg (fun l : List Value => l[2]?) hE')
              have ec3 : wy.cell? ⟨lb, loff + m * 13 + 11, none⟩ = some (.int .u64 E4) := (K1.ce 3 (by decide)).trans (congrArg (fun l : List Value => l[3]?) hE')
              have ed3 : wy.cell? ⟨fb, foff + m * 13 + 11, none⟩ = some (.int .u64 E4) := (K2.ce 3 (by decide)).trans (congrArg (fun l : List Value => l[3]?) hE')
              have ec4 : wy.cell? ⟨lb, loff + m * 13 + 12, none⟩ = some (.string E5) := (K1.ce 4 (by decide)).trans (congrArg (fun l : List Value => l[4]?) hE')
              have ed4 : wy.cell? ⟨fb, foff + m * 13 + 12, none⟩ = some (.string E5) := (K2.ce 4 (by decide)).trans (congrArg (fun l : List Value => l[4]?) hE')
              skip
              clear hE hE'
              go_upto_region 27 with fail
              have h := In.self wy; have hc := h.cell; have hf := h.frozen; refine wp_region_flowE 38 (by kernel_rfl) (by kernel_rfl) (fun _ _ d _ _ h => by cases d <;> exact h) ?_; simp only [List.take_succ_cons, List.take_zero, List.drop_succ_cons, List.drop_zero]; simp only [putAll, Act.put, List.setIfInBounds_toArray, List.set]; (try simp only [Nat.reduceAdd]); (try simp only [Nat.zero_add]); (repeat (first | ((with_reducible refine flow_float (v := ?_) ?_ ?_ ?_); rotate_left 1; (focus (with_reducible rfl)); (focus (intro u w1 hw hd w2; (try simp only [depH] at hd); (try simp only [ext] at hd); (try simp only [extU] at hd); (try simp only [Nat.reduceAdd] at hd); (try simp only [Nat.reduceEqDiff] at hd); (try simp only [reduceIte] at hd); (try simp only [if_true] at hd); (try simp only [if_false] at hd); (try simp only [and_true] at hd); (try simp only [true_and] at hd); go_simp; exact rfl))) | ((with_reducible refine flow_pure0 (v := ?_) ?_ ?_ ?_ ?_); rotate_left 1; (focus (with_reducible rfl)); (focus rfl); (focus (intro u w1 hw hd; (try simp only [depH] at hd); (try simp only [ext] at hd); (try simp only [extU] at hd); (try simp only [Nat.reduceAdd] at hd); (try simp only [Nat.reduceEqDiff] at hd); (try simp only [reduceIte] at hd); (try simp only [if_true] at hd); (try simp only [if_false] at hd); (try simp only [and_true] at hd); (try simp only [true_and] at hd); have hc' := hw.cell; go_simp; exact rfl))) | ((with_reducible refine flow_skipg (j := ?_) (b := ?_) ?_ ?_ ?_); rotate_left 2; (focus (with_reducible rfl)); (focus (intro u w1 hw hd; (try simp only [depH] at hd); (try simp only [ext] at hd); (try simp only [extU] at hd); (try simp only [Nat.reduceAdd] at hd); (try simp only [Nat.reduceEqDiff] at hd); (try simp only [reduceIte] at hd); (try simp only [if_true] at hd); (try simp only [if_false] at hd); (try simp only [and_true] at hd); (try simp only [true_and] at hd); simp [yielded, hd]; done))) | ((with_reducible refine flow_pureg (v := ?_) (j := ?_) (b := ?_) ?_ ?_ ?_ ?_); rotate_left 3; (focus (with_reducible rfl)); (focus (intro u w1 hw hd; (try simp only [depH] at hd); (try simp only [ext] at hd); (try simp only [extU] at hd); (try simp only [Nat.reduceAdd] at hd); (try simp only [Nat.reduceEqDiff] at hd); (try simp only [reduceIte] at hd); (try simp only [if_true] at hd); (try simp only [if_false] at hd); (try simp only [and_true] at hd); (try simp only [true_and] at hd); simp [yielded, hd]; done)); (focus (intro u w1 hw hd; (try simp only [depH] at hd); (try simp only [ext] at hd); (try simp only [extU] at hd); (try simp only [Nat.reduceAdd] at hd); (try simp only [Nat.reduceEqDiff] at hd); (try simp only [reduceIte] at hd); (try simp only [if_true] at hd); (try simp only [if_false] at hd); (try simp only [and_true] at hd); (try simp only [true_and] at hd); have hc' := hw.cell; go_simp; exact rfl))) | ((with_reducible refine flow_alloc (t := ?_) (zs := ?_) ?_ ?_ ?_ ?_); rotate_left 2; (focus (with_reducible rfl)); (focus rfl); (focus (intro u w1; go_simp; exact rfl))) | ((with_reducible refine flow_pure0 (v := ?_) ?_ ?_ ?_ ?_); rotate_left 1; (focus (with_reducible rfl)); (focus rfl); (focus (intro u w1 hw hd; (try simp only [depH] at hd); (try simp only [ext] at hd); (try simp only [extU] at hd); (try simp only [Nat.reduceAdd] at hd); (try simp only [Nat.reduceEqDiff] at hd); (try simp only [reduceIte] at hd); (try simp only [if_true] at hd); (try simp only [if_false] at hd); (try simp only [and_true] at hd); (try simp only [true_and] at hd); have hc' := hw.cell; go_simp; go_at_call 20; ((with_reducible refine (f1 _ hw.ins).mono ?_)); rintro e w'' ⟨rfl, hb⟩; refine ⟨?_, hb⟩; exact rfl))) | ((with_reducible refine flow_pureg (v := ?_) (j := ?_) (b := ?_) ?_ ?_ ?_ ?_); rotate_left 3; (focus (with_reducible rfl)); (focus (intro u w1 hw hd; (try simp only [depH] at hd); (try simp only [ext] at hd); (try simp only [extU] at hd); (try simp only [Nat.reduceAdd] at hd); (try simp only [Nat.reduceEqDiff] at hd); (try simp only [reduceIte] at hd); (try simp only [if_true] at hd); (try simp only [if_false] at hd); (try simp only [and_true] at hd); (try simp only [true_and] at hd); simp [yielded, hd]; done)); (focus (intro u w1 hw hd; (try simp only [depH] at hd); (try simp only [ext] at hd); (try simp only [extU] at hd); (try simp only [Nat.reduceAdd] at hd); (try simp only [Nat.reduceEqDiff] at hd); (try simp only [reduceIte] at hd); (try simp only [if_true] at hd); (try simp only [if_false] at hd); (try simp only [and_true] at hd); (try simp only [true_and] at hd); have hc' := hw.cell; go_simp; go_at_call 20; ((with_reducible refine (f1 _ hw.ins).mono ?_)); rintro e w'' ⟨rfl, hb⟩; refine ⟨?_, hb⟩; exact rfl))) | ((with_reducible refine flow_pure0 (v := ?_) ?_ ?_ ?_ ?_); rotate_left 1; (focus (with_reducible rfl)); (focus rfl); (focus (intro u w1 hw hd; (try simp only [depH] at hd); (try simp only [ext] at hd); (try simp only [extU] at hd); (try simp only [Nat.reduceAdd] at hd); (try simp only [Nat.reduceEqDiff] at hd); (try simp only [reduceIte] at hd); (try simp only [if_true] at hd); (try simp only [if_false] at hd); (try simp only [and_true] at hd); (try simp only [true_and] at hd); have hc' := hw.cell; go_simp; go_at_call 20; ((with_reducible refine (f2 _ hw.ins).mono ?_)); rintro e w'' ⟨rfl, hb⟩; refine ⟨?_, hb⟩; exact rfl))) | ((with_reducible refine flow_pureg (v := ?_) (j := ?_) (b := ?_) ?_ ?_ ?_ ?_); rotate_left 3; (focus (with_reducible rfl)); (focus (intro u w1 hw hd; (try simp only [depH] at hd); (try simp only [ext] at hd); (try simp only [extU] at hd); (try simp only [Nat.reduceAdd] at hd); (try simp only [Nat.reduceEqDiff] at hd); (try simp only [reduceIte] at hd); (try simp only [if_true] at hd); (try simp only [if_false] at hd); (try simp only [and_true] at hd); (try simp only [true_and] at hd); simp [yielded, hd]; done)); (focus (intro u w1 hw hd; (try simp only [depH] at hd); (try simp only [ext] at hd); (try simp only [extU] at hd); (try simp only [Nat.reduceAdd] at hd); (try simp only [Nat.reduceEqDiff] at hd); (try simp only [reduceIte] at hd); (try simp only [if_true] at hd); (try simp only [if_false] at hd); (try simp only [and_true] at hd); (try simp only [true_and] at hd); have hc' := hw.cell; go_simp; go_at_call 20; ((with_reducible refine (f2 _ hw.ins).mono ?_)); rintro e w'' ⟨rfl, hb⟩; refine ⟨?_, hb⟩; exact rfl)))))
              (try clear hc hf h); intro u w' h ha hdi; replace h := h.ins; (try simp only [World.size_alloc] at h); (try dsimp only at ha); (repeat rw [World.size_alloc] at ha); (try simp only [allH] at ha); (try simp only [ext] at ha); (try simp only [extU] at ha); (try simp only [Nat.reduceAdd] at ha); (try simp only [Nat.reduceEqDiff] at ha); (try simp only [reduceIte] at ha); (try simp only [if_true] at ha); (try simp only [if_false] at ha); (try simp only [and_true] at ha); (try simp only [true_and] at ha); have hc := h.cell; have hf := h.frozen; have hb := h.bel; clear hdi hc hf; clear k0 k2 q0 q2 kl ql ec0 ec1 ec2 ec3 ec4 ed0 ed1 ed2 ed3 ed4 f1 f2; replace hy := hy.call hb; replace K1 := K1.call hb; replace K2 := K2.call hb; clear hb h; rename World => W1
              (try dsimp only)
              simp only [ha]
              clear ha
              have HY9 := Lib.hid hy
              go_wp2_with fail
              exact ⟨⟨m + 1, by omega, by go_num, HY9.out⟩, by simp [RowKit.intOf]; omega⟩
            · obtain rfl : m = j + 1 := by omega
              have hmI : ¬ ((j : Int) + 1) < (j : Int) + 1 := by omega
              skip
              ((go_wp2_with fail); (((with_reducible refine (cz _).mono ?_))); (rintro e wc1 ⟨rfl, hb⟩); (skip); (replace hy := hy.call hb); (clear hb))
              go_wp2_with fail
              go_ret
              exact ⟨rfl, (hin.call hy.bel).bel⟩
  · have hnI : (7 : Int) < n := by omega
    skip
    ((go_wp2_with fail); (((with_reducible refine (cz _).mono ?_))); (rintro e wc1 ⟨rfl, hb⟩); (skip); (replace hin := hin.call hb); (clear hb))
    go_wp2_with fail
    go_ret
    exact ⟨rfl, hin.bel⟩
end Gus
end
section
/- Arguments that are slices of bytes. -/
namespace Gus
open Go Go.RowKit Go.Proofs Go.ChangeShapes Go.WideShapes Go.ChangeAt Go.Deep
section
variable {H : Type} {enc : TypeId × Value → H} {W : World} {base : Nat} {sp : Nat → Bool} {held : Bool}
set_option maxRecDepth 100000 in
theorem open_us {b0 : Nat} {v : Value} {d : DataW H} {ps : List MemPlace} (hval : Value.okWide Tryz.prog W .any b0 65 v) (hd : DataW.Trod enc Tryz.prog W base sp held 65 v d ps) :
    ∃ a xs cap, v = .slice a (List.length xs) cap ∧ U8At W a xs ∧ (∀ i, xs.getD i 0 < 256) ∧ xs.length ≤ maxLen := by
  obtain ⟨a, len, cap, rfl⟩ := okWide_slice Tryz.underlying65 hval
  obtain ⟨fuel, hf⟩ := hd
  rcases open_ints Tryz.underlying65 Tryz.underlying5 (by kernel_rfl) hf with ⟨e, _⟩ | ⟨a', len', cap', zs, e, _, hlc, hcm, hzl, _, hc, hw⟩
  · simp [Value.cells] at e
    obtain ⟨rfl, rfl, rfl⟩ := e
    exact ⟨none, [], 0, rfl, fun i hi => absurd hi (Nat.not_lt_zero _), fun i => by simp, Nat.zero_le _⟩
  · simp [Value.cells] at e
    obtain ⟨rfl, rfl, rfl⟩ := e
    have hle : len ≤ zs.length := by rw [hzl]; split <;> omega
    have htl : (zs.take len).length = len := by rw [List.length_take]; omega
    have hg : ∀ i, i < len → ((((zs.take len).map Int.toNat).getD i 0 : Nat) : Int) = zs.getD i 0 ∧ 0 ≤ zs.getD i 0 ∧ zs.getD i 0 < 256 := fun i hi => by
      have hz : zs.getD i 0 = zs[i]'(by omega) := by rw [List.getD_eq_getElem?_getD, List.getElem?_eq_getElem (by omega)]; rfl
      have hb := bounds_u8 (hw (zs[i]'(by omega)) (List.getElem_mem _))
      have h1 : ((zs.take len).map Int.toNat).getD i 0 = (zs[i]'(by omega)).toNat := by
        rw [List.getD_eq_getElem?_getD, List.getElem?_map, List.getElem?_take, if_pos hi, List.getElem?_eq_getElem (by omega)]; rfl
      rw [h1, hz]
      omega
    refine ⟨some a', (zs.take len).map Int.toNat, cap, by rw [List.length_map, htl], fun i hi => ?_, fun i => ?_, by rw [List.length_map, htl]; omega⟩
    · rw [List.length_map, htl] at hi
      obtain ⟨b, off, spot⟩ := a'
      obtain rfl : spot = none := by
        have hs := World.cell?_spot (hc 0 (by omega))
        simpa [Addr.add] using hs
      have h1 := hc i (by omega)
      rw [add_plain] at h1
      refine ⟨b, off, rfl, cell_in h1, ?_⟩
      rw [h1, (hg i hi).1]
    · by_cases hi : i < len
      · have := hg i hi; omega
      · rw [List.getD_eq_getElem?_getD, List.getElem?_eq_none (by rw [List.length_map, htl]; omega)]; decide
end
end Gus
end
section
/- Proved: whatever the diagonal and the right-hand side, gussetlaw19.CgsFew returns true, and the arguments read as before. Conditions: the three listed tables hold what the program's text lays (the card ties them). -/
namespace Go.Proofs.YtjbclomfocnplaaGreatDoor
open Go Go.RowKit Go.ChangeShapes Go.WideShapes Go.ChangeAt Gus
namespace Few
theorem params_ok : ∀ t ∈ Tryz.f5.params.toList, Tryz.prog.readableRec t = true ∧ t < Tryz.prog.types.size := by
  rw [Tryz.params5]
  intro t ht
  simp only [List.mem_cons, List.not_mem_nil, or_false] at ht
  rcases ht with rfl | rfl <;> exact ⟨by kernel_rfl, of_decide_eq_true (by kernel_rfl)⟩
set_option maxRecDepth 100000 in
theorem contract (H : Type) (enc : TypeId × Value → H) (W : World) (base : Nat) (args : Array Value) (ds gs : List (DataW H)) (before : List MemPlace)
    (hval : ∀ (j : Nat) t v, Tryz.f5.params[j]? = some t → args[j]? = some v → Value.okWide Tryz.prog W .any base t v)
    (hW : DataW.Whole enc Tryz.prog Tryz.f5.params.toList Rows.cgsFewSpec.vars false W args.toList ds gs before) :
    Calls Tryz.prog 5 args W fun e W' => ∃ v, e = .returned v ∧ Rows.cgsFewSpec.post enc Tryz.prog Tryz.f5 false true false false W args v W' := by
  have hW' := hW
  have hlt := hW.lt
  obtain ⟨p, q, hA0, hV, rfl, hfz, hnd⟩ := hW
  have hA1 : DataW.TrodAll enc Tryz.prog W 0 (fun _ => true) true Tryz.f5.params.toList args.toList ds p := hA0
  have hA := hA1
  rw [Tryz.params5] at hA hval
  obtain ⟨v0, vs0, d0, ds0, p0, q0, hargs, rfl, rfl, h0, r0⟩ := trodAll_cons hA
  obtain ⟨v1, vs1, d1, ds1, p1, q1, rfl, rfl, rfl, h1, r1⟩ := trodAll_cons r0
  obtain ⟨rfl, rfl, rfl⟩ := trodAll_nil r1
  obtain rfl : args = #[v0, v1] := by cases args; simp_all
  obtain ⟨rfl, rfl⟩ := trodVars_none hV
  obtain ⟨a0, x0, k0, rfl, hx0, hw0, hl0⟩ := open_us (hval 0 65 v0 (by rfl) (by rfl)) h0
  obtain ⟨a1, q1, k1, rfl, hq1, ho1, hl1⟩ := open_vec (hval 1 25 v1 (by rfl) (by rfl)) h1
  refine (few_any W a0 a1 k0 k1 x0 hx0 hw0 hl0 q1 hq1 ho1 hl1).mono fun e W' ⟨he, hb⟩ => ?_
  subst he
  exact ⟨_, rfl, row_end (pv := []) hb hW' rfl (fun sp hsp => args_stay hb params_ok hA1 (fun x hx => hlt x (List.mem_append.2 (.inl hx))) (fun x hx => hsp x (List.mem_append.2 (.inl hx)))) (fun _ _ => rfl)
    (fun _ _ _ => trodAll_cons_mk (shut_bool Tryz.underlying4 _) trodAll_mk0) (ok_one (by kernel_rfl) rfl (okWide_bool_mk Tryz.underlying4 _))⟩
abbrev input : Array Value := #[.slice none 0 0, .slice none 0 0]
theorem laid_met (os : Os) : laidMet Tryz.prog Rows.cgsFewRow.laid ((laidW os).forCall (fun _ _ => 0) ⟨#[], input, []⟩).memory :=
  laidMet_of_run' 8 (by kernel_rfl) (by kernel_rfl)
theorem reads (os : Os) {H : Type} (enc : TypeId × Value → H) : ∃ places, DataW.whole enc Tryz.prog ((laidW os).forCall (fun _ _ => 0) ⟨#[], input, []⟩).memory Tryz.f5.params.toList Rows.cgsFewSpec.vars false input.toList 8 = some ([.nil, .nil], [], places) :=
  ⟨[], by kernel_rfl⟩
set_option maxRecDepth 100000 in
theorem lifted (os : Os) (started : os.Started) (H : Type) (enc : TypeId × Value → H) (F : Stop.Interp) :
    ReturnsInHanded {} Tryz.checked os 5 .any ((OpenSpec.ofChange Rows.cgsFewSpec).preRow enc Tryz.prog Tryz.f5 Rows.cgsFewRow.domain false Rows.cgsFewRow.laid) (((OpenSpec.ofChange Rows.cgsFewSpec).at F).post enc Tryz.prog Tryz.f5 false true false false) := by
  obtain ⟨places, hx⟩ := reads os enc
  refine returnsInHanded_of_row (C := Tryz.checked) (s := OpenSpec.ofChange Rows.cgsFewSpec) ownK started (by kernel_rfl) Tryz.func5
    (witness_row_at (enc := enc) (C := Tryz.checked) false (laidW os) input rfl (by kernel_rfl) (by kernel_rfl) (by kernel_rfl)
      (OpenSpec.preRow_of_cond 8 hx (by kernel_rfl) (fun k hk => by cases hk) (by kernel_rfl) (laid_met os))) ?_
  intro W base args ds gs before hval hW _ _ _ _ _ _
  exact contract H enc W base args ds gs before hval hW
theorem h_named : Tryz.pinned.checked.prog.funcNamed Rows.cgsFewRow.func = some 5 := by kernel_rfl
theorem h_closed : joinedFacts Tryz.pinned.checked.prog 5 Tryz.f5 (OpenSpec.ofChange Rows.cgsFewSpec).bare Rows.cgsFewRow = true := by kernel_rfl
theorem h_inst : Tryz.f5.isInstance Tryz.pinned.checked.prog Rows.cgsFewRow.origin Rows.cgsFewRow.targs := of_decide_eq_true (by kernel_rfl)
theorem h_wrap : Tryz.f5.isWrapper Tryz.pinned.checked.prog Rows.cgsFewRow.wrapper Rows.cgsFewRow.mainSum := by unfold Func.isWrapper; first | (rw [if_pos (by decide +kernel)]; kernel_rfl) | (rw [if_neg (by decide +kernel)]; exact ⟨rfl, rfl⟩)
theorem said : Rows.CgsFewSaid :=
  OpenClaim.holds_of_cond 5 Tryz.f5 rfl rfl rfl rfl rfl rfl rfl ⟨rfl, rfl, rfl, rfl, rfl⟩ rfl rfl rfl rfl rfl h_named Tryz.func5 h_closed h_inst h_wrap
    (fun os started H enc _ F => by rw [OpenClaim.pre_eq_preRow]; exact lifted os started H enc F)
theorem plain (f : FuncId) (fn : Func) (hf : Tryz.pinned.checked.prog.funcNamed "gusset/gussetlaw19.CgsFew" = some f) (hfn : Tryz.pinned.checked.prog.funcs[f]? = some fn) :
    false = Tryz.pinned.checked.prog.looks [] ∧ ∀ (j : Nat) t, fn.params[j]? = some t → Tryz.pinned.checked.prog.wantsStandIn t = false := by
  obtain rfl : f = 5 := Option.some.inj ((show Tryz.prog.funcNamed "gusset/gussetlaw19.CgsFew" = some 5 by kernel_rfl).symm.trans hf) |>.symm
  obtain rfl : fn = Tryz.f5 := (Option.some.inj (Tryz.func5.symm.trans hfn)).symm
  refine ⟨by kernel_rfl, fun j t ht => ?_⟩
  have hm := Array.mem_of_getElem? ht
  rw [Tryz.params5] at hm
  simp only [List.mem_toArray, List.mem_cons, List.not_mem_nil, or_false] at hm
  rcases hm with rfl | rfl
  · exact (show Tryz.prog.wantsStandIn 65 = false by kernel_rfl)
  · exact (show Tryz.prog.wantsStandIn 25 = false by kernel_rfl)
end Few
/-- the card -/
theorem few_card : Rows.CgsFewCardSaid :=
  Claim7.holds_tied_plain_at .later [] _ _ _ _ Few.said (fun _ h => by cases h) (by kernel_rfl) (fun _ h => by cases h) cgsFew_row_tie rfl ⟨rfl, rfl⟩ (by kernel_rfl) rfl Few.plain (by kernel_rfl)
end Go.Proofs.YtjbclomfocnplaaGreatDoor
end
