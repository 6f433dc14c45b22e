/- Proved: whatever the positive definite matrix, the right-hand side, the start vector and the coefficients, gussetlaw19.CgsEnergy returns true, and the arguments read as before. Conditions: the three listed tables hold what the text of the program lays (the card ties them). -/
import Derived.Test.YtjbclomfocnplaaGreatDoorFlowQ
import Derived.Test.YtjbclomfocnplaaGreatDoorCgcQ
import Derived.Test.YtjbclomfocnplaaGreatDoorCgoQ
section
/- Regions by the flow of their data, where moves are not taken ahead of their turn (long conditions that draw their order). -/
namespace Gus
open Go Go.RowKit
section
variable {P : Program} {ops : Array Oper} {w0 : World}
/-- operation i may be taken as soon as it may come up: extracts alone -/
def isE (ops : Array Oper) (i : Nat) : Bool := (match ops[i]? with | some o => (match o.op with | .extract _ _ => true | _ => false) | none => false) && isF ops i
def sinkE (ops : Array Oper) (n : Nat) : Bool := (List.range n).all fun i => isE ops i || (List.range (n + 1)).any fun j => decide (i < j) && Region.waitsFor .any ops j i && (j == n || !isE ops j)
def flowEB (ops : Array Oper) (n : Nat) : Bool :=
  decide (n < ops.size) && sinkE ops n && Region.chainB .any ops n && backB ops n && nodupD (ops.toList.take n) && Region.seqB .any ops (ops.size - n) n (firstN n ops.size) && Region.noSelect ops
theorem tail_waitsE {n : Nat} {listed : Array Bool} (hs : sinkE ops n = true) (hc : Region.chainB .any ops n = true) (hn : n < ops.size) (inv : HeadInv .any ops n listed) :
    ∀ (d i : Nat), n - i = d → i < n → isE ops i = false → listed.getD i true = false → ∀ t, n ≤ t → t ∉ Region.ready .any ops listed := by
  intro d
  induction d using Nat.strongRecOn with
  | _ d ih =>
    intro i hd hi hF hun t ht hr
    obtain ⟨_, ot, hot, hall⟩ := mem_ready.1 hr
    have htlt : t < ops.size := (Array.getElem?_eq_some_iff.1 hot).1
    by_cases htn : t = n
    · subst htn
      have h1 := List.all_eq_true.1 hs i (List.mem_range.2 hi)
      rw [hF, Bool.false_or] at h1
      obtain ⟨j, hj, hj2⟩ := List.any_eq_true.1 h1
      simp only [Bool.and_eq_true, decide_eq_true_eq, Bool.or_eq_true, beq_iff_eq, Bool.not_eq_true'] at hj2
      obtain ⟨⟨hij, hwf⟩, hjF⟩ := hj2
      obtain ⟨oj, hoj, e, he, hb, hon⟩ := Region.waitsFor_spec hwf
      have hjle : j ≤ t := by have := List.mem_range.1 hj; omega
      by_cases hjt : j = t
      · subst hjt
        have : oj = ot := Option.some.inj (hoj.symm.trans hot)
        subst this
        have h2 := hall e he hb
        rw [hon, getD_both hun] at h2; cases h2
      · have hjF' : isE ops j = false := by
          rcases hjF with h | h
          · exact absurd h hjt
          · exact h
        have hjun : listed.getD j true = false := by
          cases hl : listed.getD j true with
          | false => rfl
          | true =>
            have hjs : j < listed.size := by rw [inv.size]; omega
            have hl' : listed.getD j false = true := by simp [hjs] at hl ⊢; exact hl
            have h2 := inv.closed j oj hoj hl' e he hb
            rw [hon, getD_both hun] at h2; cases h2
        exact ih (t - j) (by omega) j rfl (by omega) hjF' hjun t (Nat.le_refl _) hr
    · have h1 := List.all_eq_true.1 hc t (List.mem_range.2 htlt)
      simp only [Bool.or_eq_true, decide_eq_true_eq] at h1
      rcases h1 with h1 | h1
      · omega
      · obtain ⟨oj, hoj, e, he, hb, hon⟩ := Region.waitsFor_spec h1
        have : oj = ot := Option.some.inj (hoj.symm.trans hot)
        subst this
        have h2 := hall e he hb
        rw [hon, getD_both (inv.tail (t - 1) (by omega) (by omega))] at h2; cases h2
theorem wpAny_of_flowE {n : Nat} {Q : Exit → Act → World → Prop} {A : (Nat → Value) → Act} {a0 : Act} {V : Nat → (Nat → Value) → Value → World → Prop} {Φ : Nat → Bool} (hB : flowEB ops n = true) (hA : ∀ u, A u = putAll u 0 (ops.toList.take n) a0)
    (hQ : ∀ c a d v w, Q (.panic c) (Act.put a d v) w → Q (.panic c) a w)
    (hst : ∀ j, j < n → (∀ u, Stable (V j u)) ∧ (∀ u, Placed (Φ j) (V j u))) (hlo : ∀ j o, j < n → ops[j]? = some o → LocalU o (V j)) (hop : ∀ j o, j < n → ops[j]? = some o → ∀ u w, St w0 w → (∀ e ∈ o.after.toList, Region.binds .any e = true → V e.on u (u e.on) w) → okOp P ops o (A u) w (Fresh (Φ j) (V j u) w) ∧
      (fl o = true → Φ j = false ∧ ∃ v, (∀ w2, (execOp (A u).eval o).run P w2 = .ok (.value v) w2) ∧ ∀ w2, V j u v w2))
    (hT : ∀ u w, St w0 w → (∀ j, j < n → V j u (u j) w) → dist Φ u n → wpList P ops Q (ops.toList.drop n) (A u) w) :
    ∀ (c : Nat) (listed : Array Bool) (u : Nat → Value) (w : World), HeadInv .any ops n listed → cnt listed n = c → St w0 w → (∀ j, j < n → listed.getD j true = true → V j u (u j) w) →
      (∀ i j, i < n → j < n → i ≠ j → listed.getD i true = true → listed.getD j true = true → Φ i = true → Φ j = true → ∀ b, blk (u i) = some b → blk (u j) ≠ some b) → wpAny P .any ops Q (c + (ops.size - n)) listed (A u) w := by
  simp only [flowEB, Bool.and_eq_true, decide_eq_true_eq] at hB
  obtain ⟨⟨⟨⟨⟨⟨hn, hs⟩, hc⟩, hb⟩, hnd⟩, hseq⟩, hsel⟩ := hB
  have hback : ∀ i o e, i < n → ops[i]? = some o → e ∈ o.after.toList → Region.binds .any e = true → e.on < i := fun i o e hi ho he hbd => by
    have h1 := List.all_eq_true.1 hb i (List.mem_range.2 hi)
    rw [ho] at h1
    have h2 := List.all_eq_true.1 h1 e he
    rw [hbd] at h2
    simpa using h2
  intro c
  induction c with
  | zero =>
    intro listed u w inv hcn hw hv hdi
    have hall := cnt_zero n hcn
    have hl : listed = firstN n ops.size := by
      apply Array.ext
      · simp [firstN, inv.size]
      · intro i h1 h2
        simp only [firstN, List.getElem_toArray, List.getElem_map, List.getElem_range]
        by_cases hi : i < n
        · have := hall i hi
          rw [Array.getD_eq_getD_getElem?, Array.getElem?_eq_getElem h1] at this
          simpa [hi] using this
        · have := getD_both (inv.tail i (by omega) (by rw [inv.size] at h1; exact h1))
          rw [Array.getD_eq_getD_getElem?, Array.getElem?_eq_getElem h1] at this
          simpa [hi] using this
    subst hl
    rw [Nat.zero_add]
    have hdl : (ops.toList.drop n).length = ops.size - n := by simp
    have := wpAny_of_seq (P := P) (Q' := Q) (ops.toList.drop n) n (firstN n ops.size) (A u) w (fun j => by simp [List.getElem?_drop]) (by rw [hdl]; exact hseq) (hT u w hw (fun j hj => hv j hj (hall j hj)) (fun i j hi hj hne => hdi i j hi hj hne (hall i hi) (hall j hj)))
    rwa [hdl] at this
  | succ c ih =>
    intro listed u w inv hcn hw hv hdi
    rw [show c + 1 + (ops.size - n) = (c + (ops.size - n)) + 1 by omega]
    obtain ⟨i0, hi0, hun0, hmin⟩ := cnt_pos n (by omega : 0 < cnt listed n)
    have hls : ∀ j, j < n → listed.getD j true = true → listed.getD j false = true := fun j hj h => by
      have hjs : j < listed.size := by rw [inv.size]; omega
      simp [hjs] at h ⊢; exact h
    have hlt : ∀ j, j < n → listed.getD j false = true → listed.getD j true = true := fun j hj h => by
      have hjs : j < listed.size := by rw [inv.size]; omega
      simp [hjs] at h ⊢; exact h
    have hi0s : i0 < ops.size := by omega
    have ho0 : ops[i0]? = some ops[i0] := by simp [hi0s]
    have hr0 : i0 ∈ Region.ready .any ops listed :=
      mem_ready.2 ⟨hun0, ops[i0], ho0, fun e he hbd => by
        have h3 := hback i0 _ e hi0 ho0 (by simpa using he) hbd
        exact hls _ (by omega) (hmin _ h3)⟩
    have key : ∀ i o v w', i < n → ops[i]? = some o → i ∈ Region.ready .any ops listed → Fresh (Φ i) (V i u) w v w' → St w w' → wpAny P .any ops Q (c + (ops.size - n)) (listed.setIfInBounds i true) ((A u).put o.dst v) w' := fun i o v w' hin ho hi hV hs' => by
      obtain ⟨hiun, _, _, _⟩ := mem_ready.1 hi
      have hAu : (A u).put o.dst v = A (upd u i v) := by
        rw [hA, hA]
        have := putAll_upd (u := u) (v := v) (ops.toList.take n) 0 i a0 o hnd (by rw [List.getElem?_take, if_pos hin]; simpa using ho)
        rw [Nat.zero_add] at this
        exact this.symm
      rw [hAu]
      have his : i < listed.size := by rw [inv.size]; omega
      have hagree : ∀ j oj, j < n → ops[j]? = some oj → (j = i ∨ listed.getD j true = true) → ∀ e ∈ oj.after.toList, Region.binds .any e = true → u e.on = upd u i v e.on := fun j oj hj hoj hjl e he hbd => by
        have hlt' := hback j oj e hj hoj he hbd
        have hne : e.on ≠ i := fun h => by
          rcases hjl with rfl | hjl
          · omega
          · have h2 := inv.closed j oj hoj (hls j hj hjl) e (by simpa using he) hbd
            rw [h, getD_both hiun] at h2; cases h2
        unfold upd
        rw [if_neg hne]
      refine ih _ _ _ (inv.set hi hin) ?_ (hw.trans hs') (fun j hj hl => ?_) (fun i1 j1 hi1 hj1 hne hl1 hl2 hf1 hf2 b hb1 => ?_)
      · have := cnt_set hiun his n
        rw [if_pos hin] at this; omega
      · have hjs : j < ops.size := by omega
        have hoj : ops[j]? = some ops[j] := by simp [hjs]
        by_cases hji : j = i
        · subst hji
          refine hlo j _ hj hoj u _ _ _ (hagree j _ hj hoj (.inl rfl)) ?_
          unfold upd
          rw [if_pos rfl]; exact hV.1
        · rw [getD_set_ne true (fun h => hji h.symm)] at hl
          refine hlo j _ hj hoj u _ _ _ (hagree j _ hj hoj (.inr hl)) ?_
          unfold upd
          rw [if_neg hji]
          exact (hst j hj).1 u _ _ _ (hv j hj hl) hs'
      · unfold upd at hb1 ⊢
        by_cases h1 : i1 = i
        · have h2 : ¬ j1 = i := fun h => hne (h1.trans h.symm)
          rw [if_pos h1] at hb1
          rw [if_neg h2]
          intro hb2
          rw [getD_set_ne true (fun h => h2 h.symm)] at hl2
          have h3 := (hst j1 hj1).2 u hf2 _ _ (hv j1 hj1 hl2) b hb2
          have h4 := hV.2 (by rw [← h1]; exact hf1) b hb1
          omega
        · rw [if_neg h1] at hb1
          rw [getD_set_ne true (fun h => h1 h.symm)] at hl1
          by_cases h2 : j1 = i
          · rw [if_pos h2]
            intro hb2
            have h3 := (hst i1 hi1).2 u hf1 _ _ (hv i1 hi1 hl1) b hb1
            have h4 := hV.2 (by rw [← h2]; exact hf2) b hb2
            omega
          · rw [if_neg h2]
            rw [getD_set_ne true (fun h => h2 h.symm)] at hl2
            exact hdi i1 j1 hi1 hj1 hne hl1 hl2 hf1 hf2 b hb1
    have hdep : ∀ i o, i < n → ops[i]? = some o → i ∈ Region.ready .any ops listed → ∀ e ∈ o.after.toList, Region.binds .any e = true → V e.on u (u e.on) w := fun i o hin ho hi e he hbd => by
      obtain ⟨_, o', ho', hall⟩ := mem_ready.1 hi
      have : o' = o := Option.some.inj (ho'.symm.trans ho)
      subst this
      have h3 := hback i _ e hin ho he hbd
      exact hv _ (by omega) (hlt _ (by omega) (hall e (by simpa using he) hbd))
    cases hF : isE ops i0 with
    | true =>
      unfold isE at hF
      rw [Bool.and_eq_true] at hF
      replace hF := hF.2
      unfold isF at hF
      rw [ho0] at hF
      simp only [Bool.and_eq_true] at hF
      obtain ⟨hfl, hap⟩ := hF
      obtain ⟨hΦ0, v, hv1, hv2⟩ := (hop i0 _ hi0 ho0 u w hw (hdep i0 _ hi0 ho0 hr0)).2 hfl
      have hg : (ops[i0]).guard = none := by
        unfold fl at hfl
        rw [Bool.and_eq_true] at hfl
        exact Option.isNone_iff_eq_none.1 hfl.1
      refine wpAny_first (oi := ops[i0]) (v := v) ho0 (Region.noSelect_spec hsel) (fun c a w h => hQ c a _ v w h) _ listed _ w (fun j oj hj hne hun hno => ?_) hr0 (.inl ⟨by unfold Region.wanted; rw [hg], hv1⟩) (key i0 _ v w hi0 ho0 hr0 ⟨hv2 w, fun h => absurd h (by rw [hΦ0]; exact Bool.false_ne_true)⟩ (St.refl w))
      have hjs : j < ops.size := (Array.getElem?_eq_some_iff.1 hj).1
      have h1 := List.all_eq_true.1 hap j (List.mem_range.2 hjs)
      rw [hj] at h1
      simp only [Bool.or_eq_true, beq_iff_eq] at h1
      rcases h1 with ((h1 | h1) | h1) | h1
      · exact absurd h1 hne
      · obtain ⟨oj', hoj', e, he, hbd, hon⟩ := Region.waitsFor_spec h1
        have : oj' = oj := Option.some.inj (hoj'.symm.trans hj)
        subst this
        exact absurd hon (hno e he hbd)
      · obtain ⟨o', ho', e, he, hbd, hon⟩ := Region.waitsFor_spec h1
        obtain ⟨_, o'', ho'', hall⟩ := mem_ready.1 hr0
        have : o' = o'' := Option.some.inj (ho'.symm.trans ho'')
        subst this
        have h2 := hall e he hbd
        rw [hon, getD_both hun] at h2; cases h2
      · exact h1
    | false =>
      refine ⟨(fun h0 => by rw [h0] at hr0; cases hr0), fun i hi => ?_⟩
      have hin : i < n := by
        rcases Nat.lt_or_ge i n with h | h
        · exact h
        · exact absurd hi (tail_waitsE hs hc hn inv _ i0 rfl hi0 hF hun0 i h)
      obtain ⟨_, o, ho, _⟩ := mem_ready.1 hi
      exact wpOp_of_ok ho (hop i o hin ho u w hw (hdep i o hin ho hi)).1 fun v w' hV hs' => key i o v w' hin ho hi hV hs'
/-- A region that draws its order, by the flow of its data. -/
theorem wp_region_flowE {id : Nat} {Q : Exit → Act → World → Prop} {a0 : Act} {l : List Oper} (n : Nat) (hm : P.follows .mixedOrders = true) (hB : flowEB l.toArray n = true) (hQ : ∀ c a d v w, Q (.panic c) (Act.put a d v) w → Q (.panic c) a w)
    (h : flow P l.toArray w0 (fun u => putAll u 0 (l.take n) a0) (fun a w => wpList P l.toArray Q (l.drop n) a w) 0 (l.take n) (fun _ _ _ _ => True) (fun _ => false)) : (Code.region id l.toArray true).wp P Q a0 w0 := by
  obtain ⟨V, Φ, _, _, h2, h3, h4⟩ := flow_spec _ _ _ _ h
  have hB' := hB
  simp only [flowEB, Bool.and_eq_true, decide_eq_true_eq] at hB'
  obtain ⟨⟨⟨⟨⟨⟨hn, hs⟩, hc⟩, hb⟩, hnd⟩, hseq⟩, hsel⟩ := hB'
  have hn' : n < l.length := by simpa using hn
  have htl : (l.take n).length = n := by simp; omega
  rw [htl, Nat.zero_add] at h2 h4
  refine wp_region_any hm ?_
  obtain ⟨u, hu⟩ := putAll_start (l.take n) 0 a0
  have key := wpAny_of_flowE (P := P) (ops := l.toArray) (w0 := w0) (n := n) (Q := Q) (A := fun u => putAll u 0 (l.take n) a0) (a0 := a0) (V := V) (Φ := Φ) hB (fun u => rfl) hQ (fun j hj => h2 j (Nat.zero_le _) hj)
    (fun j o hj ho => by
      have h5 := (h3 j o (by rw [List.getElem?_take, if_pos hj]; simpa using ho)).1
      rwa [Nat.zero_add] at h5)
    (fun j o hj ho u w hw hd => by
      have h5 := (h3 j o (by rw [List.getElem?_take, if_pos hj]; simpa using ho)).2 (fun e he hbd => by
        have h1 := List.all_eq_true.1 hb j (List.mem_range.2 hj)
        rw [ho] at h1
        have h2 := List.all_eq_true.1 h1 e he
        rw [hbd] at h2
        simpa using h2) u w hw hd
      rwa [Nat.zero_add] at h5)
    (fun u w hw ha hdi => h4 u w hw (allH_of n ha) hdi) (cnt (Array.replicate l.toArray.size false) n) (Array.replicate l.toArray.size false) u { w0 with drawn := w0.drawn + 1 }
    ⟨by simp, fun j oj _ hl => (by rw [getD_replicate_false] at hl; cases hl), fun t _ ht => getD_in (by simpa using ht) (getD_replicate_false _ _)⟩ rfl ((Below.refl _ _).drew)
    (fun j hj hl => by
      have hjs : j < (Array.replicate l.toArray.size false).size := by rw [Array.size_replicate]; omega
      rw [getD_in hjs (getD_replicate_false _ _)] at hl; cases hl)
    (fun i j hi hj hne hl1 => by
      have hjs : i < (Array.replicate l.toArray.size false).size := by rw [Array.size_replicate]; omega
      rw [getD_in hjs (getD_replicate_false _ _)] at hl1; cases hl1)
  have hcn : cnt (Array.replicate l.toArray.size false) n = n := by
    have : ∀ k, k ≤ l.toArray.size → cnt (Array.replicate l.toArray.size false) k = k := by
      intro k
      induction k with
      | zero => intro _; rfl
      | succ k ih =>
        intro hk
        unfold cnt
        rw [ih (by omega), getD_in (by rw [Array.size_replicate]; omega) (getD_replicate_false _ _)]; rfl
    exact this n (by omega)
  rw [hcn] at key
  rw [show n + (l.toArray.size - n) = l.toArray.size by omega] at key
  simp only [hu] at key
  exact key
end
end Gus
end
section
/- gussetlaw19.CgsConjugate. -/
namespace Gus
open Go Go.RowKit Go.Proofs
section
variable {n m j : Nat} {A : Nat → Nat → Rat} {b : Vc} {s0 : Cg}
theorem runD_p {i : Nat} (h : i < j) : (runD n A b s0 j i).p = (s0.at n A i).p := by
  unfold runD stepD
  rw [decide_eq_false (by omega)]; rfl
theorem runD_pl : (runD n A b s0 j j).p = fun _ => 0 := by
  unfold runD stepD
  rw [decide_eq_true rfl]; rfl
theorem CS.zero (n m : Nat) (h : 0 < m) : CS n m m fun _ => 0 := ⟨1, fun _ => 0, by decide, by
    have := Nat.pow_le_pow_right (show 0 < 2 by decide) h
    omega, fun i _ => ⟨Nat.pow_pos (by decide), by show (0 : Rat) * ((1 : Nat) : Rat) = ((0 : Int) : Rat); decide +kernel⟩⟩
end
end Gus
end
section
/- Energies of a run, as plain arithmetic; sizes for the law of energies. -/
namespace Gus
open Go Go.RowKit Go.Proofs
section
variable {n m j : Nat} {A : Nat → Nat → Rat} {b : Vc} {s0 : Cg}
theorem fin_pos (hsy : Sym n A) (hP : Pos n A) (h0 : s0.p = s0.r) : ∃ j, Fin n A s0 j := by
  obtain ⟨j, h1, h2, h3⟩ := run_ends hsy hP s0 h0
  exact ⟨j, h1, h2, fun k hk => ⟨h3 k hk, run_pos hsy hP s0 h0 j h3 k hk⟩⟩
/-- the vectors that the coefficients mix -/
def oC (c : Nat → Rat) (P : Nat → Vc) (x : Vc) : Nat → Vc
  | 0 => x
  | l + 1 => axp (c l) (P l) (oC c P x l)
theorem en_down (hsy : Sym n A) (hP : Pos n A) (h0 : s0.p = s0.r) (h0r : ∀ i, i < n → s0.r i = b i - mv n A s0.x i) (hF : Fin n A s0 j) {i : Nat} (hi : i < j) : en n A b (s0.at n A (i + 1)).x < en n A b (s0.at n A i).x := by
  have O := orth_all hsy s0 h0 j hF.2.2
  have h1 := hF.2.2 i hi
  have hp : 0 < dt n (s0.at n A i).p (mv n A (s0.at n A i).p) := by
    have h2 := mv_pos hP (s0.at n A i).p
    have h3 := h1.2
    grind
  exact en_less hsy (s0.at n A i) (at_left s0 h0r i) (O.rs i (by omega)) h1.1 hp
theorem en_mixed (hsy : Sym n A) (hP : Pos n A) (h0 : s0.p = s0.r) (h0r : ∀ i, i < n → s0.r i = b i - mv n A s0.x i) (hF : Fin n A s0 j) (c : Nat → Rat) {i : Nat} (hi : i ≤ j) :
    en n A b (s0.at n A i).x ≤ en n A b (oC c (fun l => (runD n A b s0 j l).p) s0.x i) := by
  have O := orth_all hsy s0 h0 i fun k hk => hF.2.2 k (by omega)
  refine en_least hsy hP (at_left s0 h0r i) ?_
  refine reach O (oC c (fun l => (runD n A b s0 j l).p) s0.x) (fun _ _ => rfl) c (fun l hl k _ => ?_) i (Nat.le_refl _)
  show axp (c l) (runD n A b s0 j l).p _ k = _
  rw [runD_p (by omega)]; rfl
theorem en_last (hsy : Sym n A) (h0r : ∀ i, i < n → s0.r i = b i - mv n A s0.x i) (hF : Fin n A s0 j) (y : Vc) :
    en n A b y = en n A b (s0.at n A j).x + 1 / 2 * dt n (fun i => y i - (s0.at n A j).x i) (mv n A fun i => y i - (s0.at n A j).x i) := by
  rw [en_diff hsy (at_left s0 h0r j) (y := y)]
  have h1 := dt_self hF.2.1
  have h2 : dt n (s0.at n A j).r (fun i => y i - (s0.at n A j).x i) = 0 := by
    unfold dt
    rw [sm_congr n (G := fun _ => 0) fun i hi => by rw [h1 i hi, Rat.zero_mul], sm_zero]
  rw [h2]; grind
end
theorem szN_cap5 {n : Nat} (hn : n ≤ 5) : szN 332 n 470 n ≤ 3000000000 := by
  have : n = 0 ∨ n = 1 ∨ n = 2 ∨ n = 3 ∨ n = 4 ∨ n = 5 := by omega
  rcases this with rfl | rfl | rfl | rfl | rfl | rfl <;> decide
/-- the sizes of a run of at most five rows -/
theorem five_sizes {n : Nat} {A : Nat → Nat → Rat} {qb qx : List (Int × Int)} (hn : n ≤ 5) (hA : CM n 332 332 A) (hb : qb.all nearQ = true) (hbo : QOk qb) (hx : qx.all nearQ = true) (hxo : QOk qx) {k : Nat} (hk : k ≤ n) : CgS n 3000000000 ((startC n A (mEl qb) (mEl qx)).at n A k) :=
  (CgS.at hA (start_size (c := 61) (s := 470) hA ((mEl_cs hb hbo n).mono (by omega) (by omega)) ((mEl_cs hx hxo n).mono (by omega) (by omega)) (by omega)) k).mono (Nat.le_trans (szN_mono hk) (szN_cap5 hn))
theorem runD_cs {n j i : Nat} {A : Nat → Nat → Rat} {b : Vc} {s0 : Cg} (h : CgS n 3000000000 (s0.at n A i)) : CS n 3000000000 3000000000 (runD n A b s0 j i).p := by
  by_cases e : i = j
  · subst e; rw [runD_pl]; exact CS.zero n _ (by decide)
  · unfold runD stepD
    rw [decide_eq_false e]; exact h.p
theorem oC_cs {n : Nat} {c : Nat → Rat} {P : Nat → Vc} {x : Vc} (hc : ∀ l, SS 10 10 (c l)) (hP : ∀ l, l ≤ n → CS n 3000000000 3000000000 (P l)) (hx : CS n 61 61 x) : ∀ l, l ≤ n → CS n (61 + l * 3000000011) (61 + l * 3000000011) (oC c P x l)
  | 0, _ => hx.mono (by omega) (by omega)
  | l + 1, hl => (CS.axp (K := 61 + l * 3000000011 + 3000000010) (hc l) (hP l (by omega)) (oC_cs hc hP hx l (by omega)) (by omega) (by omega)).mono (by omega) (by omega)
theorem OneS.en {n m : Nat} {A : Nat → Nat → Rat} {b x : Vc} (h : OneS n m A b x) : SzK (9 * m + 3) (en n A b x) := by
  have hn := h.hn; have hm := h.hm
  have h1 : SzK (6 * m) (dt n x (mv n A x)) := (h.hx.dt h.mv3).szk (by omega) (by omega)
  have h2 : SzK (3 * m) (dt n b x) := (h.hb.dt h.hx).szk (by omega) (by omega)
  have h3 : SzK 2 (1 / 2 : Rat) := by constructor <;> decide +kernel
  exact ((h3.mul h1).sub h2).mono (by omega)
/-- the sizes of the mixed vectors, of their differences from the solution and of the forms -/
structure MixS (n : Nat) (A : Nat → Nat → Rat) (b o x : Vc) : Prop where
  one : OneS n 30000000000 A b o
  dif : CS n 30000000000 30000000000 (fun i => o i - x i)
theorem mix_of {n j i : Nat} {A : Nat → Nat → Rat} {b x : Vc} {c : Nat → Rat} {P : Nat → Vc} {y : Vc} (hn : n ≤ 5) (hA : CM n 332 332 A) (hb : CS n 61 61 b) (hc : ∀ l, SS 10 10 (c l)) (hP : ∀ l, l ≤ n → CS n 3000000000 3000000000 (P l)) (hx : CS n 61 61 x) (hy : CS n 3000000000 3000000000 y) (hi : i ≤ j) (hj : j ≤ n) : MixS n A b (oC c P x i) y := by
  have ho := (oC_cs hc hP hx i (by omega)).mono (d' := 15100000000) (k' := 15100000000) (by omega) (by omega)
  refine ⟨⟨by omega, by decide, by decide, hA.mono (by decide) (by decide), hb.mono (by decide) (by decide), ho.mono (by decide) (by decide)⟩, ?_⟩
  have h1 : SS 1 1 (-1) := ⟨1, -1, by decide, by decide, by decide, by decide +kernel⟩
  refine CS.congr ((CS.axp (K := 1 + 3000000000 + 15100000000) h1 hy ho (by omega) (by omega)).mono (by omega) (by omega)) fun k _ => ?_
  unfold axp; grind
end Gus
end
section
/- gussetlaw19.CgsEnergy. -/
namespace Gus
open Go Go.RowKit Go.Proofs
theorem qs_three {w : World} {V : Nat} {ba sa ca : Option Addr} {bc sc cc : Nat} {qb qs qc : List (Int × Int)} (h : Bx w V 25 [.slice ba qb.length bc, .slice sa qs.length sc, .slice ca qc.length cc]) (hb : QAt w ba qb) (hs : QAt w sa qs) (hc : QAt w ca qc) : QsAt w (some ⟨V, 0, none⟩) [qb, qs, qc] := fun i hi => by
  have h2 : i = 0 ∨ i = 1 ∨ i = 2 := by simp at hi; omega
  rcases h2 with rfl | rfl | rfl
  · exact ⟨V, 0, ba, bc, rfl, h.lt, h.c0, hb⟩
  · exact ⟨V, 0, sa, sc, rfl, h.lt, h.c1, hs⟩
  · exact ⟨V, 0, ca, cc, rfl, h.lt, h.c2, hc⟩
theorem small_split3 {l : List TQ} {qb qs qc : List (Int × Int)} (h : smallT l [qb, qs, qc] = true) : l.length ≤ 30 ∧ l.all (fun t => nearQ t.2.2) = true ∧ qb.all nearQ = true ∧ qs.all nearQ = true ∧ qb.length ≤ 12 ∧ qs.length ≤ 12 ∧ qc.all nearQ = true ∧ qc.length ≤ 12 := by
  simp only [smallT, smallV, List.all_cons, List.all_nil, Bool.and_true, Bool.and_eq_true, decide_eq_true_eq] at h
  exact ⟨h.1, h.2.1, h.2.2.1.2, h.2.2.2.1.2, h.2.2.1.1, h.2.2.2.1.1, h.2.2.2.2.2, h.2.2.2.2.1⟩
set_option maxRecDepth 100000 in
set_option maxHeartbeats 16000000 in
theorem energy_law (w : World) (N : Nat) (hN : N < 256) (la : Option Addr) (lc : Nat) (l : List TQ) (hl : TAt w la l) (hok : TOk l) (hL : l.length ≤ maxLen) (ba sa ca : Option Addr) (bc sc cc : Nat) (qb qs qc : List (Int × Int)) (hqb : QAt w ba qb) (hqs : QAt w sa qs) (hqc : QAt w ca qc) (hob : QOk qb) (hos : QOk qs) (hoc : QOk qc) (hLb : qb.length ≤ maxLen) (hLs : qs.length ≤ maxLen) (hLc : qc.length ≤ maxLen) :
    Calls Tryz.prog 7 #[.agg #[.int .u8 N, .slice la l.length lc], .slice ba qb.length bc, .slice sa qs.length sc, .slice ca qc.length cc] w fun e w' => e = .returned (.bool true) ∧ Below w.heap.size w w' := by
  ((have cz := cgworks_any); (have hin := In.self w); (obtain ⟨sm, hsm⟩ : ∃ sm, sm = smallT l [qb, qs, qc] := ⟨_, rfl⟩); (obtain ⟨n, hn⟩ : ∃ n, n = N % (5 + 1) := ⟨_, rfl⟩); (have hn5 : n ≤ 5 := by omega); (have HN := Lib.hid hn); (clear hn); (go_enter Tryz.func7, Tryz.ntmps7); (go_upto_region 1 with fail); (skip); (((obtain ⟨S0, hS0⟩ : ∃ z, z = w.heap.size := ⟨_, rfl⟩); (have bS0 := Bx.new_at w #[.int .u8 N, .slice la l.length lc] 24 hS0); (replace hin := hin.alloc (.cells #[.int .u8 N, .slice la l.length lc] 24)); (replace hl := hl.call ((Below.refl _ _).alloc (Nat.le_refl _) (.cells #[.int .u8 N, .slice la l.length lc] 24))); (replace hqb := hqb.call ((Below.refl _ _).alloc (Nat.le_refl _) (.cells #[.int .u8 N, .slice la l.length lc] 24))); (replace hqs := hqs.call ((Below.refl _ _).alloc (Nat.le_refl _) (.cells #[.int .u8 N, .slice la l.length lc] 24))); (replace hqc := hqc.call ((Below.refl _ _).alloc (Nat.le_refl _) (.cells #[.int .u8 N, .slice la l.length lc] 24))); (rw [← hS0]); (clear hS0); (generalize w.alloc (.cells #[.int .u8 N, .slice la l.length lc] 24) = W1 at *))); (((have s0 := bS0.c0); (have s1 := bS0.c1); (have sl := bS0.lt))); (go_wp2_with fail); (((obtain ⟨V, hV⟩ : ∃ z, z = W1.heap.size := ⟨_, rfl⟩); (have bV := Bx.new_at W1 #[.slice ba qb.length bc, .slice sa qs.length sc, .slice ca qc.length cc] 25 hV); (clear s0 s1 sl); (replace hin := hin.alloc (.cells #[.slice ba qb.length bc, .slice sa qs.length sc, .slice ca qc.length cc] 25)); (replace bS0 := bS0.alloc (.cells #[.slice ba qb.length bc, .slice sa qs.length sc, .slice ca qc.length cc] 25)); (replace hl := hl.call ((Below.refl _ _).alloc (Nat.le_refl _) (.cells #[.slice ba qb.length bc, .slice sa qs.length sc, .slice ca qc.length cc] 25))); (replace hqb := hqb.call ((Below.refl _ _).alloc (Nat.le_refl _) (.cells #[.slice ba qb.length bc, .slice sa qs.length sc, .slice ca qc.length cc] 25))); (replace hqs := hqs.call ((Below.refl _ _).alloc (Nat.le_refl _) (.cells #[.slice ba qb.length bc, .slice sa qs.length sc, .slice ca qc.length cc] 25))); (replace hqc := hqc.call ((Below.refl _ _).alloc (Nat.le_refl _) (.cells #[.slice ba qb.length bc, .slice sa qs.length sc, .slice ca qc.length cc] 25))); (rw [← hV]); (clear hV); (generalize W1.alloc (.cells #[.slice ba qb.length bc, .slice sa qs.length sc, .slice ca qc.length cc] 25) = W2 at *))); (have c0 := small_any W2 N la lc l (some ⟨V, 0, none⟩) 3 [qb, qs, qc] hl (qs_three bV hqb hqs hqc) hL (by simp) (fun q hq => by simp only [List.mem_cons, List.not_mem_nil, or_false] at hq; rcases hq with rfl | rfl | rfl; exact hLb; exact hLs; exact hLc)); (rw [← hsm, show [qb, qs, qc].length = 3 from rfl] at c0); (have HSM := Lib.hid hsm); (clear hsm); (((((with_reducible refine (c0).mono ?_))); (rintro e wc3 ⟨rfl, hb⟩); (clear c0 bV); (replace hin := hin.call hb); (replace hl := hl.call hb); (replace hqb := hqb.call hb); (replace hqs := hqs.call hb); (replace hqc := hqc.call hb); (replace bS0 := bS0.call hb); (clear hb))))
  skip
  rcases sm with _ | _
  · ((go_wp2_with fail); (((with_reducible refine (cz _).mono ?_))); (rintro e wc4 ⟨rfl, hb⟩); (skip); (replace hin := hin.call hb); (replace hl := hl.call hb); (replace hqb := hqb.call hb); (replace hqs := hqs.call hb); (replace hqc := hqc.call hb); (replace bS0 := bS0.call hb); (clear hb))
    go_wp2_with fail
    go_ret
    exact ⟨rfl, hin.bel⟩
  · skip
    ((obtain ⟨h30, hln, hbn, hsn, h12, h12', hcn, h12c⟩ := small_split3 HSM.out.symm); (have hCM : CM n 332 332 (plusA n l) := plusA_cm hln hok h30); (have hsy := plusA_sym n l); (have hRS := sys_runS (n := n) (by omega) hCM hbn hob hsn hos); (have c1 := splus_any (j := 10) wc3 N n 5 la lc l hl hok (by omega) hN (by decide) HN.out (fun t ht => (qOf_ss (List.all_eq_true.1 hln t ht) (hok t ht).2.2.2.2.1).szk (Nat.le_refl _) (Nat.le_refl _)) (by decide) (by decide)); (rw [show ((5 : Nat) : Int) = 5 from rfl] at c1); (((have s0 := bS0.c0); (have s1 := bS0.c1); (have sl := bS0.lt))); (go_wp2_with fail); (((with_reducible refine c1.mono ?_))); (rintro e wa ⟨⟨sv, rfl, hS⟩, hb⟩); (clear s0 s1 sl c1 bS0 hl); (replace hin := hin.call hb); (replace hqb := hqb.call hb); (replace hqs := hqs.call hb); (replace hqc := hqc.call hb); (clear hb); (replace hS : SpM wa sv n n (plusA n l) := hS.m); (obtain ⟨ra, rk, rfl⟩ := hS.shape); (go_upto_region 4 with fail); (((obtain ⟨Sb, hSb⟩ : ∃ z, z = wa.heap.size := ⟨_, rfl⟩); (have bSb := Bx.new_at wa #[.int .i64 n, .int .i64 n, .slice ra n rk] 30 hSb); (replace hin := hin.alloc (.cells #[.int .i64 n, .int .i64 n, .slice ra n rk] 30)); (replace hqb := hqb.call ((Below.refl _ _).alloc (Nat.le_refl _) (.cells #[.int .i64 n, .int .i64 n, .slice ra n rk] 30))); (replace hqs := hqs.call ((Below.refl _ _).alloc (Nat.le_refl _) (.cells #[.int .i64 n, .int .i64 n, .slice ra n rk] 30))); (replace hqc := hqc.call ((Below.refl _ _).alloc (Nat.le_refl _) (.cells #[.int .i64 n, .int .i64 n, .slice ra n rk] 30))); (replace hS := hS.call ((Below.refl _ _).alloc (Nat.le_refl _) (.cells #[.int .i64 n, .int .i64 n, .slice ra n rk] 30))); (rw [← hSb]); (clear hSb); (generalize wa.alloc (.cells #[.int .i64 n, .int .i64 n, .slice ra n rk] 30) = wS at *))); (have cv1 := fun W (h : In wS.heap.size wS W) => lvec_any W ba bc n qb (hqb.call h.bel) hob (by omega) (by omega)); (have cv2 := fun W (h : In wS.heap.size wS W) => lvec_any W sa sc n qs (hqs.call h.bel) hos (by omega) (by omega)); (((have s0 := bSb.c0); (have s1 := bSb.c1); (have s2 := bSb.c2); (have sl := bSb.lt))))
    have h5 := fun k (hk : k ≤ n) => five_sizes (A := plusA n l) hn5 hCM hbn hob hsn hos hk
    have h := In.self wS; have hc := h.cell; have hf := h.frozen; refine wp_region_flow 8 (by kernel_rfl) (by kernel_rfl) (fun _ _ d _ _ h => by cases d <;> exact h) ?_; simp only [List.take_succ_cons, List.take_zero, List.drop_succ_cons, List.drop_zero]; simp only [putAll, Act.put, List.setIfInBounds_toArray, List.set]; (try simp only [Nat.reduceAdd]); (try simp only [Nat.zero_add]); (repeat (first | ((with_reducible refine flow_float (v := ?_) ?_ ?_ ?_); rotate_left 1; (focus (with_reducible rfl)); (focus (intro u w1 hw hd w2; (try simp only [depH] at hd); (try simp only [ext] at hd); (try simp only [extU] at hd); (try simp only [Nat.reduceAdd] at hd); (try simp only [Nat.reduceEqDiff] at hd); (try simp only [reduceIte] at hd); (try simp only [if_true] at hd); (try simp only [if_false] at hd); (try simp only [and_true] at hd); (try simp only [true_and] at hd); go_simp; exact rfl))) | ((with_reducible refine flow_pure0 (v := ?_) ?_ ?_ ?_ ?_); rotate_left 1; (focus (with_reducible rfl)); (focus rfl); (focus (intro u w1 hw hd; (try simp only [depH] at hd); (try simp only [ext] at hd); (try simp only [extU] at hd); (try simp only [Nat.reduceAdd] at hd); (try simp only [Nat.reduceEqDiff] at hd); (try simp only [reduceIte] at hd); (try simp only [if_true] at hd); (try simp only [if_false] at hd); (try simp only [and_true] at hd); (try simp only [true_and] at hd); have hc' := hw.cell; go_simp; exact rfl))) | ((with_reducible refine flow_skipg (j := ?_) (b := ?_) ?_ ?_ ?_); rotate_left 2; (focus (with_reducible rfl)); (focus (intro u w1 hw hd; (try simp only [depH] at hd); (try simp only [ext] at hd); (try simp only [extU] at hd); (try simp only [Nat.reduceAdd] at hd); (try simp only [Nat.reduceEqDiff] at hd); (try simp only [reduceIte] at hd); (try simp only [if_true] at hd); (try simp only [if_false] at hd); (try simp only [and_true] at hd); (try simp only [true_and] at hd); simp [yielded, hd]; done))) | ((with_reducible refine flow_pureg (v := ?_) (j := ?_) (b := ?_) ?_ ?_ ?_ ?_); rotate_left 3; (focus (with_reducible rfl)); (focus (intro u w1 hw hd; (try simp only [depH] at hd); (try simp only [ext] at hd); (try simp only [extU] at hd); (try simp only [Nat.reduceAdd] at hd); (try simp only [Nat.reduceEqDiff] at hd); (try simp only [reduceIte] at hd); (try simp only [if_true] at hd); (try simp only [if_false] at hd); (try simp only [and_true] at hd); (try simp only [true_and] at hd); simp [yielded, hd]; done)); (focus (intro u w1 hw hd; (try simp only [depH] at hd); (try simp only [ext] at hd); (try simp only [extU] at hd); (try simp only [Nat.reduceAdd] at hd); (try simp only [Nat.reduceEqDiff] at hd); (try simp only [reduceIte] at hd); (try simp only [if_true] at hd); (try simp only [if_false] at hd); (try simp only [and_true] at hd); (try simp only [true_and] at hd); have hc' := hw.cell; go_simp; exact rfl))) | ((with_reducible refine flow_alloc (t := ?_) (zs := ?_) ?_ ?_ ?_ ?_); rotate_left 2; (focus (with_reducible rfl)); (focus rfl); (focus (intro u w1; go_simp; exact rfl)))))
    (with_reducible refine flow_rel (Vi := VcQ (vl n (mEl qb))) false ?_ ?_ ?_ ?_ ?_ ?_); (focus rfl); (focus rfl); (focus exact stable_vcq _); (focus exact placed_false _); (focus (intro u w1 hw hd; (try simp only [depH] at hd); (try simp only [ext] at hd); (try simp only [extU] at hd); (try simp only [Nat.reduceAdd] at hd); (try simp only [Nat.reduceEqDiff] at hd); (try simp only [reduceIte] at hd); (try simp only [if_true] at hd); (try simp only [if_false] at hd); (try simp only [and_true] at hd); (try simp only [true_and] at hd); have hc' := hw.cell; go_simp; (try simp only [okUpon]); go_at_call 15; ((with_reducible refine (cv1 _ hw.ins).mono ?_)); rintro e w'' ⟨⟨v, rfl, hv⟩, hb⟩; exact ⟨v, rfl, ⟨hv, fun h => by cases h⟩, hb⟩))
    (repeat (first | ((with_reducible refine flow_float (v := ?_) ?_ ?_ ?_); rotate_left 1; (focus (with_reducible rfl)); (focus (intro u w1 hw hd w2; (try simp only [depH] at hd); (try simp only [ext] at hd); (try simp only [extU] at hd); (try simp only [Nat.reduceAdd] at hd); (try simp only [Nat.reduceEqDiff] at hd); (try simp only [reduceIte] at hd); (try simp only [if_true] at hd); (try simp only [if_false] at hd); (try simp only [and_true] at hd); (try simp only [true_and] at hd); go_simp; exact rfl))) | ((with_reducible refine flow_pure0 (v := ?_) ?_ ?_ ?_ ?_); rotate_left 1; (focus (with_reducible rfl)); (focus rfl); (focus (intro u w1 hw hd; (try simp only [depH] at hd); (try simp only [ext] at hd); (try simp only [extU] at hd); (try simp only [Nat.reduceAdd] at hd); (try simp only [Nat.reduceEqDiff] at hd); (try simp only [reduceIte] at hd); (try simp only [if_true] at hd); (try simp only [if_false] at hd); (try simp only [and_true] at hd); (try simp only [true_and] at hd); have hc' := hw.cell; go_simp; exact rfl))) | ((with_reducible refine flow_skipg (j := ?_) (b := ?_) ?_ ?_ ?_); rotate_left 2; (focus (with_reducible rfl)); (focus (intro u w1 hw hd; (try simp only [depH] at hd); (try simp only [ext] at hd); (try simp only [extU] at hd); (try simp only [Nat.reduceAdd] at hd); (try simp only [Nat.reduceEqDiff] at hd); (try simp only [reduceIte] at hd); (try simp only [if_true] at hd); (try simp only [if_false] at hd); (try simp only [and_true] at hd); (try simp only [true_and] at hd); simp [yielded, hd]; done))) | ((with_reducible refine flow_pureg (v := ?_) (j := ?_) (b := ?_) ?_ ?_ ?_ ?_); rotate_left 3; (focus (with_reducible rfl)); (focus (intro u w1 hw hd; (try simp only [depH] at hd); (try simp only [ext] at hd); (try simp only [extU] at hd); (try simp only [Nat.reduceAdd] at hd); (try simp only [Nat.reduceEqDiff] at hd); (try simp only [reduceIte] at hd); (try simp only [if_true] at hd); (try simp only [if_false] at hd); (try simp only [and_true] at hd); (try simp only [true_and] at hd); simp [yielded, hd]; done)); (focus (intro u w1 hw hd; (try simp only [depH] at hd); (try simp only [ext] at hd); (try simp only [extU] at hd); (try simp only [Nat.reduceAdd] at hd); (try simp only [Nat.reduceEqDiff] at hd); (try simp only [reduceIte] at hd); (try simp only [if_true] at hd); (try simp only [if_false] at hd); (try simp only [and_true] at hd); (try simp only [true_and] at hd); have hc' := hw.cell; go_simp; exact rfl))) | ((with_reducible refine flow_alloc (t := ?_) (zs := ?_) ?_ ?_ ?_ ?_); rotate_left 2; (focus (with_reducible rfl)); (focus rfl); (focus (intro u w1; go_simp; exact rfl)))))
    (with_reducible refine flow_rel (Vi := VcQ (vl n (mEl qs))) false ?_ ?_ ?_ ?_ ?_ ?_); (focus rfl); (focus rfl); (focus exact stable_vcq _); (focus exact placed_false _); (focus (intro u w1 hw hd; (try simp only [depH] at hd); (try simp only [ext] at hd); (try simp only [extU] at hd); (try simp only [Nat.reduceAdd] at hd); (try simp only [Nat.reduceEqDiff] at hd); (try simp only [reduceIte] at hd); (try simp only [if_true] at hd); (try simp only [if_false] at hd); (try simp only [and_true] at hd); (try simp only [true_and] at hd); have hc' := hw.cell; go_simp; (try simp only [okUpon]); go_at_call 15; ((with_reducible refine (cv2 _ hw.ins).mono ?_)); rintro e w'' ⟨⟨v, rfl, hv⟩, hb⟩; exact ⟨v, rfl, ⟨hv, fun h => by cases h⟩, hb⟩))
    (((try clear hc hf h); intro u w' h ha hdi; replace h := h.ins; (try simp only [World.size_alloc] at h); (try dsimp only at ha); (repeat rw [World.size_alloc] at ha); (try simp only [allH] at ha); (try simp only [ext] at ha); (try simp only [extU] at ha); (try simp only [Nat.reduceAdd] at ha); (try simp only [Nat.reduceEqDiff] at ha); (try simp only [reduceIte] at ha); (try simp only [if_true] at ha); (try simp only [if_false] at ha); (try simp only [and_true] at ha); (try simp only [true_and] at ha); have hc := h.cell; have hf := h.frozen; have hb := h.bel; clear hdi hc hf; clear s0 s1 s2 sl hqb hqs cv1 cv2; replace hin := hin.call hb; replace hqc := hqc.call hb; replace hS := hS.call hb; replace bSb := bSb.call hb; clear hb h; rename World => wv); (obtain ⟨⟨⟨⟨⟨⟨⟨h0, h1⟩, h2⟩, hvb⟩, h4⟩, h5⟩, h6⟩, hvx⟩ := ha); (replace hvb := hvb.v); (replace hvx := hvx.v); (obtain ⟨va, vk, hvbe⟩ := hvb.shape); (obtain ⟨xa, xk, hvxe⟩ := hvx.shape); (rw [vl_length] at hvbe hvxe); (rw [hvbe] at hvb); (rw [hvxe] at hvx); ((try dsimp only)); (simp only [hvbe, hvxe]); (clear h0 h1 h2 h4 h5 h6 hvbe hvxe); (obtain ⟨s0, hs0⟩ : ∃ s, s = startC n (plusA n l) (mEl qb) (mEl qs) := ⟨_, rfl⟩); (have hs0x : s0.x = mEl qs := by rw [hs0]; rfl); (have hs0r : ∀ i, i < n → s0.r i = mEl qb i - mv n (plusA n l) s0.x i := fun i _ => by rw [hs0]; rfl); (have hs0p : s0.p = s0.r := by rw [hs0]; rfl); (rw [← hs0] at hRS); ((try simp only [← hs0] at h5)); (clear hs0); (have c3 := from_vl wv _ _ _ hS hsy hvb (by rw [hs0x]; exact hvx) hs0r hs0p hRS); (((have y0 := bSb.c0); (have y1 := bSb.c1); (have y2 := bSb.c2); (have yl := bSb.lt))); (((go_wp2_with fail); (((with_reducible refine (c3).mono ?_))); (rintro e wr ⟨⟨v, rfl, hP⟩, hb⟩); (clear y0 y1 y2 yl c3); (replace hin := hin.call hb); (replace hqc := hqc.call hb); (replace hS := hS.call hb); (replace hvb := hvb.call hb); (replace hvx := hvx.call hb); (replace bSb := bSb.call hb); (clear hb))))
    have hPo := plusA_pos n l
    obtain ⟨j, d, hF, rfl, hst⟩ : ∃ j d, Fin n (plusA n l) s0 j ∧ v = .tuple #[d, .int .i64 0] ∧ StepsAt wr d n (j + 1) (runD n (plusA n l) (mEl qb) s0 j) := by
      rcases hP with h | ⟨h, _⟩
      · exact h
      · exact absurd (fin_pos hsy hPo hs0p) h
    clear hP
    obtain ⟨b, off, cap, he, hall⟩ := hst.open
    subst he
    clear hst
    have hjn := hF.1
    obtain ⟨xaj, raj, paj, xkj, rkj, pkj, Kj⟩ := hall j (by omega)
    obtain ⟨E1, E2, E3, E4, E5, hE, hE'⟩ : ∃ A1 A2 A3 A4 A5, fracV (en n (plusA n l) (mEl qb) (s0.at n (plusA n l) j).x) = .agg #[.int .u64 A1, .string A2, .bool A3, .int .u64 A4, .string A5] ∧ fcs (en n (plusA n l) (mEl qb) (s0.at n (plusA n l) j).x) = [.int .u64 A1, .string A2, .bool A3, .int .u64 A4, .string A5] := ⟨_, _, _, _, _, rfl, rfl⟩
    have HE := Lib.hid hE
    have kj0 := Kj.c0
    have kjl := Kj.lt
    have ej0 : wr.cell? ⟨b, off + j * 13 + 8, none⟩ = some (.int .u64 E1) := (Kj.ce 0 (by decide)).trans (congrArg (fun l : List Value => l[0]?) hE')
    have ej1 : wr.cell? ⟨b, off + j * 13 + 9, none⟩ = some (.string E2) := (Kj.ce 1 (by decide)).trans (congrArg (fun l : List Value => l[1]?) hE')
    have ej2 : wr.cell? ⟨b, off + j * 13 + 10, none⟩ = some (.bool E3) := (Kj.ce 2 (by decide)).trans (congrArg (fun l : List Value => l[2]?) hE')
    have ej3 : wr.cell? ⟨b, off + j * 13 + 11, none⟩ = some (.int .u64 E4) := (Kj.ce 3 (by decide)).trans (congrArg (fun l : List Value => l[3]?) hE')
    have ej4 : wr.cell? ⟨b, off + j * 13 + 12, none⟩ = some (.string E5) := (Kj.ce 4 (by decide)).trans (congrArg (fun l : List Value => l[4]?) hE')
    have hw1 : IntKind.i64.wrap (((j + 1 : Nat) : Int) - 1) = (j : Int) := by
      rw [show (((j + 1 : Nat) : Int) - 1) = (j : Int) by omega]; exact IntWalk.i64_in _ (by omega)
    have hw1' : IntKind.i64.wrap ((j : Int) + 1 - 1) = (j : Int) := by
      rw [show ((j : Int) + 1 - 1) = (j : Int) by omega]; exact IntWalk.i64_in _ (by omega)
    have hw2 : (j : Int) < (j : Int) + 1 := by omega
    have hw3 : (0 : Int) ≤ j := by omega
    have hw4 : ((j : Int)).toNat = j := rfl
    have hw5 : ¬ ((j : Int) + 1 < 1) := by omega
    skip
    skip
    clear hE hE'
    go_upto_region 10 with fail
    have HXJ := Kj.x
    have HRB := In.self wr
    skip
    skip
    have HNN : Hid (n * n ≤ 5 * 5) := Lib.hid (Nat.mul_le_mul hn5 hn5)
    ((obtain ⟨Lb, hLb⟩ : ∃ z, z = wr.heap.size := ⟨_, rfl⟩); (have bLb := Bx.new_at wr #[.int .u64 E1, .string E2, .bool E3, .int .u64 E4, .string E5] 52 hLb); (clear kj0 kjl ej0 ej1 ej2 ej3 ej4); (replace hin := hin.alloc (.cells #[.int .u64 E1, .string E2, .bool E3, .int .u64 E4, .string E5] 52)); (replace HRB := HRB.alloc (.cells #[.int .u64 E1, .string E2, .bool E3, .int .u64 E4, .string E5] 52)); (replace bSb := bSb.alloc (.cells #[.int .u64 E1, .string E2, .bool E3, .int .u64 E4, .string E5] 52)); (replace hqc := hqc.call ((Below.refl _ _).alloc (Nat.le_refl _) (.cells #[.int .u64 E1, .string E2, .bool E3, .int .u64 E4, .string E5] 52))); (replace hS := hS.call ((Below.refl _ _).alloc (Nat.le_refl _) (.cells #[.int .u64 E1, .string E2, .bool E3, .int .u64 E4, .string E5] 52))); (replace hvb := hvb.call ((Below.refl _ _).alloc (Nat.le_refl _) (.cells #[.int .u64 E1, .string E2, .bool E3, .int .u64 E4, .string E5] 52))); (replace hvx := hvx.call ((Below.refl _ _).alloc (Nat.le_refl _) (.cells #[.int .u64 E1, .string E2, .bool E3, .int .u64 E4, .string E5] 52))); (replace Kj := Kj.call ((Below.refl _ _).alloc (Nat.le_refl _) (.cells #[.int .u64 E1, .string E2, .bool E3, .int .u64 E4, .string E5] 52))); (replace HXJ := HXJ.call ((Below.refl _ _).alloc (Nat.le_refl _) (.cells #[.int .u64 E1, .string E2, .bool E3, .int .u64 E4, .string E5] 52))); (rw [← hLb]); (clear hLb); (generalize wr.alloc (.cells #[.int .u64 E1, .string E2, .bool E3, .int .u64 E4, .string E5] 52) = W7 at *))
    have c2 := fracOf_any 1 2 (by decide) (by decide) (by decide) (by decide) (by decide)
    obtain ⟨hv, hhv⟩ : ∃ q : Rat, q = ((1 : Int) : Rat) / ((2 : Int) : Rat) := ⟨_, rfl⟩
    rw [← hhv] at c2
    have HV : Hid (hv = 1 / 2) := Lib.hid (by rw [hhv]; decide +kernel)
    obtain ⟨H1, H2, H3, H4, H5, hH, hH'⟩ : ∃ A1 A2 A3 A4 A5, fracV hv = .agg #[.int .u64 A1, .string A2, .bool A3, .int .u64 A4, .string A5] ∧ fcs hv = [.int .u64 A1, .string A2, .bool A3, .int .u64 A4, .string A5] := ⟨_, _, _, _, _, rfl, rfl⟩
    rw [hH] at c2
    have HH := Lib.hid hH
    clear hhv hH hH'
    ((go_wp2_with fail); (((with_reducible refine (c2 _).mono ?_))); (rintro e wc8 ⟨rfl, hb⟩); (clear c2 Kj); (replace hin := hin.call hb); (replace HRB := HRB.call hb); (replace hqc := hqc.call hb); (replace hS := hS.call hb); (replace hvb := hvb.call hb); (replace hvx := hvx.call hb); (replace HXJ := HXJ.call hb); (replace bSb := bSb.call hb); (replace bLb := bLb.call hb); (clear hb))
    go_wp2_with fail
    skip
    ((obtain ⟨Hb, hHb⟩ : ∃ z, z = wc8.heap.size := ⟨_, rfl⟩); (have bHb := Bx.new_at wc8 #[.int .u64 H1, .string H2, .bool H3, .int .u64 H4, .string H5] 52 hHb); (replace hin := hin.alloc (.cells #[.int .u64 H1, .string H2, .bool H3, .int .u64 H4, .string H5] 52)); (replace HRB := HRB.alloc (.cells #[.int .u64 H1, .string H2, .bool H3, .int .u64 H4, .string H5] 52)); (replace bSb := bSb.alloc (.cells #[.int .u64 H1, .string H2, .bool H3, .int .u64 H4, .string H5] 52)); (replace bLb := bLb.alloc (.cells #[.int .u64 H1, .string H2, .bool H3, .int .u64 H4, .string H5] 52)); (replace hqc := hqc.call ((Below.refl _ _).alloc (Nat.le_refl _) (.cells #[.int .u64 H1, .string H2, .bool H3, .int .u64 H4, .string H5] 52))); (replace hS := hS.call ((Below.refl _ _).alloc (Nat.le_refl _) (.cells #[.int .u64 H1, .string H2, .bool H3, .int .u64 H4, .string H5] 52))); (replace hvb := hvb.call ((Below.refl _ _).alloc (Nat.le_refl _) (.cells #[.int .u64 H1, .string H2, .bool H3, .int .u64 H4, .string H5] 52))); (replace hvx := hvx.call ((Below.refl _ _).alloc (Nat.le_refl _) (.cells #[.int .u64 H1, .string H2, .bool H3, .int .u64 H4, .string H5] 52))); (replace HXJ := HXJ.call ((Below.refl _ _).alloc (Nat.le_refl _) (.cells #[.int .u64 H1, .string H2, .bool H3, .int .u64 H4, .string H5] 52))); (rw [← hHb]); (clear hHb); (generalize wc8.alloc (.cells #[.int .u64 H1, .string H2, .bool H3, .int .u64 H4, .string H5] 52) = wb at *))
    have hallb : ∀ i, i < j + 1 → ∃ xa ra pa xk rk pk, StepK wb b off n i xa ra pa xk rk pk (runD n (plusA n l) (mEl qb) s0 j i) := fun i hi => by
      obtain ⟨xa, ra, pa, xk, rk, pk, K⟩ := hall i hi
      exact ⟨xa, ra, pa, xk, rk, pk, K.call HRB.bel⟩
    go_loopw [18, 19] (fun v18 v19 wq => ∃ (i : Nat) (ov : Value), i ≤ j + 1 ∧ v18 = ov ∧ v19 = .int .i64 i ∧ In wb.heap.size wb wq ∧ VecAt wq ov (vl n (oC (mEl qc) (fun k => (runD n (plusA n l) (mEl qb) s0 j k).p) s0.x i))) (fun _ v19 _ => j + 1 - (RowKit.intOf v19).toNat)
    case atStart => exact ⟨0, _, Nat.zero_le _, rfl, rfl, In.self _, by show VecAt _ _ (vl n s0.x); rw [hs0x]; exact hvx⟩
    case round =>
      rename World => wq
      obtain ⟨i, ov, hi, hov, rfl, hq, ho⟩ := hrel
      obtain ⟨oa, ok, hoe⟩ := ho.shape
      rw [vl_length] at hoe
      subst hoe
      subst hov
      by_cases hij : i < j + 1
      · have hiI : (i : Int) < (j : Int) + 1 := by omega
        have hi0 : (0 : Int) ≤ i := by omega
        obtain ⟨xai, rai, pai, xki, rki, pki, K⟩ := hallb i hij
        replace K := K.call hq.bel
        have hSq := hS.call hq.bel
        have hvq := hvb.call hq.bel
        have hxj : VecAt wq (.slice xaj n xkj) (vl n (s0.at n (plusA n l) j).x) := HXJ.call hq.bel
        have hcq := hqc.call hq.bel
        have bq := bSb.call hq.bel
        have bL := bLb.call hq.bel
        have bH := bHb.call hq.bel
        have hmix := mix_of (i := i) (j := j) (b := mEl qb) (c := mEl qc) (P := fun k => (runD n (plusA n l) (mEl qb) s0 j k).p) (x := s0.x) (y := (s0.at n (plusA n l) j).x) hn5 hCM ((mEl_cs hbn hob n).mono (by omega) (by omega)) (mEl_ss hcn hoc) (fun k hk => runD_cs (h5 k hk)) (by rw [hs0x]; exact (mEl_cs hsn hos n).mono (by omega) (by omega)) (h5 j hjn).x (by omega) hjn
        obtain ⟨o, ho'⟩ : ∃ o, o = oC (mEl qc) (fun k => (runD n (plusA n l) (mEl qb) s0 j k).p) s0.x i := ⟨_, rfl⟩
        rw [← ho'] at ho hmix
        have HO := Lib.hid ho'
        clear ho'
        have hei := (hRS.one (k := i) (by omega)).en
        obtain ⟨F1, F2, F3, F4, F5, hF, hF'⟩ : ∃ A1 A2 A3 A4 A5, fracV (en n (plusA n l) (mEl qb) (s0.at n (plusA n l) i).x) = .agg #[.int .u64 A1, .string A2, .bool A3, .int .u64 A4, .string A5] ∧ fcs (en n (plusA n l) (mEl qb) (s0.at n (plusA n l) i).x) = [.int .u64 A1, .string A2, .bool A3, .int .u64 A4, .string A5] := ⟨_, _, _, _, _, rfl, rfl⟩
        have HF := Lib.hid hF
        obtain ⟨M1, M2, M3, M4, M5, hM, hM'⟩ : ∃ A1 A2 A3 A4 A5, fracV (en n (plusA n l) (mEl qb) o) = .agg #[.int .u64 A1, .string A2, .bool A3, .int .u64 A4, .string A5] ∧ fcs (en n (plusA n l) (mEl qb) o) = [.int .u64 A1, .string A2, .bool A3, .int .u64 A4, .string A5] := ⟨_, _, _, _, _, rfl, rfl⟩
        have HM := Lib.hid hM
        clear hF hM hM'
        skip
        have hself := In.self wq
        skip
        go_upto_region 15 with fail
        go_cut [99] from 83 to 99 (fun v99 wx => v99 = .bool false ∧ In wq.heap.size wq wx)
        case first =>
          skip
          rcases Nat.eq_zero_or_pos i with hiz | hip
          · have hgz : ¬ (0 : Int) < i := by omega
            clear hiz
            have h := In.self wq; have hc := h.cell; have hf := h.frozen; refine wp_region_flowE 16 (by kernel_rfl) (by kernel_rfl) (fun _ _ d _ _ h => by cases d <;> exact h) ?_; simp only [List.take_succ_cons, List.take_zero, List.drop_succ_cons, List.drop_zero]; simp only [putAll, Act.put, List.setIfInBounds_toArray, List.set]; (try simp only [Nat.reduceAdd]); (try simp only [Nat.zero_add])
            ((first | ((with_reducible refine flow_float (v := ?_) ?_ ?_ ?_); rotate_left 1; (focus (with_reducible rfl)); (focus (intro u w1 hw hd w2; (try simp only [depH] at hd); (try simp only [ext] at hd); (try simp only [extU] at hd); (try simp only [Nat.reduceAdd] at hd); (try simp only [Nat.reduceEqDiff] at hd); (try simp only [reduceIte] at hd); (try simp only [if_true] at hd); (try simp only [if_false] at hd); (try simp only [and_true] at hd); (try simp only [true_and] at hd); go_simp; exact rfl))) | ((with_reducible refine flow_pure0 (v := ?_) ?_ ?_ ?_ ?_); rotate_left 1; (focus (with_reducible rfl)); (focus rfl); (focus (intro u w1 hw hd; (try simp only [depH] at hd); (try simp only [ext] at hd); (try simp only [extU] at hd); (try simp only [Nat.reduceAdd] at hd); (try simp only [Nat.reduceEqDiff] at hd); (try simp only [reduceIte] at hd); (try simp only [if_true] at hd); (try simp only [if_false] at hd); (try simp only [and_true] at hd); (try simp only [true_and] at hd); have hc' := hw.cell; go_simp; exact rfl))) | ((with_reducible refine flow_skipg (j := ?_) (b := ?_) ?_ ?_ ?_); rotate_left 2; (focus (with_reducible rfl)); (focus (intro u w1 hw hd; (try simp only [depH] at hd); (try simp only [ext] at hd); (try simp only [extU] at hd); (try simp only [Nat.reduceAdd] at hd); (try simp only [Nat.reduceEqDiff] at hd); (try simp only [reduceIte] at hd); (try simp only [if_true] at hd); (try simp only [if_false] at hd); (try simp only [and_true] at hd); (try simp only [true_and] at hd); simp [yielded, hd]; done))) | ((with_reducible refine flow_pureg (v := ?_) (j := ?_) (b := ?_) ?_ ?_ ?_ ?_); rotate_left 3; (focus (with_reducible rfl)); (focus (intro u w1 hw hd; (try simp only [depH] at hd); (try simp only [ext] at hd); (try simp only [extU] at hd); (try simp only [Nat.reduceAdd] at hd); (try simp only [Nat.reduceEqDiff] at hd); (try simp only [reduceIte] at hd); (try simp only [if_true] at hd); (try simp only [if_false] at hd); (try simp only [and_true] at hd); (try simp only [true_and] at hd); simp [yielded, hd]; done)); (focus (intro u w1 hw hd; (try simp only [depH] at hd); (try simp only [ext] at hd); (try simp only [extU] at hd); (try simp only [Nat.reduceAdd] at hd); (try simp only [Nat.reduceEqDiff] at hd); (try simp only [reduceIte] at hd); (try simp only [if_true] at hd); (try simp only [if_false] at hd); (try simp only [and_true] at hd); (try simp only [true_and] at hd); have hc' := hw.cell; go_simp; exact rfl))) | ((with_reducible refine flow_alloc (t := ?_) (zs := ?_) ?_ ?_ ?_ ?_); rotate_left 2; (focus (with_reducible rfl)); (focus rfl); (focus (intro u w1; go_simp; exact rfl)))))
            ((with_reducible refine flow_pure0 (v := .bool false) ?_ ?_ ?_ ?_); (focus (with_reducible rfl)); (focus rfl); (focus (intro u w1 hw hd; (try simp only [depH] at hd); (try simp only [ext] at hd); (try simp only [extU] at hd); (try simp only [Nat.reduceAdd] at hd); (try simp only [Nat.reduceEqDiff] at hd); (try simp only [reduceIte] at hd); (try simp only [if_true] at hd); (try simp only [if_false] at hd); (try simp only [and_true] at hd); (try simp only [true_and] at hd); have hc' := hw.cell; go_simp; first | (done) | omega | (simp; omega) | (simp [hgz]) | (rw [decide_eq_false (by omega)]))))
            (repeat (first | ((with_reducible refine flow_float (v := ?_) ?_ ?_ ?_); rotate_left 1; (focus (with_reducible rfl)); (focus (intro u w1 hw hd w2; (try simp only [depH] at hd); (try simp only [ext] at hd); (try simp only [extU] at hd); (try simp only [Nat.reduceAdd] at hd); (try simp only [Nat.reduceEqDiff] at hd); (try simp only [reduceIte] at hd); (try simp only [if_true] at hd); (try simp only [if_false] at hd); (try simp only [and_true] at hd); (try simp only [true_and] at hd); go_simp; exact rfl))) | ((with_reducible refine flow_pure0 (v := ?_) ?_ ?_ ?_ ?_); rotate_left 1; (focus (with_reducible rfl)); (focus rfl); (focus (intro u w1 hw hd; (try simp only [depH] at hd); (try simp only [ext] at hd); (try simp only [extU] at hd); (try simp only [Nat.reduceAdd] at hd); (try simp only [Nat.reduceEqDiff] at hd); (try simp only [reduceIte] at hd); (try simp only [if_true] at hd); (try simp only [if_false] at hd); (try simp only [and_true] at hd); (try simp only [true_and] at hd); have hc' := hw.cell; go_simp; exact rfl))) | ((with_reducible refine flow_skipg (j := ?_) (b := ?_) ?_ ?_ ?_); rotate_left 2; (focus (with_reducible rfl)); (focus (intro u w1 hw hd; (try simp only [depH] at hd); (try simp only [ext] at hd); (try simp only [extU] at hd); (try simp only [Nat.reduceAdd] at hd); (try simp only [Nat.reduceEqDiff] at hd); (try simp only [reduceIte] at hd); (try simp only [if_true] at hd); (try simp only [if_false] at hd); (try simp only [and_true] at hd); (try simp only [true_and] at hd); simp [yielded, hd]; done))) | ((with_reducible refine flow_pureg (v := ?_) (j := ?_) (b := ?_) ?_ ?_ ?_ ?_); rotate_left 3; (focus (with_reducible rfl)); (focus (intro u w1 hw hd; (try simp only [depH] at hd); (try simp only [ext] at hd); (try simp only [extU] at hd); (try simp only [Nat.reduceAdd] at hd); (try simp only [Nat.reduceEqDiff] at hd); (try simp only [reduceIte] at hd); (try simp only [if_true] at hd); (try simp only [if_false] at hd); (try simp only [and_true] at hd); (try simp only [true_and] at hd); simp [yielded, hd]; done)); (focus (intro u w1 hw hd; (try simp only [depH] at hd); (try simp only [ext] at hd); (try simp only [extU] at hd); (try simp only [Nat.reduceAdd] at hd); (try simp only [Nat.reduceEqDiff] at hd); (try simp only [reduceIte] at hd); (try simp only [if_true] at hd); (try simp only [if_false] at hd); (try simp only [and_true] at hd); (try simp only [true_and] at hd); have hc' := hw.cell; go_simp; exact rfl))) | ((with_reducible refine flow_alloc (t := ?_) (zs := ?_) ?_ ?_ ?_ ?_); rotate_left 2; (focus (with_reducible rfl)); (focus rfl); (focus (intro u w1; go_simp; exact rfl)))))
            (try clear hc hf h); intro u w' h ha hdi; replace h := h.ins; (try simp only [World.size_alloc] at h); (try dsimp only at ha); (repeat rw [World.size_alloc] at ha); (try simp only [allH] at ha); (try simp only [ext] at ha); (try simp only [extU] at ha); (try simp only [Nat.reduceAdd] at ha); (try simp only [Nat.reduceEqDiff] at ha); (try simp only [reduceIte] at ha); (try simp only [if_true] at ha); (try simp only [if_false] at ha); (try simp only [and_true] at ha); (try simp only [true_and] at ha); have hc := h.cell; have hf := h.frozen; have hb := h.bel; clear hdi hc hf; skip; replace hq := hq.call hb; replace hself := hself.call hb; replace K := K.call hb; replace hSq := hSq.call hb; replace hvq := hvq.call hb; replace hxj := hxj.call hb; replace hcq := hcq.call hb; replace ho := ho.call hb; replace bq := bq.call hb; replace bL := bL.call hb; replace bH := bH.call hb; clear hb h; rename World => W1
            (try dsimp only)
            simp only [ha]
            clear ha
            go_wp2_with fail
            go_meet
            exact ⟨rfl, hself⟩
          · skip
            obtain ⟨i', hi'⟩ : ∃ i', i = i' + 1 := ⟨i - 1, by omega⟩
            have hgz : (0 : Int) < i := by omega
            have hwm : IntKind.i64.wrap ((i : Int) - 1) = (i' : Int) := by
              rw [show ((i : Int) - 1) = (i' : Int) by omega]; exact IntWalk.i64_in _ (by omega)
            have hm0 : (0 : Int) ≤ i' := by omega
            have hm1 : (i' : Int) < (j : Int) + 1 := by omega
            obtain ⟨xa', ra', pa', xk', rk', pk', K'⟩ := hallb i' (by omega)
            replace K' := K'.call hq.bel
            have hei' := (hRS.one (k := i') (by omega)).en
            have hdn := en_down hsy hPo hs0p hs0r hF (i := i') (by omega)
            rw [← hi'] at hdn
            obtain ⟨D1, D2, D3, D4, D5, hD, hD'⟩ : ∃ A1 A2 A3 A4 A5, fracV (en n (plusA n l) (mEl qb) (s0.at n (plusA n l) i').x) = .agg #[.int .u64 A1, .string A2, .bool A3, .int .u64 A4, .string A5] ∧ fcs (en n (plusA n l) (mEl qb) (s0.at n (plusA n l) i').x) = [.int .u64 A1, .string A2, .bool A3, .int .u64 A4, .string A5] := ⟨_, _, _, _, _, rfl, rfl⟩
            have e1 := fcmp_any _ _ hei hei' (by omega)
            rw [HF.out, hD] at e1
            obtain ⟨z1, hz1⟩ : ∃ z, z = cmpR (en n (plusA n l) (mEl qb) (s0.at n (plusA n l) i).x) (en n (plusA n l) (mEl qb) (s0.at n (plusA n l) i').x) := ⟨_, rfl⟩
            rw [← hz1] at e1
            have hz1n : z1 < 0 := by rw [hz1]; exact (cmpR_lt _ _).2 hdn
            have hz1m : ¬ (0 : Int) ≤ z1 := by omega
            clear hz1 hdn hei' hD hi'
            have kl := K.lt
            skip
            have ef0 : wq.cell? ⟨b, off + i * 13 + 8, none⟩ = some (.int .u64 F1) := (K.ce 0 (by decide)).trans (congrArg (fun l : List Value => l[0]?) hF')
            have ef1 : wq.cell? ⟨b, off + i * 13 + 9, none⟩ = some (.string F2) := (K.ce 1 (by decide)).trans (congrArg (fun l : List Value => l[1]?) hF')
            have ef2 : wq.cell? ⟨b, off + i * 13 + 10, none⟩ = some (.bool F3) := (K.ce 2 (by decide)).trans (congrArg (fun l : List Value => l[2]?) hF')
            have ef3 : wq.cell? ⟨b, off + i * 13 + 11, none⟩ = some (.int .u64 F4) := (K.ce 3 (by decide)).trans (congrArg (fun l : List Value => l[3]?) hF')
            have ef4 : wq.cell? ⟨b, off + i * 13 + 12, none⟩ = some (.string F5) := (K.ce 4 (by decide)).trans (congrArg (fun l : List Value => l[4]?) hF')
            skip

            have ed0 : wq.cell? ⟨b, off + i' * 13 + 8, none⟩ = some (.int .u64 D1) := (K'.ce 0 (by decide)).trans (congrArg (fun l : List Value => l[0]?) hD')
            have ed1 : wq.cell? ⟨b, off + i' * 13 + 9, none⟩ = some (.string D2) := (K'.ce 1 (by decide)).trans (congrArg (fun l : List Value => l[1]?) hD')
            have ed2 : wq.cell? ⟨b, off + i' * 13 + 10, none⟩ = some (.bool D3) := (K'.ce 2 (by decide)).trans (congrArg (fun l : List Value => l[2]?) hD')
            have ed3 : wq.cell? ⟨b, off + i' * 13 + 11, none⟩ = some (.int .u64 D4) := (K'.ce 3 (by decide)).trans (congrArg (fun l : List Value => l[3]?) hD')
            have ed4 : wq.cell? ⟨b, off + i' * 13 + 12, none⟩ = some (.string D5) := (K'.ce 4 (by decide)).trans (congrArg (fun l : List Value => l[4]?) hD')
            skip

            have h := In.self wq; have hc := h.cell; have hf := h.frozen; refine wp_region_flowE 16 (by kernel_rfl) (by kernel_rfl) (fun _ _ d _ _ h => by cases d <;> exact h) ?_; simp only [List.take_succ_cons, List.take_zero, List.drop_succ_cons, List.drop_zero]; simp only [putAll, Act.put, List.setIfInBounds_toArray, List.set]; (try simp only [Nat.reduceAdd]); (try simp only [Nat.zero_add])
            ((first | ((with_reducible refine flow_float (v := ?_) ?_ ?_ ?_); rotate_left 1; (focus (with_reducible rfl)); (focus (intro u w1 hw hd w2; (try simp only [depH] at hd); (try simp only [ext] at hd); (try simp only [extU] at hd); (try simp only [Nat.reduceAdd] at hd); (try simp only [Nat.reduceEqDiff] at hd); (try simp only [reduceIte] at hd); (try simp only [if_true] at hd); (try simp only [if_false] at hd); (try simp only [and_true] at hd); (try simp only [true_and] at hd); go_simp; exact rfl))) | ((with_reducible refine flow_pure0 (v := ?_) ?_ ?_ ?_ ?_); rotate_left 1; (focus (with_reducible rfl)); (focus rfl); (focus (intro u w1 hw hd; (try simp only [depH] at hd); (try simp only [ext] at hd); (try simp only [extU] at hd); (try simp only [Nat.reduceAdd] at hd); (try simp only [Nat.reduceEqDiff] at hd); (try simp only [reduceIte] at hd); (try simp only [if_true] at hd); (try simp only [if_false] at hd); (try simp only [and_true] at hd); (try simp only [true_and] at hd); have hc' := hw.cell; go_simp; exact rfl))) | ((with_reducible refine flow_skipg (j := ?_) (b := ?_) ?_ ?_ ?_); rotate_left 2; (focus (with_reducible rfl)); (focus (intro u w1 hw hd; (try simp only [depH] at hd); (try simp only [ext] at hd); (try simp only [extU] at hd); (try simp only [Nat.reduceAdd] at hd); (try simp only [Nat.reduceEqDiff] at hd); (try simp only [reduceIte] at hd); (try simp only [if_true] at hd); (try simp only [if_false] at hd); (try simp only [and_true] at hd); (try simp only [true_and] at hd); simp [yielded, hd]; done))) | ((with_reducible refine flow_pureg (v := ?_) (j := ?_) (b := ?_) ?_ ?_ ?_ ?_); rotate_left 3; (focus (with_reducible rfl)); (focus (intro u w1 hw hd; (try simp only [depH] at hd); (try simp only [ext] at hd); (try simp only [extU] at hd); (try simp only [Nat.reduceAdd] at hd); (try simp only [Nat.reduceEqDiff] at hd); (try simp only [reduceIte] at hd); (try simp only [if_true] at hd); (try simp only [if_false] at hd); (try simp only [and_true] at hd); (try simp only [true_and] at hd); simp [yielded, hd]; done)); (focus (intro u w1 hw hd; (try simp only [depH] at hd); (try simp only [ext] at hd); (try simp only [extU] at hd); (try simp only [Nat.reduceAdd] at hd); (try simp only [Nat.reduceEqDiff] at hd); (try simp only [reduceIte] at hd); (try simp only [if_true] at hd); (try simp only [if_false] at hd); (try simp only [and_true] at hd); (try simp only [true_and] at hd); have hc' := hw.cell; go_simp; exact rfl))) | ((with_reducible refine flow_alloc (t := ?_) (zs := ?_) ?_ ?_ ?_ ?_); rotate_left 2; (focus (with_reducible rfl)); (focus rfl); (focus (intro u w1; go_simp; exact rfl)))))
            ((with_reducible refine flow_pure0 (v := .bool true) ?_ ?_ ?_ ?_); (focus (with_reducible rfl)); (focus rfl); (focus (intro u w1 hw hd; (try simp only [depH] at hd); (try simp only [ext] at hd); (try simp only [extU] at hd); (try simp only [Nat.reduceAdd] at hd); (try simp only [Nat.reduceEqDiff] at hd); (try simp only [reduceIte] at hd); (try simp only [if_true] at hd); (try simp only [if_false] at hd); (try simp only [and_true] at hd); (try simp only [true_and] at hd); have hc' := hw.cell; go_simp; first | (done) | omega | (simp; omega) | (simp [hgz]) | (rw [decide_eq_true (by omega)]))))
            (repeat (first | ((with_reducible refine flow_float (v := ?_) ?_ ?_ ?_); rotate_left 1; (focus (with_reducible rfl)); (focus (intro u w1 hw hd w2; (try simp only [depH] at hd); (try simp only [ext] at hd); (try simp only [extU] at hd); (try simp only [Nat.reduceAdd] at hd); (try simp only [Nat.reduceEqDiff] at hd); (try simp only [reduceIte] at hd); (try simp only [if_true] at hd); (try simp only [if_false] at hd); (try simp only [and_true] at hd); (try simp only [true_and] at hd); go_simp; exact rfl))) | ((with_reducible refine flow_pure0 (v := ?_) ?_ ?_ ?_ ?_); rotate_left 1; (focus (with_reducible rfl)); (focus rfl); (focus (intro u w1 hw hd; (try simp only [depH] at hd); (try simp only [ext] at hd); (try simp only [extU] at hd); (try simp only [Nat.reduceAdd] at hd); (try simp only [Nat.reduceEqDiff] at hd); (try simp only [reduceIte] at hd); (try simp only [if_true] at hd); (try simp only [if_false] at hd); (try simp only [and_true] at hd); (try simp only [true_and] at hd); have hc' := hw.cell; go_simp; exact rfl))) | ((with_reducible refine flow_skipg (j := ?_) (b := ?_) ?_ ?_ ?_); rotate_left 2; (focus (with_reducible rfl)); (focus (intro u w1 hw hd; (try simp only [depH] at hd); (try simp only [ext] at hd); (try simp only [extU] at hd); (try simp only [Nat.reduceAdd] at hd); (try simp only [Nat.reduceEqDiff] at hd); (try simp only [reduceIte] at hd); (try simp only [if_true] at hd); (try simp only [if_false] at hd); (try simp only [and_true] at hd); (try simp only [true_and] at hd); simp [yielded, hd]; done))) | ((with_reducible refine flow_pureg (v := ?_) (j := ?_) (b := ?_) ?_ ?_ ?_ ?_); rotate_left 3; (focus (with_reducible rfl)); (focus (intro u w1 hw hd; (try simp only [depH] at hd); (try simp only [ext] at hd); (try simp only [extU] at hd); (try simp only [Nat.reduceAdd] at hd); (try simp only [Nat.reduceEqDiff] at hd); (try simp only [reduceIte] at hd); (try simp only [if_true] at hd); (try simp only [if_false] at hd); (try simp only [and_true] at hd); (try simp only [true_and] at hd); simp [yielded, hd]; done)); (focus (intro u w1 hw hd; (try simp only [depH] at hd); (try simp only [ext] at hd); (try simp only [extU] at hd); (try simp only [Nat.reduceAdd] at hd); (try simp only [Nat.reduceEqDiff] at hd); (try simp only [reduceIte] at hd); (try simp only [if_true] at hd); (try simp only [if_false] at hd); (try simp only [and_true] at hd); (try simp only [true_and] at hd); have hc' := hw.cell; go_simp; exact rfl))) | ((with_reducible refine flow_alloc (t := ?_) (zs := ?_) ?_ ?_ ?_ ?_); rotate_left 2; (focus (with_reducible rfl)); (focus rfl); (focus (intro u w1; go_simp; exact rfl))) | ((with_reducible refine flow_pure0 (v := ?_) ?_ ?_ ?_ ?_); rotate_left 1; (focus (with_reducible rfl)); (focus rfl); (focus (intro u w1 hw hd; (try simp only [depH] at hd); (try simp only [ext] at hd); (try simp only [extU] at hd); (try simp only [Nat.reduceAdd] at hd); (try simp only [Nat.reduceEqDiff] at hd); (try simp only [reduceIte] at hd); (try simp only [if_true] at hd); (try simp only [if_false] at hd); (try simp only [and_true] at hd); (try simp only [true_and] at hd); have hc' := hw.cell; go_simp; go_at_call 42; ((with_reducible refine (e1 _).mono ?_)); rintro e w'' ⟨rfl, hb⟩; refine ⟨?_, hb⟩; exact rfl))) | ((with_reducible refine flow_pureg (v := ?_) (j := ?_) (b := ?_) ?_ ?_ ?_ ?_); rotate_left 3; (focus (with_reducible rfl)); (focus (intro u w1 hw hd; (try simp only [depH] at hd); (try simp only [ext] at hd); (try simp only [extU] at hd); (try simp only [Nat.reduceAdd] at hd); (try simp only [Nat.reduceEqDiff] at hd); (try simp only [reduceIte] at hd); (try simp only [if_true] at hd); (try simp only [if_false] at hd); (try simp only [and_true] at hd); (try simp only [true_and] at hd); simp [yielded, hd]; done)); (focus (intro u w1 hw hd; (try simp only [depH] at hd); (try simp only [ext] at hd); (try simp only [extU] at hd); (try simp only [Nat.reduceAdd] at hd); (try simp only [Nat.reduceEqDiff] at hd); (try simp only [reduceIte] at hd); (try simp only [if_true] at hd); (try simp only [if_false] at hd); (try simp only [and_true] at hd); (try simp only [true_and] at hd); have hc' := hw.cell; go_simp; go_at_call 42; ((with_reducible refine (e1 _).mono ?_)); rintro e w'' ⟨rfl, hb⟩; refine ⟨?_, hb⟩; exact rfl)))))
            (try clear hc hf h); intro u w' h ha hdi; replace h := h.ins; (try simp only [World.size_alloc] at h); (try dsimp only at ha); (repeat rw [World.size_alloc] at ha); (try simp only [allH] at ha); (try simp only [ext] at ha); (try simp only [extU] at ha); (try simp only [Nat.reduceAdd] at ha); (try simp only [Nat.reduceEqDiff] at ha); (try simp only [reduceIte] at ha); (try simp only [if_true] at ha); (try simp only [if_false] at ha); (try simp only [and_true] at ha); (try simp only [true_and] at ha); have hc := h.cell; have hf := h.frozen; have hb := h.bel; clear hdi hc hf; clear kl ef0 ef1 ef2 ef3 ef4 ed0 ed1 ed2 ed3 ed4 e1 K'; replace hq := hq.call hb; replace hself := hself.call hb; replace K := K.call hb; replace hSq := hSq.call hb; replace hvq := hvq.call hb; replace hxj := hxj.call hb; replace hcq := hcq.call hb; replace ho := ho.call hb; replace bq := bq.call hb; replace bL := bL.call hb; replace bH := bH.call hb; clear hb h; rename World => W1
            (try dsimp only)
            simp only [ha]
            clear ha hz1n hz1m hwm hm0 hm1
            go_wp2_with fail
            go_meet
            exact ⟨rfl, hself⟩
        case rest =>
          skip
          rename World => wx
          obtain ⟨rfl, hx⟩ := hcut
          replace K := K.call hx.bel
          replace hSq := hSq.call hx.bel
          replace hvq := hvq.call hx.bel
          replace hxj := hxj.call hx.bel
          replace hcq := hcq.call hx.bel
          replace ho := ho.call hx.bel
          replace bq := bq.call hx.bel
          replace bL := bL.call hx.bel
          replace bH := bH.call hx.bel
          replace hq := hq.call hx.bel
          clear hself hx
          skip
          have c17 := energy_vl (m := 30000000000) wx _ _ _ hSq hsy hvq ho hmix.one
          rw [HM.out] at c17
          ((have y0 := bq.c0); (have y1 := bq.c1); (have y2 := bq.c2); (have yl := bq.lt))
          ((go_wp2_with fail); (((with_reducible refine (c17).mono ?_))); (rintro e wc1 ⟨rfl, hb⟩); (clear y0 y1 y2 yl c17); (replace hq := hq.call hb); (replace K := K.call hb); (replace hSq := hSq.call hb); (replace hvq := hvq.call hb); (replace hxj := hxj.call hb); (replace hcq := hcq.call hb); (replace ho := ho.call hb); (replace bq := bq.call hb); (replace bL := bL.call hb); (replace bH := bH.call hb); (clear hb))
          go_upto_region 18 with fail
          ((obtain ⟨Mb, hMb⟩ : ∃ z, z = wc1.heap.size := ⟨_, rfl⟩); (have bMb := Bx.new_at wc1 #[.int .u64 M1, .string M2, .bool M3, .int .u64 M4, .string M5] 52 hMb); (replace hq := hq.alloc (.cells #[.int .u64 M1, .string M2, .bool M3, .int .u64 M4, .string M5] 52)); (replace bq := bq.alloc (.cells #[.int .u64 M1, .string M2, .bool M3, .int .u64 M4, .string M5] 52)); (replace bL := bL.alloc (.cells #[.int .u64 M1, .string M2, .bool M3, .int .u64 M4, .string M5] 52)); (replace bH := bH.alloc (.cells #[.int .u64 M1, .string M2, .bool M3, .int .u64 M4, .string M5] 52)); (replace K := K.call ((Below.refl _ _).alloc (Nat.le_refl _) (.cells #[.int .u64 M1, .string M2, .bool M3, .int .u64 M4, .string M5] 52))); (replace hSq := hSq.call ((Below.refl _ _).alloc (Nat.le_refl _) (.cells #[.int .u64 M1, .string M2, .bool M3, .int .u64 M4, .string M5] 52))); (replace hvq := hvq.call ((Below.refl _ _).alloc (Nat.le_refl _) (.cells #[.int .u64 M1, .string M2, .bool M3, .int .u64 M4, .string M5] 52))); (replace hxj := hxj.call ((Below.refl _ _).alloc (Nat.le_refl _) (.cells #[.int .u64 M1, .string M2, .bool M3, .int .u64 M4, .string M5] 52))); (replace hcq := hcq.call ((Below.refl _ _).alloc (Nat.le_refl _) (.cells #[.int .u64 M1, .string M2, .bool M3, .int .u64 M4, .string M5] 52))); (replace ho := ho.call ((Below.refl _ _).alloc (Nat.le_refl _) (.cells #[.int .u64 M1, .string M2, .bool M3, .int .u64 M4, .string M5] 52))); (rw [← hMb]); (clear hMb); (generalize wc1.alloc (.cells #[.int .u64 M1, .string M2, .bool M3, .int .u64 M4, .string M5] 52) = W2 at *))
          have c18 := vsub_vl (j := 30000000000) (l := 3000000000) W2 _ _ _ _ ho hxj (by omega) (hmix.one.hx.szk (Nat.le_refl _) (Nat.le_refl _)) ((h5 j hjn).x.szk (Nat.le_refl _) (Nat.le_refl _)) (by omega)
          ((go_wp2_with fail); (((with_reducible refine (c18).mono ?_))); (rintro e wc3 ⟨⟨dv, rfl, hd⟩, hb⟩); (clear c18); (replace hq := hq.call hb); (replace K := K.call hb); (replace hSq := hSq.call hb); (replace hvq := hvq.call hb); (replace hxj := hxj.call hb); (replace hcq := hcq.call hb); (replace ho := ho.call hb); (replace bq := bq.call hb); (replace bL := bL.call hb); (replace bH := bH.call hb); (replace bMb := bMb.call hb); (clear hb))
          obtain ⟨da, dk, hde⟩ := hd.shape
          rw [vl_length] at hde
          subst hde
          have hdsz := hmix.dif.szk (Nat.le_refl _) (Nat.le_refl _)
          have c19 := sform_vl (j := 332) (l := 30000000000) wc3 _ _ _ _ _ _ hSq hd hd (by omega) hCM.szk hdsz hdsz (by decide) (by decide) (by have h1 := Nat.mul_le_mul_right (332 + 30000000000 + 1) hn5; have h2 := Nat.mul_le_mul hn5 (show 30000000000 + (1 + n * (332 + 30000000000 + 1)) + 1 ≤ 300000000000 by omega); omega) (by have := HNN.out; omega)
          have hfsz : SzK 100000000000 (dt n (fun k => o k - (s0.at n (plusA n l) j).x k) (mv n (plusA n l) fun k => o k - (s0.at n (plusA n l) j).x k)) := (hmix.dif.dt (hCM.mv hmix.dif)).szk (by omega) (by omega)
          have hlast := en_last (b := mEl qb) hsy hs0r hF o
          obtain ⟨fm, hfm⟩ : ∃ q, q = dt n (fun k => o k - (s0.at n (plusA n l) j).x k) (mv n (plusA n l) fun k => o k - (s0.at n (plusA n l) j).x k) := ⟨_, rfl⟩
          rw [← hfm] at c19 hfsz hlast
          clear hfm
          obtain ⟨G1, G2, G3, G4, G5, hG, hG'⟩ : ∃ A1 A2 A3 A4 A5, fracV fm = .agg #[.int .u64 A1, .string A2, .bool A3, .int .u64 A4, .string A5] ∧ fcs fm = [.int .u64 A1, .string A2, .bool A3, .int .u64 A4, .string A5] := ⟨_, _, _, _, _, rfl, rfl⟩
          rw [hG] at c19
          ((have y0 := bq.c0); (have y1 := bq.c1); (have y2 := bq.c2); (have yl := bq.lt))
          ((go_wp2_with fail); (((with_reducible refine (c19).mono ?_))); (rintro e wc4 ⟨rfl, hb⟩); (clear y0 y1 y2 yl c19 hd); (replace hq := hq.call hb); (replace K := K.call hb); (replace hSq := hSq.call hb); (replace hvq := hvq.call hb); (replace hxj := hxj.call hb); (replace hcq := hcq.call hb); (replace ho := ho.call hb); (replace bq := bq.call hb); (replace bL := bL.call hb); (replace bH := bH.call hb); (replace bMb := bMb.call hb); (clear hb))
          go_upto_region 20 with fail
          ((obtain ⟨Gb, hGb⟩ : ∃ z, z = wc4.heap.size := ⟨_, rfl⟩); (have bGb := Bx.new_at wc4 #[.int .u64 G1, .string G2, .bool G3, .int .u64 G4, .string G5] 52 hGb); (replace hq := hq.alloc (.cells #[.int .u64 G1, .string G2, .bool G3, .int .u64 G4, .string G5] 52)); (replace bq := bq.alloc (.cells #[.int .u64 G1, .string G2, .bool G3, .int .u64 G4, .string G5] 52)); (replace bL := bL.alloc (.cells #[.int .u64 G1, .string G2, .bool G3, .int .u64 G4, .string G5] 52)); (replace bH := bH.alloc (.cells #[.int .u64 G1, .string G2, .bool G3, .int .u64 G4, .string G5] 52)); (replace bMb := bMb.alloc (.cells #[.int .u64 G1, .string G2, .bool G3, .int .u64 G4, .string G5] 52)); (replace K := K.call ((Below.refl _ _).alloc (Nat.le_refl _) (.cells #[.int .u64 G1, .string G2, .bool G3, .int .u64 G4, .string G5] 52))); (replace hSq := hSq.call ((Below.refl _ _).alloc (Nat.le_refl _) (.cells #[.int .u64 G1, .string G2, .bool G3, .int .u64 G4, .string G5] 52))); (replace hvq := hvq.call ((Below.refl _ _).alloc (Nat.le_refl _) (.cells #[.int .u64 G1, .string G2, .bool G3, .int .u64 G4, .string G5] 52))); (replace hxj := hxj.call ((Below.refl _ _).alloc (Nat.le_refl _) (.cells #[.int .u64 G1, .string G2, .bool G3, .int .u64 G4, .string G5] 52))); (replace hcq := hcq.call ((Below.refl _ _).alloc (Nat.le_refl _) (.cells #[.int .u64 G1, .string G2, .bool G3, .int .u64 G4, .string G5] 52))); (replace ho := ho.call ((Below.refl _ _).alloc (Nat.le_refl _) (.cells #[.int .u64 G1, .string G2, .bool G3, .int .u64 G4, .string G5] 52))); (rw [← hGb]); (clear hGb); (generalize wc4.alloc (.cells #[.int .u64 G1, .string G2, .bool G3, .int .u64 G4, .string G5] 52) = W5 at *))
          have hle := en_mixed (b := mEl qb) hsy hPo hs0p hs0r hF (mEl qc) (i := i) (by omega)
          rw [← HO.out] at hle
          have e2 := fcmp_any _ _ hmix.one.en hei (by omega)
          rw [HM.out, HF.out] at e2
          obtain ⟨z2, hz2⟩ : ∃ z, z = cmpR (en n (plusA n l) (mEl qb) o) (en n (plusA n l) (mEl qb) (s0.at n (plusA n l) i).x) := ⟨_, rfl⟩
          rw [← hz2] at e2
          have hz2n : ¬ z2 < 0 := by
            rw [hz2, cmpR_lt]; intro h; exact absurd hle (Rat.not_le.2 h)
          have hz2m : 0 ≤ z2 := by omega
          have e3 := fmul_any (i := 2) (j := 100000000000) hv fm (by rw [HV.out]; constructor <;> decide +kernel) hfsz (by omega)
          have e4 := fadd_any (i := 1350000000003) (j := 100000000002) (en n (plusA n l) (mEl qb) (s0.at n (plusA n l) j).x) (hv * fm) ((hRS.one (k := j) hjn).en) (by have := SzK.mul (i := 2) (show SzK 2 hv by rw [HV.out]; constructor <;> decide +kernel) hfsz; exact this.mono (by omega)) (by omega)
          rw [show en n (plusA n l) (mEl qb) (s0.at n (plusA n l) j).x + hv * fm = en n (plusA n l) (mEl qb) o by rw [HV.out]; exact hlast.symm, HM.out, HE.out] at e4
          obtain ⟨Y1, Y2, Y3, Y4, Y5, hY, hY'⟩ : ∃ A1 A2 A3 A4 A5, fracV (hv * fm) = .agg #[.int .u64 A1, .string A2, .bool A3, .int .u64 A4, .string A5] ∧ fcs (hv * fm) = [.int .u64 A1, .string A2, .bool A3, .int .u64 A4, .string A5] := ⟨_, _, _, _, _, rfl, rfl⟩
          rw [hY] at e3 e4
          rw [HH.out, hG] at e3
          clear hz2 hle hY hG hlast
          ((have m0 := bMb.c0); (have m1 := bMb.c1); (have m2 := bMb.c2); (have m3 := bMb.c3); (have m4 := bMb.c4); (have ml := bMb.lt))
          ((have g0 := bGb.c0); (have g1 := bGb.c1); (have g2 := bGb.c2); (have g3 := bGb.c3); (have g4 := bGb.c4); (have gl := bGb.lt))
          ((have p0 := bL.c0); (have p1 := bL.c1); (have p2 := bL.c2); (have p3 := bL.c3); (have p4 := bL.c4); (have pl := bL.lt))
          ((have q0 := bH.c0); (have q1 := bH.c1); (have q2 := bH.c2); (have q3 := bH.c3); (have q4 := bH.c4); (have ql := bH.lt))
          have kl := K.lt
          skip
          have ef0 : W5.cell? ⟨b, off + i * 13 + 8, none⟩ = some (.int .u64 F1) := (K.ce 0 (by decide)).trans (congrArg (fun l : List Value => l[0]?) hF')
          have ef1 : W5.cell? ⟨b, off + i * 13 + 9, none⟩ = some (.string F2) := (K.ce 1 (by decide)).trans (congrArg (fun l : List Value => l[1]?) hF')
          have ef2 : W5.cell? ⟨b, off + i * 13 + 10, none⟩ = some (.bool F3) := (K.ce 2 (by decide)).trans (congrArg (fun l : List Value => l[2]?) hF')
          have ef3 : W5.cell? ⟨b, off + i * 13 + 11, none⟩ = some (.int .u64 F4) := (K.ce 3 (by decide)).trans (congrArg (fun l : List Value => l[3]?) hF')
          have ef4 : W5.cell? ⟨b, off + i * 13 + 12, none⟩ = some (.string F5) := (K.ce 4 (by decide)).trans (congrArg (fun l : List Value => l[4]?) hF')
          skip
          have h := In.self W5; have hc := h.cell; have hf := h.frozen; refine wp_region_flowE 20 (by kernel_rfl) (by kernel_rfl) (fun _ _ d _ _ h => by cases d <;> exact h) ?_; simp only [List.take_succ_cons, List.take_zero, List.drop_succ_cons, List.drop_zero]; simp only [putAll, Act.put, List.setIfInBounds_toArray, List.set]; (try simp only [Nat.reduceAdd]); (try simp only [Nat.zero_add]); (repeat (first | ((with_reducible refine flow_float (v := ?_) ?_ ?_ ?_); rotate_left 1; (focus (with_reducible rfl)); (focus (intro u w1 hw hd w2; (try simp only [depH] at hd); (try simp only [ext] at hd); (try simp only [extU] at hd); (try simp only [Nat.reduceAdd] at hd); (try simp only [Nat.reduceEqDiff] at hd); (try simp only [reduceIte] at hd); (try simp only [if_true] at hd); (try simp only [if_false] at hd); (try simp only [and_true] at hd); (try simp only [true_and] at hd); go_simp; exact rfl))) | ((with_reducible refine flow_pure0 (v := ?_) ?_ ?_ ?_ ?_); rotate_left 1; (focus (with_reducible rfl)); (focus rfl); (focus (intro u w1 hw hd; (try simp only [depH] at hd); (try simp only [ext] at hd); (try simp only [extU] at hd); (try simp only [Nat.reduceAdd] at hd); (try simp only [Nat.reduceEqDiff] at hd); (try simp only [reduceIte] at hd); (try simp only [if_true] at hd); (try simp only [if_false] at hd); (try simp only [and_true] at hd); (try simp only [true_and] at hd); have hc' := hw.cell; go_simp; exact rfl))) | ((with_reducible refine flow_skipg (j := ?_) (b := ?_) ?_ ?_ ?_); rotate_left 2; (focus (with_reducible rfl)); (focus (intro u w1 hw hd; (try simp only [depH] at hd); (try simp only [ext] at hd); (try simp only [extU] at hd); (try simp only [Nat.reduceAdd] at hd); (try simp only [Nat.reduceEqDiff] at hd); (try simp only [reduceIte] at hd); (try simp only [if_true] at hd); (try simp only [if_false] at hd); (try simp only [and_true] at hd); (try simp only [true_and] at hd); simp [yielded, hd]; done))) | ((with_reducible refine flow_pureg (v := ?_) (j := ?_) (b := ?_) ?_ ?_ ?_ ?_); rotate_left 3; (focus (with_reducible rfl)); (focus (intro u w1 hw hd; (try simp only [depH] at hd); (try simp only [ext] at hd); (try simp only [extU] at hd); (try simp only [Nat.reduceAdd] at hd); (try simp only [Nat.reduceEqDiff] at hd); (try simp only [reduceIte] at hd); (try simp only [if_true] at hd); (try simp only [if_false] at hd); (try simp only [and_true] at hd); (try simp only [true_and] at hd); simp [yielded, hd]; done)); (focus (intro u w1 hw hd; (try simp only [depH] at hd); (try simp only [ext] at hd); (try simp only [extU] at hd); (try simp only [Nat.reduceAdd] at hd); (try simp only [Nat.reduceEqDiff] at hd); (try simp only [reduceIte] at hd); (try simp only [if_true] at hd); (try simp only [if_false] at hd); (try simp only [and_true] at hd); (try simp only [true_and] at hd); have hc' := hw.cell; go_simp; exact rfl))) | ((with_reducible refine flow_alloc (t := ?_) (zs := ?_) ?_ ?_ ?_ ?_); rotate_left 2; (focus (with_reducible rfl)); (focus rfl); (focus (intro u w1; go_simp; exact rfl))) | ((with_reducible refine flow_pure0 (v := ?_) ?_ ?_ ?_ ?_); rotate_left 1; (focus (with_reducible rfl)); (focus rfl); (focus (intro u w1 hw hd; (try simp only [depH] at hd); (try simp only [ext] at hd); (try simp only [extU] at hd); (try simp only [Nat.reduceAdd] at hd); (try simp only [Nat.reduceEqDiff] at hd); (try simp only [reduceIte] at hd); (try simp only [if_true] at hd); (try simp only [if_false] at hd); (try simp only [and_true] at hd); (try simp only [true_and] at hd); have hc' := hw.cell; go_simp; go_at_call 42; ((with_reducible refine (e2 _).mono ?_)); rintro e w'' ⟨rfl, hb⟩; refine ⟨?_, hb⟩; exact rfl))) | ((with_reducible refine flow_pureg (v := ?_) (j := ?_) (b := ?_) ?_ ?_ ?_ ?_); rotate_left 3; (focus (with_reducible rfl)); (focus (intro u w1 hw hd; (try simp only [depH] at hd); (try simp only [ext] at hd); (try simp only [extU] at hd); (try simp only [Nat.reduceAdd] at hd); (try simp only [Nat.reduceEqDiff] at hd); (try simp only [reduceIte] at hd); (try simp only [if_true] at hd); (try simp only [if_false] at hd); (try simp only [and_true] at hd); (try simp only [true_and] at hd); simp [yielded, hd]; done)); (focus (intro u w1 hw hd; (try simp only [depH] at hd); (try simp only [ext] at hd); (try simp only [extU] at hd); (try simp only [Nat.reduceAdd] at hd); (try simp only [Nat.reduceEqDiff] at hd); (try simp only [reduceIte] at hd); (try simp only [if_true] at hd); (try simp only [if_false] at hd); (try simp only [and_true] at hd); (try simp only [true_and] at hd); have hc' := hw.cell; go_simp; go_at_call 42; ((with_reducible refine (e2 _).mono ?_)); rintro e w'' ⟨rfl, hb⟩; refine ⟨?_, hb⟩; exact rfl))) | ((with_reducible refine flow_pure0 (v := ?_) ?_ ?_ ?_ ?_); rotate_left 1; (focus (with_reducible rfl)); (focus rfl); (focus (intro u w1 hw hd; (try simp only [depH] at hd); (try simp only [ext] at hd); (try simp only [extU] at hd); (try simp only [Nat.reduceAdd] at hd); (try simp only [Nat.reduceEqDiff] at hd); (try simp only [reduceIte] at hd); (try simp only [if_true] at hd); (try simp only [if_false] at hd); (try simp only [and_true] at hd); (try simp only [true_and] at hd); have hc' := hw.cell; go_simp; go_at_call 25; ((with_reducible refine (e3 _).mono ?_)); rintro e w'' ⟨rfl, hb⟩; refine ⟨?_, hb⟩; exact rfl))) | ((with_reducible refine flow_pureg (v := ?_) (j := ?_) (b := ?_) ?_ ?_ ?_ ?_); rotate_left 3; (focus (with_reducible rfl)); (focus (intro u w1 hw hd; (try simp only [depH] at hd); (try simp only [ext] at hd); (try simp only [extU] at hd); (try simp only [Nat.reduceAdd] at hd); (try simp only [Nat.reduceEqDiff] at hd); (try simp only [reduceIte] at hd); (try simp only [if_true] at hd); (try simp only [if_false] at hd); (try simp only [and_true] at hd); (try simp only [true_and] at hd); simp [yielded, hd]; done)); (focus (intro u w1 hw hd; (try simp only [depH] at hd); (try simp only [ext] at hd); (try simp only [extU] at hd); (try simp only [Nat.reduceAdd] at hd); (try simp only [Nat.reduceEqDiff] at hd); (try simp only [reduceIte] at hd); (try simp only [if_true] at hd); (try simp only [if_false] at hd); (try simp only [and_true] at hd); (try simp only [true_and] at hd); have hc' := hw.cell; go_simp; go_at_call 25; ((with_reducible refine (e3 _).mono ?_)); rintro e w'' ⟨rfl, hb⟩; refine ⟨?_, hb⟩; exact rfl))) | ((with_reducible refine flow_pure0 (v := ?_) ?_ ?_ ?_ ?_); rotate_left 1; (focus (with_reducible rfl)); (focus rfl); (focus (intro u w1 hw hd; (try simp only [depH] at hd); (try simp only [ext] at hd); (try simp only [extU] at hd); (try simp only [Nat.reduceAdd] at hd); (try simp only [Nat.reduceEqDiff] at hd); (try simp only [reduceIte] at hd); (try simp only [if_true] at hd); (try simp only [if_false] at hd); (try simp only [and_true] at hd); (try simp only [true_and] at hd); have hc' := hw.cell; go_simp; go_at_call 44; ((with_reducible refine (e4 _).mono ?_)); rintro e w'' ⟨rfl, hb⟩; refine ⟨?_, hb⟩; exact rfl))) | ((with_reducible refine flow_pureg (v := ?_) (j := ?_) (b := ?_) ?_ ?_ ?_ ?_); rotate_left 3; (focus (with_reducible rfl)); (focus (intro u w1 hw hd; (try simp only [depH] at hd); (try simp only [ext] at hd); (try simp only [extU] at hd); (try simp only [Nat.reduceAdd] at hd); (try simp only [Nat.reduceEqDiff] at hd); (try simp only [reduceIte] at hd); (try simp only [if_true] at hd); (try simp only [if_false] at hd); (try simp only [and_true] at hd); (try simp only [true_and] at hd); simp [yielded, hd]; done)); (focus (intro u w1 hw hd; (try simp only [depH] at hd); (try simp only [ext] at hd); (try simp only [extU] at hd); (try simp only [Nat.reduceAdd] at hd); (try simp only [Nat.reduceEqDiff] at hd); (try simp only [reduceIte] at hd); (try simp only [if_true] at hd); (try simp only [if_false] at hd); (try simp only [and_true] at hd); (try simp only [true_and] at hd); have hc' := hw.cell; go_simp; go_at_call 44; ((with_reducible refine (e4 _).mono ?_)); rintro e w'' ⟨rfl, hb⟩; refine ⟨?_, hb⟩; exact rfl)))))
          (try clear hc hf h); intro u w' h ha hdi; replace h := h.ins; (try simp only [World.size_alloc] at h); (try dsimp only at ha); (repeat rw [World.size_alloc] at ha); (try simp only [allH] at ha); (try simp only [ext] at ha); (try simp only [extU] at ha); (try simp only [Nat.reduceAdd] at ha); (try simp only [Nat.reduceEqDiff] at ha); (try simp only [reduceIte] at ha); (try simp only [if_true] at ha); (try simp only [if_false] at ha); (try simp only [and_true] at ha); (try simp only [true_and] at ha); have hc := h.cell; have hf := h.frozen; have hb := h.bel; clear hdi hc hf; clear m0 m1 m2 m3 m4 ml g0 g1 g2 g3 g4 gl p0 p1 p2 p3 p4 pl q0 q1 q2 q3 q4 ql kl ef0 ef1 ef2 ef3 ef4 e2 e3 e4 bMb bGb; replace hq := hq.call hb; replace K := K.call hb; replace hSq := hSq.call hb; replace hvq := hvq.call hb; replace hxj := hxj.call hb; replace hcq := hcq.call hb; replace ho := ho.call hb; replace bq := bq.call hb; replace bL := bL.call hb; replace bH := bH.call hb; clear hb h; rename World => W6
          (try dsimp only)
          simp only [ha]
          clear ha
          skip
          by_cases hic : i < qc.length
          · have hicI : (i : Int) < (qc.length : Int) := by omega
            obtain ⟨cb, coff, hca, hcl, hc0, hc1⟩ := hcq i hic
            subst hca
            have hcok := hoc (qc.getD i (0, 0)) (by rw [List.getD_eq_getElem?_getD, List.getElem?_eq_getElem hic]; exact List.getElem_mem _)
            have e5 := qOf_any _ _ hcok.1 hcok.2.1 hcok.2.2.1 hcok.2.2.2
            have e6 := fun W (h : In W6.heap.size W6 W) => (axpy_vl (i := 10) (j := 3000000000) (l := 30000000000) W (mEl qc i) _ _ _ _ (K.p.call h.bel) (ho.call h.bel) (by omega) ((mEl_ss hcn hoc i).szk (Nat.le_refl _) (Nat.le_refl _)) ((runD_cs (h5 i (by omega))).szk (Nat.le_refl _) (Nat.le_refl _)) (hmix.one.hx.szk (Nat.le_refl _) (Nat.le_refl _)) (by omega)).mono fun _ _ h => tupv_mk h
            obtain ⟨Q1, Q2, Q3, Q4, Q5, hQ, hQ'⟩ : ∃ A1 A2 A3 A4 A5, fracV (mEl qc i) = .agg #[.int .u64 A1, .string A2, .bool A3, .int .u64 A4, .string A5] ∧ fcs (mEl qc i) = [.int .u64 A1, .string A2, .bool A3, .int .u64 A4, .string A5] := ⟨_, _, _, _, _, rfl, rfl⟩
            rw [show fracV (qOf (qc.getD i (0, 0)).1 (qc.getD i (0, 0)).2) = _ from hQ] at e5
            rw [hQ] at e6
            obtain ⟨cn, hcn'⟩ : ∃ z, z = (qc.getD i (0, 0)).1 := ⟨_, rfl⟩
            obtain ⟨cd, hcd'⟩ : ∃ z, z = (qc.getD i (0, 0)).2 := ⟨_, rfl⟩
            rw [← hcn', ← hcd'] at e5
            rw [← hcn'] at hc0
            rw [← hcd'] at hc1
            rw [Nat.mul_comm 2 i] at hc0 hc1
            clear hcn' hcd' hQ hcok
            skip
            have k2 := K.c2
            have kl := K.lt
            skip
            go_upto_region 23 with fail
            have h := In.self W6; have hc := h.cell; have hf := h.frozen; refine wp_region_flow 15 (by kernel_rfl) (by kernel_rfl) (fun _ _ d _ _ h => by cases d <;> exact h) ?_; simp only [List.take_succ_cons, List.take_zero, List.drop_succ_cons, List.drop_zero]; simp only [putAll, Act.put, List.setIfInBounds_toArray, List.set]; (try simp only [Nat.reduceAdd]); (try simp only [Nat.zero_add]); (repeat (first | ((with_reducible refine flow_float (v := ?_) ?_ ?_ ?_); rotate_left 1; (focus (with_reducible rfl)); (focus (intro u w1 hw hd w2; (try simp only [depH] at hd); (try simp only [ext] at hd); (try simp only [extU] at hd); (try simp only [Nat.reduceAdd] at hd); (try simp only [Nat.reduceEqDiff] at hd); (try simp only [reduceIte] at hd); (try simp only [if_true] at hd); (try simp only [if_false] at hd); (try simp only [and_true] at hd); (try simp only [true_and] at hd); go_simp; exact rfl))) | ((with_reducible refine flow_pure0 (v := ?_) ?_ ?_ ?_ ?_); rotate_left 1; (focus (with_reducible rfl)); (focus rfl); (focus (intro u w1 hw hd; (try simp only [depH] at hd); (try simp only [ext] at hd); (try simp only [extU] at hd); (try simp only [Nat.reduceAdd] at hd); (try simp only [Nat.reduceEqDiff] at hd); (try simp only [reduceIte] at hd); (try simp only [if_true] at hd); (try simp only [if_false] at hd); (try simp only [and_true] at hd); (try simp only [true_and] at hd); have hc' := hw.cell; go_simp; exact rfl))) | ((with_reducible refine flow_skipg (j := ?_) (b := ?_) ?_ ?_ ?_); rotate_left 2; (focus (with_reducible rfl)); (focus (intro u w1 hw hd; (try simp only [depH] at hd); (try simp only [ext] at hd); (try simp only [extU] at hd); (try simp only [Nat.reduceAdd] at hd); (try simp only [Nat.reduceEqDiff] at hd); (try simp only [reduceIte] at hd); (try simp only [if_true] at hd); (try simp only [if_false] at hd); (try simp only [and_true] at hd); (try simp only [true_and] at hd); simp [yielded, hd]; done))) | ((with_reducible refine flow_pureg (v := ?_) (j := ?_) (b := ?_) ?_ ?_ ?_ ?_); rotate_left 3; (focus (with_reducible rfl)); (focus (intro u w1 hw hd; (try simp only [depH] at hd); (try simp only [ext] at hd); (try simp only [extU] at hd); (try simp only [Nat.reduceAdd] at hd); (try simp only [Nat.reduceEqDiff] at hd); (try simp only [reduceIte] at hd); (try simp only [if_true] at hd); (try simp only [if_false] at hd); (try simp only [and_true] at hd); (try simp only [true_and] at hd); simp [yielded, hd]; done)); (focus (intro u w1 hw hd; (try simp only [depH] at hd); (try simp only [ext] at hd); (try simp only [extU] at hd); (try simp only [Nat.reduceAdd] at hd); (try simp only [Nat.reduceEqDiff] at hd); (try simp only [reduceIte] at hd); (try simp only [if_true] at hd); (try simp only [if_false] at hd); (try simp only [and_true] at hd); (try simp only [true_and] at hd); have hc' := hw.cell; go_simp; exact rfl))) | ((with_reducible refine flow_alloc (t := ?_) (zs := ?_) ?_ ?_ ?_ ?_); rotate_left 2; (focus (with_reducible rfl)); (focus rfl); (focus (intro u w1; go_simp; exact rfl))) | ((with_reducible refine flow_pure0 (v := ?_) ?_ ?_ ?_ ?_); rotate_left 1; (focus (with_reducible rfl)); (focus rfl); (focus (intro u w1 hw hd; (try simp only [depH] at hd); (try simp only [ext] at hd); (try simp only [extU] at hd); (try simp only [Nat.reduceAdd] at hd); (try simp only [Nat.reduceEqDiff] at hd); (try simp only [reduceIte] at hd); (try simp only [if_true] at hd); (try simp only [if_false] at hd); (try simp only [and_true] at hd); (try simp only [true_and] at hd); have hc' := hw.cell; go_simp; go_at_call 36; ((with_reducible refine (e5 _).mono ?_)); rintro e w'' ⟨rfl, hb⟩; refine ⟨?_, hb⟩; exact rfl))) | ((with_reducible refine flow_pureg (v := ?_) (j := ?_) (b := ?_) ?_ ?_ ?_ ?_); rotate_left 3; (focus (with_reducible rfl)); (focus (intro u w1 hw hd; (try simp only [depH] at hd); (try simp only [ext] at hd); (try simp only [extU] at hd); (try simp only [Nat.reduceAdd] at hd); (try simp only [Nat.reduceEqDiff] at hd); (try simp only [reduceIte] at hd); (try simp only [if_true] at hd); (try simp only [if_false] at hd); (try simp only [and_true] at hd); (try simp only [true_and] at hd); simp [yielded, hd]; done)); (focus (intro u w1 hw hd; (try simp only [depH] at hd); (try simp only [ext] at hd); (try simp only [extU] at hd); (try simp only [Nat.reduceAdd] at hd); (try simp only [Nat.reduceEqDiff] at hd); (try simp only [reduceIte] at hd); (try simp only [if_true] at hd); (try simp only [if_false] at hd); (try simp only [and_true] at hd); (try simp only [true_and] at hd); have hc' := hw.cell; go_simp; go_at_call 36; ((with_reducible refine (e5 _).mono ?_)); rintro e w'' ⟨rfl, hb⟩; refine ⟨?_, hb⟩; exact rfl)))))
            (with_reducible refine flow_rel (Vi := TupV (vl n (axp (mEl qc i) (runD n (plusA n l) (mEl qb) s0 j i).p o))) false ?_ ?_ ?_ ?_ ?_ ?_); (focus rfl); (focus rfl); (focus exact stable_tupv _); (focus exact placed_false _); (focus (intro u w1 hw hd; (try simp only [depH] at hd); (try simp only [ext] at hd); (try simp only [extU] at hd); (try simp only [Nat.reduceAdd] at hd); (try simp only [Nat.reduceEqDiff] at hd); (try simp only [reduceIte] at hd); (try simp only [if_true] at hd); (try simp only [if_false] at hd); (try simp only [and_true] at hd); (try simp only [true_and] at hd); have hc' := hw.cell; go_simp; (try simp only [okUpon]); go_at_call 28; ((with_reducible refine (e6 _ hw.ins).mono ?_)); rintro e w'' ⟨⟨v, rfl, hv⟩, hb⟩; exact ⟨v, rfl, ⟨hv, fun h => by cases h⟩, hb⟩))
            (((with_reducible refine flow_link (k := 11) (R := MvS) ?_ ?_ ?_ ?_); (focus rfl); (focus rfl); (focus (intro u w1 hw hd; (try simp only [depH] at hd); (try simp only [ext] at hd); (try simp only [extU] at hd); (try simp only [Nat.reduceAdd] at hd); (try simp only [Nat.reduceEqDiff] at hd); (try simp only [reduceIte] at hd); (try simp only [if_true] at hd); (try simp only [if_false] at hd); (try simp only [and_true] at hd); (try simp only [true_and] at hd); obtain ⟨⟨a, l, k, e, h3⟩, _⟩ := hd; exact ⟨u 11, fun w2 => (by go_simp), rfl, a, l, k, e, h3⟩))); ((with_reducible refine flow_link (k := 12) (R := FstS) ?_ ?_ ?_ ?_); (focus rfl); (focus rfl); (focus (intro u w1 hw hd; (try simp only [depH] at hd); (try simp only [ext] at hd); (try simp only [extU] at hd); (try simp only [Nat.reduceAdd] at hd); (try simp only [Nat.reduceEqDiff] at hd); (try simp only [reduceIte] at hd); (try simp only [if_true] at hd); (try simp only [if_false] at hd); (try simp only [and_true] at hd); (try simp only [true_and] at hd); obtain ⟨h4, a, l, k, e, h5⟩ := hd; exact ⟨.slice a l k, fun w2 => (by clear h4; go_simp), a, l, k, e, h5, rfl⟩))); ((with_reducible refine flow_link (k := 12) (R := SndS) ?_ ?_ ?_ ?_); (focus rfl); (focus rfl); (focus (intro u w1 hw hd; (try simp only [depH] at hd); (try simp only [ext] at hd); (try simp only [extU] at hd); (try simp only [Nat.reduceAdd] at hd); (try simp only [Nat.reduceEqDiff] at hd); (try simp only [reduceIte] at hd); (try simp only [if_true] at hd); (try simp only [if_false] at hd); (try simp only [and_true] at hd); (try simp only [true_and] at hd); obtain ⟨h4, a, l, k, e, h5⟩ := hd; exact ⟨.int .i64 e, fun w2 => (by clear h4; go_simp), a, l, k, e, h5, rfl⟩))))
            (try clear hc hf h); intro u w' h ha hdi; replace h := h.ins; (try simp only [World.size_alloc] at h); (try dsimp only at ha); (repeat rw [World.size_alloc] at ha); (try simp only [allH] at ha); (try simp only [ext] at ha); (try simp only [extU] at ha); (try simp only [Nat.reduceAdd] at ha); (try simp only [Nat.reduceEqDiff] at ha); (try simp only [reduceIte] at ha); (try simp only [if_true] at ha); (try simp only [if_false] at ha); (try simp only [and_true] at ha); (try simp only [true_and] at ha); have hc := h.cell; have hf := h.frozen; have hb := h.bel; clear hdi hc hf; clear hc0 hc1 hcl k2 kl e5 e6; replace hq := hq.call hb; replace K := K.call hb; replace hSq := hSq.call hb; replace hvq := hvq.call hb; replace hxj := hxj.call hb; replace hcq := hcq.call hb; replace ho := ho.call hb; replace bq := bq.call hb; replace bL := bL.call hb; replace bH := bH.call hb; clear hb h; rename World => W7
            obtain ⟨⟨⟨⟨⟨⟨⟨⟨⟨⟨⟨⟨⟨⟨h0, h1⟩, h2⟩, h3⟩, h4⟩, h5'⟩, h6⟩, h7⟩, h8⟩, h9⟩, h10⟩, h11⟩, h12⟩, h13⟩, h14⟩ := ha
            obtain ⟨_, dl, g5, hl2⟩ := h11
            obtain ⟨g6, g7, g8⟩ := tups_out g5 h12 h13 h14
            obtain ⟨la', lk', he⟩ := hl2.shape
            rw [vl_length] at he
            subst he
            (try dsimp only)
            simp only [g7, g8]
            clear h0 h1 h2 h3 h4 h5' h6 h7 h8 h9 h10 h12 h13 h14 g5 g6 g7 g8
            have hnx : vl n (axp (mEl qc i) (runD n (plusA n l) (mEl qb) s0 j i).p o) = vl n (oC (mEl qc) (fun k => (runD n (plusA n l) (mEl qb) s0 j k).p) s0.x (i + 1)) := by rw [HO.out]; rfl
            rw [hnx] at hl2
            clear hnx
            have HL2 := Lib.hid hl2
            have HQ2 := Lib.hid hq
            go_wp2_with fail
            exact ⟨⟨i + 1, _, by omega, rfl, by go_num, HQ2.out, HL2.out⟩, by simp [RowKit.intOf]; omega⟩
          · skip
            have hicI : ¬ (i : Int) < (qc.length : Int) := by omega
            have hnx : vl n o = vl n (oC (mEl qc) (fun k => (runD n (plusA n l) (mEl qb) s0 j k).p) s0.x (i + 1)) := vl_congr fun k _ => by
              show o k = axp (mEl qc i) _ (oC (mEl qc) (fun k => (runD n (plusA n l) (mEl qb) s0 j k).p) s0.x i) k
              have h0 : mEl qc i = 0 := by
                unfold mEl
                rw [List.getD_eq_getElem?_getD, List.getElem?_eq_none (by omega)]
                show qOf 0 0 = 0
                decide +kernel
              rw [HO.out, h0]; unfold axp; grind
            rw [hnx] at ho
            clear hnx
            have HL2 := Lib.hid ho
            have HQ2 := Lib.hid hq
            go_wp2_with fail
            exact ⟨⟨i + 1, _, by omega, rfl, by go_num, HQ2.out, HL2.out⟩, by simp [RowKit.intOf]; omega⟩
      · obtain rfl : i = j + 1 := by omega
        have hiI : ¬ ((j : Int) + 1) < (j : Int) + 1 := by omega
        skip
        ((go_wp2_with fail); (((with_reducible refine (cz _).mono ?_))); (rintro e wc1 ⟨rfl, hb⟩); (skip); (replace hq := hq.call hb); (clear hb))
        go_wp2_with fail
        go_ret
        exact ⟨rfl, (hin.call hq.bel).bel⟩
end Gus
end
section
/- Proved: whatever the positive definite matrix, the right-hand side, the start and the coefficients, gussetlaw19.CgsEnergy returns true, and the arguments read as before. Conditions: the three listed tables hold what the program's text lays (the card ties them). -/
namespace Go.Proofs.YtjbclomfocnplaaGreatDoor
open Go Go.RowKit Go.ChangeShapes Go.WideShapes Go.ChangeAt Gus
namespace Eny
theorem params_ok : ∀ t ∈ Tryz.f7.params.toList, Tryz.prog.readableRec t = true ∧ t < Tryz.prog.types.size := by
  rw [Tryz.params7]
  intro t ht
  simp only [List.mem_cons, List.not_mem_nil, or_false] at ht
  rcases ht with rfl | rfl | rfl | rfl <;> exact ⟨by kernel_rfl, of_decide_eq_true (by kernel_rfl)⟩
set_option maxRecDepth 100000 in
theorem contract (H : Type) (enc : TypeId × Value → H) (W : World) (base : Nat) (args : Array Value) (ds gs : List (DataW H)) (before : List MemPlace)
    (hval : ∀ (j : Nat) t v, Tryz.f7.params[j]? = some t → args[j]? = some v → Value.okWide Tryz.prog W .any base t v)
    (hW : DataW.Whole enc Tryz.prog Tryz.f7.params.toList Rows.cgsEnergySpec.vars false W args.toList ds gs before) :
    Calls Tryz.prog 7 args W fun e W' => ∃ v, e = .returned v ∧ Rows.cgsEnergySpec.post enc Tryz.prog Tryz.f7 false true false false W args v W' := by
  have hW' := hW
  have hlt := hW.lt
  obtain ⟨p, q, hA0, hV, rfl, hfz, hnd⟩ := hW
  have hA1 : DataW.TrodAll enc Tryz.prog W 0 (fun _ => true) true Tryz.f7.params.toList args.toList ds p := hA0
  have hA := hA1
  rw [Tryz.params7] at hA hval
  obtain ⟨v0, vs0, d0, ds0, p0, q0, hargs, rfl, rfl, h0, r0⟩ := trodAll_cons hA
  obtain ⟨v1, vs1, d1, ds1, p1, q1, rfl, rfl, rfl, h1, r1⟩ := trodAll_cons r0
  obtain ⟨v2, vs2, d2, ds2, p2, q2, rfl, rfl, rfl, h2, r2⟩ := trodAll_cons r1
  obtain ⟨v3, vs3, d3, ds3, p3, q3, rfl, rfl, rfl, h3, r3⟩ := trodAll_cons r2
  obtain ⟨rfl, rfl, rfl⟩ := trodAll_nil r3
  obtain rfl : args = #[v0, v1, v2, v3] := by cases args; simp_all
  obtain ⟨rfl, rfl⟩ := trodVars_none hV
  obtain ⟨N0, a0, l0, k0, rfl, hN0, hq0, ho0, hl0⟩ := open_s (hval 0 24 v0 (by rfl) (by rfl)) h0
  obtain ⟨a1, q1, k1, rfl, hq1, ho1, hl1⟩ := open_vec (hval 1 25 v1 (by rfl) (by rfl)) h1
  obtain ⟨a2, q2, k2, rfl, hq2, ho2, hl2⟩ := open_vec (hval 2 25 v2 (by rfl) (by rfl)) h2
  obtain ⟨a3, q3, k3, rfl, hq3, ho3, hl3⟩ := open_vec (hval 3 25 v3 (by rfl) (by rfl)) h3
  refine (energy_law W N0 hN0 a0 k0 l0 hq0 ho0 hl0 a1 a2 a3 k1 k2 k3 q1 q2 q3 hq1 hq2 hq3 ho1 ho2 ho3 hl1 hl2 hl3).mono fun e W' ⟨he, hb⟩ => ?_
  subst he
  exact ⟨_, rfl, row_end (pv := []) hb hW' rfl (fun sp hsp => args_stay hb params_ok hA1 (fun x hx => hlt x (List.mem_append.2 (.inl hx))) (fun x hx => hsp x (List.mem_append.2 (.inl hx)))) (fun _ _ => rfl)
    (fun _ _ _ => trodAll_cons_mk (shut_bool Tryz.underlying4 _) trodAll_mk0) (ok_one (by kernel_rfl) rfl (okWide_bool_mk Tryz.underlying4 _))⟩
abbrev input : Array Value := #[.agg #[.int .u8 0, .slice none 0 0], .slice none 0 0, .slice none 0 0, .slice none 0 0]
theorem laid_met (os : Os) : laidMet Tryz.prog Rows.cgsEnergyRow.laid ((laidW os).forCall (fun _ _ => 0) ⟨#[], input, []⟩).memory :=
  laidMet_of_run' 8 (by kernel_rfl) (by kernel_rfl)
theorem reads (os : Os) {H : Type} (enc : TypeId × Value → H) : ∃ places, DataW.whole enc Tryz.prog ((laidW os).forCall (fun _ _ => 0) ⟨#[], input, []⟩).memory Tryz.f7.params.toList Rows.cgsEnergySpec.vars false input.toList 8 = some ([.agg [.lit (.int .u8 0), .nil], .nil, .nil, .nil], [], places) :=
  ⟨[], by kernel_rfl⟩
set_option maxRecDepth 100000 in
theorem lifted (os : Os) (started : os.Started) (H : Type) (enc : TypeId × Value → H) (F : Stop.Interp) :
    ReturnsInHanded {} Tryz.checked os 7 .any ((OpenSpec.ofChange Rows.cgsEnergySpec).preRow enc Tryz.prog Tryz.f7 Rows.cgsEnergyRow.domain false Rows.cgsEnergyRow.laid) (((OpenSpec.ofChange Rows.cgsEnergySpec).at F).post enc Tryz.prog Tryz.f7 false true false false) := by
  obtain ⟨places, hx⟩ := reads os enc
  refine returnsInHanded_of_row (C := Tryz.checked) (s := OpenSpec.ofChange Rows.cgsEnergySpec) ownK started (by kernel_rfl) Tryz.func7
    (witness_row_at (enc := enc) (C := Tryz.checked) false (laidW os) input rfl (by kernel_rfl) (by kernel_rfl) (by kernel_rfl)
      (OpenSpec.preRow_of_cond 8 hx (by kernel_rfl) (fun k hk => by cases hk) (by kernel_rfl) (laid_met os))) ?_
  intro W base args ds gs before hval hW _ _ _ _ _ _
  exact contract H enc W base args ds gs before hval hW
theorem h_named : Tryz.pinned.checked.prog.funcNamed Rows.cgsEnergyRow.func = some 7 := by kernel_rfl
theorem h_closed : joinedFacts Tryz.pinned.checked.prog 7 Tryz.f7 (OpenSpec.ofChange Rows.cgsEnergySpec).bare Rows.cgsEnergyRow = true := by kernel_rfl
theorem h_inst : Tryz.f7.isInstance Tryz.pinned.checked.prog Rows.cgsEnergyRow.origin Rows.cgsEnergyRow.targs := of_decide_eq_true (by kernel_rfl)
theorem h_wrap : Tryz.f7.isWrapper Tryz.pinned.checked.prog Rows.cgsEnergyRow.wrapper Rows.cgsEnergyRow.mainSum := by unfold Func.isWrapper; first | (rw [if_pos (by decide +kernel)]; kernel_rfl) | (rw [if_neg (by decide +kernel)]; exact ⟨rfl, rfl⟩)
theorem said : Rows.CgsEnergySaid :=
  OpenClaim.holds_of_cond 7 Tryz.f7 rfl rfl rfl rfl rfl rfl rfl ⟨rfl, rfl, rfl, rfl, rfl⟩ rfl rfl rfl rfl rfl h_named Tryz.func7 h_closed h_inst h_wrap
    (fun os started H enc _ F => by rw [OpenClaim.pre_eq_preRow]; exact lifted os started H enc F)
theorem plain (f : FuncId) (fn : Func) (hf : Tryz.pinned.checked.prog.funcNamed "gusset/gussetlaw19.CgsEnergy" = some f) (hfn : Tryz.pinned.checked.prog.funcs[f]? = some fn) :
    false = Tryz.pinned.checked.prog.looks [] ∧ ∀ (j : Nat) t, fn.params[j]? = some t → Tryz.pinned.checked.prog.wantsStandIn t = false := by
  obtain rfl : f = 7 := Option.some.inj ((show Tryz.prog.funcNamed "gusset/gussetlaw19.CgsEnergy" = some 7 by kernel_rfl).symm.trans hf) |>.symm
  obtain rfl : fn = Tryz.f7 := (Option.some.inj (Tryz.func7.symm.trans hfn)).symm
  refine ⟨by kernel_rfl, fun j t ht => ?_⟩
  have hm := Array.mem_of_getElem? ht
  rw [Tryz.params7] at hm
  simp only [List.mem_toArray, List.mem_cons, List.not_mem_nil, or_false] at hm
  rcases hm with rfl | rfl | rfl | rfl
  · exact (show Tryz.prog.wantsStandIn 24 = false by kernel_rfl)
  · exact (show Tryz.prog.wantsStandIn 25 = false by kernel_rfl)
  · exact (show Tryz.prog.wantsStandIn 25 = false by kernel_rfl)
  · exact (show Tryz.prog.wantsStandIn 25 = false by kernel_rfl)
end Eny
/-- the card -/
theorem energy_card : Rows.CgsEnergyCardSaid :=
  Claim7.holds_tied_plain_at .later [] _ _ _ _ Eny.said (fun _ h => by cases h) (by kernel_rfl) (fun _ h => by cases h) cgsEnergy_row_tie rfl ⟨rfl, rfl⟩ (by kernel_rfl) rfl Eny.plain (by kernel_rfl)
end Go.Proofs.YtjbclomfocnplaaGreatDoor
end
