/- Proved here: parts of the proof: FlowC Cgj Cge Cgt. Conditions: those that each theorem states. -/
import Derived.Test.YtjbclomfocnplaaGreatDoorFlowQ
import Derived.Test.YtjbclomfocnplaaGreatDoorCgcQ
import Derived.Test.YtjbclomfocnplaaGreatDoorKeep
section
/- Regions by the flow of their data, where moves are not taken ahead of their turn (long conditions that draw their order). -/
namespace Gus
open Go Go.RowKit
section
variable {P : Program} {ops : Array Oper} {w0 : World}
/-- operation i may be taken as soon as it may come up: extracts alone -/
def isE (ops : Array Oper) (i : Nat) : Bool := (match ops[i]? with | some o => (match o.op with | .extract _ _ => true | _ => false) | none => false) && isF ops i
def sinkE (ops : Array Oper) (n : Nat) : Bool := (List.range n).all fun i => isE ops i || (List.range (n + 1)).any fun j => decide (i < j) && Region.waitsFor .any ops j i && (j == n || !isE ops j)
def flowEB (ops : Array Oper) (n : Nat) : Bool :=
  decide (n < ops.size) && sinkE ops n && Region.chainB .any ops n && backB ops n && nodupD (ops.toList.take n) && Region.seqB .any ops (ops.size - n) n (firstN n ops.size) && Region.noSelect ops
theorem tail_waitsE {n : Nat} {listed : Array Bool} (hs : sinkE ops n = true) (hc : Region.chainB .any ops n = true) (hn : n < ops.size) (inv : HeadInv .any ops n listed) :
    ∀ (d i : Nat), n - i = d → i < n → isE ops i = false → listed.getD i true = false → ∀ t, n ≤ t → t ∉ Region.ready .any ops listed := by
  intro d
  induction d using Nat.strongRecOn with
  | _ d ih =>
    intro i hd hi hF hun t ht hr
    obtain ⟨_, ot, hot, hall⟩ := mem_ready.1 hr
    have htlt : t < ops.size := (Array.getElem?_eq_some_iff.1 hot).1
    by_cases htn : t = n
    · subst htn
      have h1 := List.all_eq_true.1 hs i (List.mem_range.2 hi)
      rw [hF, Bool.false_or] at h1
      obtain ⟨j, hj, hj2⟩ := List.any_eq_true.1 h1
      simp only [Bool.and_eq_true, decide_eq_true_eq, Bool.or_eq_true, beq_iff_eq, Bool.not_eq_true'] at hj2
      obtain ⟨⟨hij, hwf⟩, hjF⟩ := hj2
      obtain ⟨oj, hoj, e, he, hb, hon⟩ := Region.waitsFor_spec hwf
      have hjle : j ≤ t := by have := List.mem_range.1 hj; omega
      by_cases hjt : j = t
      · subst hjt
        have : oj = ot := Option.some.inj (hoj.symm.trans hot)
        subst this
        have h2 := hall e he hb
        rw [hon, getD_both hun] at h2; cases h2
      · have hjF' : isE ops j = false := by
          rcases hjF with h | h
          · exact absurd h hjt
          · exact h
        have hjun : listed.getD j true = false := by
          cases hl : listed.getD j true with
          | false => rfl
          | true =>
            have hjs : j < listed.size := by rw [inv.size]; omega
            have hl' : listed.getD j false = true := by simp [hjs] at hl ⊢; exact hl
            have h2 := inv.closed j oj hoj hl' e he hb
            rw [hon, getD_both hun] at h2; cases h2
        exact ih (t - j) (by omega) j rfl (by omega) hjF' hjun t (Nat.le_refl _) hr
    · have h1 := List.all_eq_true.1 hc t (List.mem_range.2 htlt)
      simp only [Bool.or_eq_true, decide_eq_true_eq] at h1
      rcases h1 with h1 | h1
      · omega
      · obtain ⟨oj, hoj, e, he, hb, hon⟩ := Region.waitsFor_spec h1
        have : oj = ot := Option.some.inj (hoj.symm.trans hot)
        subst this
        have h2 := hall e he hb
        rw [hon, getD_both (inv.tail (t - 1) (by omega) (by omega))] at h2; cases h2
theorem wpAny_of_flowE {n : Nat} {Q : Exit → Act → World → Prop} {A : (Nat → Value) → Act} {a0 : Act} {V : Nat → (Nat → Value) → Value → World → Prop} {Φ : Nat → Bool} (hB : flowEB ops n = true) (hA : ∀ u, A u = putAll u 0 (ops.toList.take n) a0)
    (hQ : ∀ c a d v w, Q (.panic c) (Act.put a d v) w → Q (.panic c) a w)
    (hst : ∀ j, j < n → (∀ u, Stable (V j u)) ∧ (∀ u, Placed (Φ j) (V j u))) (hlo : ∀ j o, j < n → ops[j]? = some o → LocalU o (V j)) (hop : ∀ j o, j < n → ops[j]? = some o → ∀ u w, St w0 w → (∀ e ∈ o.after.toList, Region.binds .any e = true → V e.on u (u e.on) w) → okOp P ops o (A u) w (Fresh (Φ j) (V j u) w) ∧
      (fl o = true → Φ j = false ∧ ∃ v, (∀ w2, (execOp (A u).eval o).run P w2 = .ok (.value v) w2) ∧ ∀ w2, V j u v w2))
    (hT : ∀ u w, St w0 w → (∀ j, j < n → V j u (u j) w) → dist Φ u n → wpList P ops Q (ops.toList.drop n) (A u) w) :
    ∀ (c : Nat) (listed : Array Bool) (u : Nat → Value) (w : World), HeadInv .any ops n listed → cnt listed n = c → St w0 w → (∀ j, j < n → listed.getD j true = true → V j u (u j) w) →
      (∀ i j, i < n → j < n → i ≠ j → listed.getD i true = true → listed.getD j true = true → Φ i = true → Φ j = true → ∀ b, blk (u i) = some b → blk (u j) ≠ some b) → wpAny P .any ops Q (c + (ops.size - n)) listed (A u) w := by
  simp only [flowEB, Bool.and_eq_true, decide_eq_true_eq] at hB
  obtain ⟨⟨⟨⟨⟨⟨hn, hs⟩, hc⟩, hb⟩, hnd⟩, hseq⟩, hsel⟩ := hB
  have hback : ∀ i o e, i < n → ops[i]? = some o → e ∈ o.after.toList → Region.binds .any e = true → e.on < i := fun i o e hi ho he hbd => by
    have h1 := List.all_eq_true.1 hb i (List.mem_range.2 hi)
    rw [ho] at h1
    have h2 := List.all_eq_true.1 h1 e he
    rw [hbd] at h2
    simpa using h2
  intro c
  induction c with
  | zero =>
    intro listed u w inv hcn hw hv hdi
    have hall := cnt_zero n hcn
    have hl : listed = firstN n ops.size := by
      apply Array.ext
      · simp [firstN, inv.size]
      · intro i h1 h2
        simp only [firstN, List.getElem_toArray, List.getElem_map, List.getElem_range]
        by_cases hi : i < n
        · have := hall i hi
          rw [Array.getD_eq_getD_getElem?, Array.getElem?_eq_getElem h1] at this
          simpa [hi] using this
        · have := getD_both (inv.tail i (by omega) (by rw [inv.size] at h1; exact h1))
          rw [Array.getD_eq_getD_getElem?, Array.getElem?_eq_getElem h1] at this
          simpa [hi] using this
    subst hl
    rw [Nat.zero_add]
    have hdl : (ops.toList.drop n).length = ops.size - n := by simp
    have := wpAny_of_seq (P := P) (Q' := Q) (ops.toList.drop n) n (firstN n ops.size) (A u) w (fun j => by simp [List.getElem?_drop]) (by rw [hdl]; exact hseq) (hT u w hw (fun j hj => hv j hj (hall j hj)) (fun i j hi hj hne => hdi i j hi hj hne (hall i hi) (hall j hj)))
    rwa [hdl] at this
  | succ c ih =>
    intro listed u w inv hcn hw hv hdi
    rw [show c + 1 + (ops.size - n) = (c + (ops.size - n)) + 1 by omega]
    obtain ⟨i0, hi0, hun0, hmin⟩ := cnt_pos n (by omega : 0 < cnt listed n)
    have hls : ∀ j, j < n → listed.getD j true = true → listed.getD j false = true := fun j hj h => by
      have hjs : j < listed.size := by rw [inv.size]; omega
      simp [hjs] at h ⊢; exact h
    have hlt : ∀ j, j < n → listed.getD j false = true → listed.getD j true = true := fun j hj h => by
      have hjs : j < listed.size := by rw [inv.size]; omega
      simp [hjs] at h ⊢; exact h
    have hi0s : i0 < ops.size := by omega
    have ho0 : ops[i0]? = some ops[i0] := by simp [hi0s]
    have hr0 : i0 ∈ Region.ready .any ops listed :=
      mem_ready.2 ⟨hun0, ops[i0], ho0, fun e he hbd => by
        have h3 := hback i0 _ e hi0 ho0 (by simpa using he) hbd
        exact hls _ (by omega) (hmin _ h3)⟩
    have key : ∀ i o v w', i < n → ops[i]? = some o → i ∈ Region.ready .any ops listed → Fresh (Φ i) (V i u) w v w' → St w w' → wpAny P .any ops Q (c + (ops.size - n)) (listed.setIfInBounds i true) ((A u).put o.dst v) w' := fun i o v w' hin ho hi hV hs' => by
      obtain ⟨hiun, _, _, _⟩ := mem_ready.1 hi
      have hAu : (A u).put o.dst v = A (upd u i v) := by
        rw [hA, hA]
        have := putAll_upd (u := u) (v := v) (ops.toList.take n) 0 i a0 o hnd (by rw [List.getElem?_take, if_pos hin]; simpa using ho)
        rw [Nat.zero_add] at this
        exact this.symm
      rw [hAu]
      have his : i < listed.size := by rw [inv.size]; omega
      have hagree : ∀ j oj, j < n → ops[j]? = some oj → (j = i ∨ listed.getD j true = true) → ∀ e ∈ oj.after.toList, Region.binds .any e = true → u e.on = upd u i v e.on := fun j oj hj hoj hjl e he hbd => by
        have hlt' := hback j oj e hj hoj he hbd
        have hne : e.on ≠ i := fun h => by
          rcases hjl with rfl | hjl
          · omega
          · have h2 := inv.closed j oj hoj (hls j hj hjl) e (by simpa using he) hbd
            rw [h, getD_both hiun] at h2; cases h2
        unfold upd
        rw [if_neg hne]
      refine ih _ _ _ (inv.set hi hin) ?_ (hw.trans hs') (fun j hj hl => ?_) (fun i1 j1 hi1 hj1 hne hl1 hl2 hf1 hf2 b hb1 => ?_)
      · have := cnt_set hiun his n
        rw [if_pos hin] at this; omega
      · have hjs : j < ops.size := by omega
        have hoj : ops[j]? = some ops[j] := by simp [hjs]
        by_cases hji : j = i
        · subst hji
          refine hlo j _ hj hoj u _ _ _ (hagree j _ hj hoj (.inl rfl)) ?_
          unfold upd
          rw [if_pos rfl]; exact hV.1
        · rw [getD_set_ne true (fun h => hji h.symm)] at hl
          refine hlo j _ hj hoj u _ _ _ (hagree j _ hj hoj (.inr hl)) ?_
          unfold upd
          rw [if_neg hji]
          exact (hst j hj).1 u _ _ _ (hv j hj hl) hs'
      · unfold upd at hb1 ⊢
        by_cases h1 : i1 = i
        · have h2 : ¬ j1 = i := fun h => hne (h1.trans h.symm)
          rw [if_pos h1] at hb1
          rw [if_neg h2]
          intro hb2
          rw [getD_set_ne true (fun h => h2 h.symm)] at hl2
          have h3 := (hst j1 hj1).2 u hf2 _ _ (hv j1 hj1 hl2) b hb2
          have h4 := hV.2 (by rw [← h1]; exact hf1) b hb1
          omega
        · rw [if_neg h1] at hb1
          rw [getD_set_ne true (fun h => h1 h.symm)] at hl1
          by_cases h2 : j1 = i
          · rw [if_pos h2]
            intro hb2
            have h3 := (hst i1 hi1).2 u hf1 _ _ (hv i1 hi1 hl1) b hb1
            have h4 := hV.2 (by rw [← h2]; exact hf2) b hb2
            omega
          · rw [if_neg h2]
            rw [getD_set_ne true (fun h => h2 h.symm)] at hl2
            exact hdi i1 j1 hi1 hj1 hne hl1 hl2 hf1 hf2 b hb1
    have hdep : ∀ i o, i < n → ops[i]? = some o → i ∈ Region.ready .any ops listed → ∀ e ∈ o.after.toList, Region.binds .any e = true → V e.on u (u e.on) w := fun i o hin ho hi e he hbd => by
      obtain ⟨_, o', ho', hall⟩ := mem_ready.1 hi
      have : o' = o := Option.some.inj (ho'.symm.trans ho)
      subst this
      have h3 := hback i _ e hin ho he hbd
      exact hv _ (by omega) (hlt _ (by omega) (hall e (by simpa using he) hbd))
    cases hF : isE ops i0 with
    | true =>
      unfold isE at hF
      rw [Bool.and_eq_true] at hF
      replace hF := hF.2
      unfold isF at hF
      rw [ho0] at hF
      simp only [Bool.and_eq_true] at hF
      obtain ⟨hfl, hap⟩ := hF
      obtain ⟨hΦ0, v, hv1, hv2⟩ := (hop i0 _ hi0 ho0 u w hw (hdep i0 _ hi0 ho0 hr0)).2 hfl
      have hg : (ops[i0]).guard = none := by
        unfold fl at hfl
        rw [Bool.and_eq_true] at hfl
        exact Option.isNone_iff_eq_none.1 hfl.1
      refine wpAny_first (oi := ops[i0]) (v := v) ho0 (Region.noSelect_spec hsel) (fun c a w h => hQ c a _ v w h) _ listed _ w (fun j oj hj hne hun hno => ?_) hr0 (.inl ⟨by unfold Region.wanted; rw [hg], hv1⟩) (key i0 _ v w hi0 ho0 hr0 ⟨hv2 w, fun h => absurd h (by rw [hΦ0]; exact Bool.false_ne_true)⟩ (St.refl w))
      have hjs : j < ops.size := (Array.getElem?_eq_some_iff.1 hj).1
      have h1 := List.all_eq_true.1 hap j (List.mem_range.2 hjs)
      rw [hj] at h1
      simp only [Bool.or_eq_true, beq_iff_eq] at h1
      rcases h1 with ((h1 | h1) | h1) | h1
      · exact absurd h1 hne
      · obtain ⟨oj', hoj', e, he, hbd, hon⟩ := Region.waitsFor_spec h1
        have : oj' = oj := Option.some.inj (hoj'.symm.trans hj)
        subst this
        exact absurd hon (hno e he hbd)
      · obtain ⟨o', ho', e, he, hbd, hon⟩ := Region.waitsFor_spec h1
        obtain ⟨_, o'', ho'', hall⟩ := mem_ready.1 hr0
        have : o' = o'' := Option.some.inj (ho'.symm.trans ho'')
        subst this
        have h2 := hall e he hbd
        rw [hon, getD_both hun] at h2; cases h2
      · exact h1
    | false =>
      refine ⟨(fun h0 => by rw [h0] at hr0; cases hr0), fun i hi => ?_⟩
      have hin : i < n := by
        rcases Nat.lt_or_ge i n with h | h
        · exact h
        · exact absurd hi (tail_waitsE hs hc hn inv _ i0 rfl hi0 hF hun0 i h)
      obtain ⟨_, o, ho, _⟩ := mem_ready.1 hi
      exact wpOp_of_ok ho (hop i o hin ho u w hw (hdep i o hin ho hi)).1 fun v w' hV hs' => key i o v w' hin ho hi hV hs'
/-- A region that draws its order, by the flow of its data. -/
theorem wp_region_flowE {id : Nat} {Q : Exit → Act → World → Prop} {a0 : Act} {l : List Oper} (n : Nat) (hm : P.follows .mixedOrders = true) (hB : flowEB l.toArray n = true) (hQ : ∀ c a d v w, Q (.panic c) (Act.put a d v) w → Q (.panic c) a w)
    (h : flow P l.toArray w0 (fun u => putAll u 0 (l.take n) a0) (fun a w => wpList P l.toArray Q (l.drop n) a w) 0 (l.take n) (fun _ _ _ _ => True) (fun _ => false)) : (Code.region id l.toArray true).wp P Q a0 w0 := by
  obtain ⟨V, Φ, _, _, h2, h3, h4⟩ := flow_spec _ _ _ _ h
  have hB' := hB
  simp only [flowEB, Bool.and_eq_true, decide_eq_true_eq] at hB'
  obtain ⟨⟨⟨⟨⟨⟨hn, hs⟩, hc⟩, hb⟩, hnd⟩, hseq⟩, hsel⟩ := hB'
  have hn' : n < l.length := by simpa using hn
  have htl : (l.take n).length = n := by simp; omega
  rw [htl, Nat.zero_add] at h2 h4
  refine wp_region_any hm ?_
  obtain ⟨u, hu⟩ := putAll_start (l.take n) 0 a0
  have key := wpAny_of_flowE (P := P) (ops := l.toArray) (w0 := w0) (n := n) (Q := Q) (A := fun u => putAll u 0 (l.take n) a0) (a0 := a0) (V := V) (Φ := Φ) hB (fun u => rfl) hQ (fun j hj => h2 j (Nat.zero_le _) hj)
    (fun j o hj ho => by
      have h5 := (h3 j o (by rw [List.getElem?_take, if_pos hj]; simpa using ho)).1
      rwa [Nat.zero_add] at h5)
    (fun j o hj ho u w hw hd => by
      have h5 := (h3 j o (by rw [List.getElem?_take, if_pos hj]; simpa using ho)).2 (fun e he hbd => by
        have h1 := List.all_eq_true.1 hb j (List.mem_range.2 hj)
        rw [ho] at h1
        have h2 := List.all_eq_true.1 h1 e he
        rw [hbd] at h2
        simpa using h2) u w hw hd
      rwa [Nat.zero_add] at h5)
    (fun u w hw ha hdi => h4 u w hw (allH_of n ha) hdi) (cnt (Array.replicate l.toArray.size false) n) (Array.replicate l.toArray.size false) u { w0 with drawn := w0.drawn + 1 }
    ⟨by simp, fun j oj _ hl => (by rw [getD_replicate_false] at hl; cases hl), fun t _ ht => getD_in (by simpa using ht) (getD_replicate_false _ _)⟩ rfl ((Below.refl _ _).drew)
    (fun j hj hl => by
      have hjs : j < (Array.replicate l.toArray.size false).size := by rw [Array.size_replicate]; omega
      rw [getD_in hjs (getD_replicate_false _ _)] at hl; cases hl)
    (fun i j hi hj hne hl1 => by
      have hjs : i < (Array.replicate l.toArray.size false).size := by rw [Array.size_replicate]; omega
      rw [getD_in hjs (getD_replicate_false _ _)] at hl1; cases hl1)
  have hcn : cnt (Array.replicate l.toArray.size false) n = n := by
    have : ∀ k, k ≤ l.toArray.size → cnt (Array.replicate l.toArray.size false) k = k := by
      intro k
      induction k with
      | zero => intro _; rfl
      | succ k ih =>
        intro hk
        unfold cnt
        rw [ih (by omega), getD_in (by rw [Array.size_replicate]; omega) (getD_replicate_false _ _)]; rfl
    exact this n (by omega)
  rw [hcn] at key
  rw [show n + (l.toArray.size - n) = l.toArray.size by omega] at key
  simp only [hu] at key
  exact key
end
end Gus
end
section
/- gussetlaw19.CgsConjugate. -/
namespace Gus
open Go Go.RowKit Go.Proofs
section
variable {n m j : Nat} {A : Nat → Nat → Rat} {b : Vc} {s0 : Cg}
theorem runD_p {i : Nat} (h : i < j) : (runD n A b s0 j i).p = (s0.at n A i).p := by
  unfold runD stepD
  rw [decide_eq_false (by omega)]; rfl
theorem runD_pl : (runD n A b s0 j j).p = fun _ => 0 := by
  unfold runD stepD
  rw [decide_eq_true rfl]; rfl
theorem CS.zero (n m : Nat) (h : 0 < m) : CS n m m fun _ => 0 := ⟨1, fun _ => 0, by decide, by
    have := Nat.pow_le_pow_right (show 0 < 2 by decide) h
    omega, fun i _ => ⟨Nat.pow_pos (by decide), by show (0 : Rat) * ((1 : Nat) : Rat) = ((0 : Int) : Rat); decide +kernel⟩⟩
end
theorem frac_zero : fracV 0 = .agg #[.int .u64 0, .string ⟨#[]⟩, .bool false, .int .u64 0, .string ⟨#[]⟩] := rfl
end Gus
end
section
/- Energies of a run, as plain arithmetic; sizes for the law of energies. -/
namespace Gus
open Go Go.RowKit Go.Proofs
section
variable {n m j : Nat} {A : Nat → Nat → Rat} {b : Vc} {s0 : Cg}
end
theorem OneS.en {n m : Nat} {A : Nat → Nat → Rat} {b x : Vc} (h : OneS n m A b x) : SzK (9 * m + 3) (en n A b x) := by
  have hn := h.hn; have hm := h.hm
  have h1 : SzK (6 * m) (dt n x (mv n A x)) := (h.hx.dt h.mv3).szk (by omega) (by omega)
  have h2 : SzK (3 * m) (dt n b x) := (h.hb.dt h.hx).szk (by omega) (by omega)
  have h3 : SzK 2 (1 / 2 : Rat) := by constructor <;> decide +kernel
  exact ((h3.mul h1).sub h2).mono (by omega)
end Gus
end
section
/- gussetlaw19.CgsSteps. -/
namespace Gus
open Go Go.RowKit Go.Proofs
theorem dt_zero_left (n : Nat) (v : Vc) : dt n (fun _ => 0) v = 0 := by
  unfold dt
  rw [sm_congr n (G := fun _ => 0) fun _ _ => Rat.zero_mul _, sm_zero]
/-- at the end the direction is zero -/
theorem end_pp {n : Nat} {A : Nat → Nat → Rat} {s0 : Cg} (h0 : s0.p = s0.r) : ∀ {k : Nat}, dt n (s0.at n A k).r (s0.at n A k).r = 0 → dt n (s0.at n A k).p (mv n A (s0.at n A k).p) = 0
  | 0, h => by
    have h1 : ∀ i, i < n → s0.p i = 0 := fun i hi => by rw [h0]; exact dt_self h i hi
    show dt n s0.p (mv n A s0.p) = 0
    rw [dt_congr (u' := fun _ => 0) (v' := mv n A s0.p) h1 (fun _ _ => rfl)]; exact dt_zero_left n _
  | k + 1, h => by
    have h2 : ∀ i, i < n → (s0.at n A (k + 1)).p i = 0 := fun i hi => by
      have h3 := dt_self h i hi
      show axp (dt n (s0.at n A (k + 1)).r (s0.at n A (k + 1)).r / dt n (s0.at n A k).r (s0.at n A k).r) (s0.at n A k).p (s0.at n A (k + 1)).r i = 0
      unfold axp
      rw [h, h3, Rat.div_def, Rat.zero_mul]; grind
    rw [dt_congr (u' := fun _ => 0) (v' := mv n A (s0.at n A (k + 1)).p) h2 (fun _ _ => rfl)]; exact dt_zero_left n _
theorem runD_f {n j i : Nat} {A : Nat → Nat → Rat} {b : Vc} {s0 : Cg} (h : i < j) : (runD n A b s0 j i).far = (s0.at n A i).far n A := by
  unfold runD stepD
  rw [decide_eq_false (by omega)]; rfl
theorem runD_fl {n j : Nat} {A : Nat → Nat → Rat} {b : Vc} {s0 : Cg} : (runD n A b s0 j j).far = 0 := by
  unfold runD stepD
  rw [decide_eq_true rfl]; rfl
/-- what stands where the direction of the step is laid -/
def PgP (z : Bool) (n : Nat) (ppa : Option Addr) (ppk : Nat) (w0 wq wb : World) (Sb Eb Fb : Nat) (cs ce cf : List Value) (ps : List Rat) (v : Value) (wx : World) : Prop := ∃ (pga : Option Addr) (pgk : Nat), v = .slice pga n pgk ∧ (z = false → pga = ppa ∧ pgk = ppk ∧ w0 = wx) ∧ In wq.heap.size wq wx ∧ In wb.heap.size wb wx ∧ Bx wx Sb 30 cs ∧ Bx wx Eb 52 ce ∧ Bx wx Fb 52 cf ∧ VecAt wx (.slice pga n pgk) ps
theorem PgP.mk {z : Bool} {n : Nat} {ppa : Option Addr} {ppk : Nat} {w0 wq wb : World} {Sb Eb Fb : Nat} {cs ce cf : List Value} {ps : List Rat} {pga : Option Addr} {pgk : Nat} {wx : World} (h1 : z = false → pga = ppa ∧ pgk = ppk ∧ w0 = wx) (h2 : In wq.heap.size wq wx) (h3 : In wb.heap.size wb wx) (h4 : Bx wx Sb 30 cs) (h5 : Bx wx Eb 52 ce) (h6 : Bx wx Fb 52 cf) (h7 : VecAt wx (.slice pga n pgk) ps) : PgP z n ppa ppk w0 wq wb Sb Eb Fb cs ce cf ps (.slice pga n pgk) wx := ⟨_, _, rfl, h1, h2, h3, h4, h5, h6, h7⟩
set_option maxRecDepth 100000 in
set_option maxHeartbeats 100000000 in
def steps_ok_q1 : {P : Prop // P → ∀ (w : World) (N : Nat) (_ : N < 256) (la : Option Addr) (lc : Nat) (l : List TQ) (_ : TAt w la l) (_ : TOk l) (_ : l.length ≤ maxLen) (ba sa : Option Addr) (bc sc : Nat) (qb qs : List (Int × Int)) (_ : QAt w ba qb) (_ : QAt w sa qs) (_ : QOk qb) (_ : QOk qs) (_ : qb.length ≤ maxLen) (_ : qs.length ≤ maxLen) (_ : ∃ j, Fin (N % 6) (symA (N % 6) l) (startC (N % 6) (symA (N % 6) l) (mEl qb) (mEl qs)) j), Calls Tryz.prog 3 #[.agg #[.int .u8 N, .slice la l.length lc], .slice ba qb.length bc, .slice sa qs.length sc] w fun e w' => e = .returned (.bool true) ∧ Below w.heap.size w w'} := ⟨_, fun Kcut => by
  replace Kcut : Keep _ := ⟨Kcut⟩
  intro w N hN la lc l hl hok hL ba sa bc sc qb qs hqb hqs hob hos hLb hLs hfin
  ((have cz := cgworks_any); (have hin := In.self w); (obtain ⟨sm, hsm⟩ : ∃ sm, sm = smallT l [qb, qs] := ⟨_, rfl⟩); (obtain ⟨n, hn⟩ : ∃ n, n = N % (5 + 1) := ⟨_, rfl⟩); (have hn5 : n ≤ 5 := by omega); (have HN := Lib.hid hn); (clear hn); (go_enter Tryz.func3, Tryz.ntmps3); (go_upto_region 1 with fail); (skip); (((obtain ⟨S0, hS0⟩ : ∃ z, z = w.heap.size := ⟨_, rfl⟩); (have bS0 := Bx.new_at w #[.int .u8 N, .slice la l.length lc] 24 hS0); (replace hin := hin.alloc (.cells #[.int .u8 N, .slice la l.length lc] 24)); (replace hl := hl.call ((Below.refl _ _).alloc (Nat.le_refl _) (.cells #[.int .u8 N, .slice la l.length lc] 24))); (replace hqb := hqb.call ((Below.refl _ _).alloc (Nat.le_refl _) (.cells #[.int .u8 N, .slice la l.length lc] 24))); (replace hqs := hqs.call ((Below.refl _ _).alloc (Nat.le_refl _) (.cells #[.int .u8 N, .slice la l.length lc] 24))); (rw [← hS0]); (clear hS0); (generalize w.alloc (.cells #[.int .u8 N, .slice la l.length lc] 24) = W1 at *))); (((have s0 := bS0.c0); (have s1 := bS0.c1); (have sl := bS0.lt))); (go_wp2_with fail); (((obtain ⟨V, hV⟩ : ∃ z, z = W1.heap.size := ⟨_, rfl⟩); (have bV := Bx.new_at W1 #[.slice ba qb.length bc, .slice sa qs.length sc] 25 hV); (clear s0 s1 sl); (replace hin := hin.alloc (.cells #[.slice ba qb.length bc, .slice sa qs.length sc] 25)); (replace bS0 := bS0.alloc (.cells #[.slice ba qb.length bc, .slice sa qs.length sc] 25)); (replace hl := hl.call ((Below.refl _ _).alloc (Nat.le_refl _) (.cells #[.slice ba qb.length bc, .slice sa qs.length sc] 25))); (replace hqb := hqb.call ((Below.refl _ _).alloc (Nat.le_refl _) (.cells #[.slice ba qb.length bc, .slice sa qs.length sc] 25))); (replace hqs := hqs.call ((Below.refl _ _).alloc (Nat.le_refl _) (.cells #[.slice ba qb.length bc, .slice sa qs.length sc] 25))); (rw [← hV]); (clear hV); (generalize W1.alloc (.cells #[.slice ba qb.length bc, .slice sa qs.length sc] 25) = W2 at *))); (have c0 := small_any W2 N la lc l (some ⟨V, 0, none⟩) 2 [qb, qs] hl (qs_two bV hqb hqs) hL (by simp) (fun q hq => by simp only [List.mem_cons, List.not_mem_nil, or_false] at hq; rcases hq with rfl | rfl; exact hLb; exact hLs)); (rw [← hsm, show [qb, qs].length = 2 from rfl] at c0); (have HSM := Lib.hid hsm); (clear hsm); (((((with_reducible refine (c0).mono ?_))); (rintro e wc3 ⟨rfl, hb⟩); (clear c0 bV); (replace hin := hin.call hb); (replace hl := hl.call hb); (replace hqb := hqb.call hb); (replace hqs := hqs.call hb); (replace bS0 := bS0.call hb); (clear hb))))
  skip
  rcases sm with _ | _
  · ((go_wp2_with fail); (((with_reducible refine (cz _).mono ?_))); (rintro e wc4 ⟨rfl, hb⟩); (skip); (replace hin := hin.call hb); (replace hl := hl.call hb); (replace hqb := hqb.call hb); (replace hqs := hqs.call hb); (replace bS0 := bS0.call hb); (clear hb))
    go_wp2_with fail
    go_ret
    exact ⟨rfl, hin.bel⟩
  · skip
    ((obtain ⟨h30, hln, hbn, hsn, h12, h12'⟩ := small_split HSM.out.symm); (have hCM : CM n 332 332 (symA n l) := symA_cm hln hok h30); (have hsy := symA_sym n l); (have hRS := sys_runS (n := n) (by omega) hCM hbn hob hsn hos); (have c1 := ssymm_any (j := 10) wc3 N n 5 la lc l hl hok (by omega) hN (by decide) HN.out (fun t ht => (qOf_ss (List.all_eq_true.1 hln t ht) (hok t ht).2.2.2.2.1).szk (Nat.le_refl _) (Nat.le_refl _)) (by decide) (by decide)); (rw [show ((5 : Nat) : Int) = 5 from rfl] at c1); (((have s0 := bS0.c0); (have s1 := bS0.c1); (have sl := bS0.lt))); (go_wp2_with fail); (((with_reducible refine c1.mono ?_))); (rintro e wa ⟨⟨sv, rfl, hS⟩, hb⟩); (clear s0 s1 sl c1 bS0 hl); (replace hin := hin.call hb); (replace hqb := hqb.call hb); (replace hqs := hqs.call hb); (clear hb); (replace hS : SpM wa sv n n (symA n l) := hS.m); (obtain ⟨ra, rk, rfl⟩ := hS.shape); (go_upto_region 4 with fail); (((obtain ⟨Sb, hSb⟩ : ∃ z, z = wa.heap.size := ⟨_, rfl⟩); (have bSb := Bx.new_at wa #[.int .i64 n, .int .i64 n, .slice ra n rk] 30 hSb); (replace hin := hin.alloc (.cells #[.int .i64 n, .int .i64 n, .slice ra n rk] 30)); (replace hqb := hqb.call ((Below.refl _ _).alloc (Nat.le_refl _) (.cells #[.int .i64 n, .int .i64 n, .slice ra n rk] 30))); (replace hqs := hqs.call ((Below.refl _ _).alloc (Nat.le_refl _) (.cells #[.int .i64 n, .int .i64 n, .slice ra n rk] 30))); (replace hS := hS.call ((Below.refl _ _).alloc (Nat.le_refl _) (.cells #[.int .i64 n, .int .i64 n, .slice ra n rk] 30))); (rw [← hSb]); (clear hSb); (generalize wa.alloc (.cells #[.int .i64 n, .int .i64 n, .slice ra n rk] 30) = wS at *))); (have cv1 := fun W (h : In wS.heap.size wS W) => lvec_any W ba bc n qb (hqb.call h.bel) hob (by omega) (by omega)); (have cv2 := fun W (h : In wS.heap.size wS W) => lvec_any W sa sc n qs (hqs.call h.bel) hos (by omega) (by omega)); (((have s0 := bSb.c0); (have s1 := bSb.c1); (have s2 := bSb.c2); (have sl := bSb.lt))))
    have h := In.self wS; have hc := h.cell; have hf := h.frozen; refine wp_region_flow 8 (by kernel_rfl) (by kernel_rfl) (fun _ _ d _ _ h => by cases d <;> exact h) ?_; simp only [List.take_succ_cons, List.take_zero, List.drop_succ_cons, List.drop_zero]; simp only [putAll, Act.put, List.setIfInBounds_toArray, List.set]; (try simp only [Nat.reduceAdd]); (try simp only [Nat.zero_add]); (repeat (first | ((with_reducible refine flow_float (v := ?_) ?_ ?_ ?_); rotate_left 1; (focus (with_reducible rfl)); (focus (intro u w1 hw hd w2; (try simp only [depH] at hd); (try simp only [ext] at hd); (try simp only [extU] at hd); (try simp only [Nat.reduceAdd] at hd); (try simp only [Nat.reduceEqDiff] at hd); (try simp only [reduceIte] at hd); (try simp only [and_true] at hd); (try simp only [true_and] at hd); go_simp; exact rfl))) | ((first | ((with_reducible refine flow_pure0 (v := ?_) ?_ ?_ ?_ ?_); rotate_left 1; (focus (with_reducible rfl)); (focus rfl)) | ((with_reducible refine flow_pureg (v := ?_) (j := ?_) (b := ?_) ?_ ?_ ?_ ?_); rotate_left 3; (focus (with_reducible rfl)); (focus (intro u w1 hw hd; (try simp only [depH] at hd); (try simp only [ext] at hd); (try simp only [extU] at hd); (try simp only [Nat.reduceAdd] at hd); (try simp only [Nat.reduceEqDiff] at hd); (try simp only [reduceIte] at hd); (try simp only [and_true] at hd); (try simp only [true_and] at hd); simp [yielded, hd]; done)))); (focus (intro u w1 hw hd; (try simp only [depH] at hd); (try simp only [ext] at hd); (try simp only [extU] at hd); (try simp only [Nat.reduceAdd] at hd); (try simp only [Nat.reduceEqDiff] at hd); (try simp only [reduceIte] at hd); (try simp only [and_true] at hd); (try simp only [true_and] at hd); have hc' := hw.cell; go_simp; exact rfl))) | ((with_reducible refine flow_skipg (j := ?_) (b := ?_) ?_ ?_ ?_); rotate_left 2; (focus (with_reducible rfl)); (focus (intro u w1 hw hd; (try simp only [depH] at hd); (try simp only [ext] at hd); (try simp only [extU] at hd); (try simp only [Nat.reduceAdd] at hd); (try simp only [Nat.reduceEqDiff] at hd); (try simp only [reduceIte] at hd); (try simp only [and_true] at hd); (try simp only [true_and] at hd); simp [yielded, hd]; done))) | ((with_reducible refine flow_alloc (t := ?_) (zs := ?_) ?_ ?_ ?_ ?_); rotate_left 2; (focus (with_reducible rfl)); (focus rfl); (focus (intro u w1; go_simp; exact rfl)))))
    (with_reducible refine flow_rel (Vi := VcQ (vl n (mEl qb))) false ?_ ?_ ?_ ?_ ?_ ?_); (focus rfl); (focus rfl); (focus exact stable_vcq _); (focus exact placed_false _); (focus (intro u w1 hw hd; (try simp only [depH] at hd); (try simp only [ext] at hd); (try simp only [extU] at hd); (try simp only [Nat.reduceAdd] at hd); (try simp only [Nat.reduceEqDiff] at hd); (try simp only [reduceIte] at hd); (try simp only [and_true] at hd); (try simp only [true_and] at hd); have hc' := hw.cell; go_simp; (try simp only [okUpon]); go_at_call 15; ((with_reducible refine (cv1 _ hw.ins).mono ?_)); rintro e w'' ⟨⟨v, rfl, hv⟩, hb⟩; exact ⟨v, rfl, ⟨hv, fun h => by cases h⟩, hb⟩))
    (repeat (first | ((with_reducible refine flow_float (v := ?_) ?_ ?_ ?_); rotate_left 1; (focus (with_reducible rfl)); (focus (intro u w1 hw hd w2; (try simp only [depH] at hd); (try simp only [ext] at hd); (try simp only [extU] at hd); (try simp only [Nat.reduceAdd] at hd); (try simp only [Nat.reduceEqDiff] at hd); (try simp only [reduceIte] at hd); (try simp only [and_true] at hd); (try simp only [true_and] at hd); go_simp; exact rfl))) | ((first | ((with_reducible refine flow_pure0 (v := ?_) ?_ ?_ ?_ ?_); rotate_left 1; (focus (with_reducible rfl)); (focus rfl)) | ((with_reducible refine flow_pureg (v := ?_) (j := ?_) (b := ?_) ?_ ?_ ?_ ?_); rotate_left 3; (focus (with_reducible rfl)); (focus (intro u w1 hw hd; (try simp only [depH] at hd); (try simp only [ext] at hd); (try simp only [extU] at hd); (try simp only [Nat.reduceAdd] at hd); (try simp only [Nat.reduceEqDiff] at hd); (try simp only [reduceIte] at hd); (try simp only [and_true] at hd); (try simp only [true_and] at hd); simp [yielded, hd]; done)))); (focus (intro u w1 hw hd; (try simp only [depH] at hd); (try simp only [ext] at hd); (try simp only [extU] at hd); (try simp only [Nat.reduceAdd] at hd); (try simp only [Nat.reduceEqDiff] at hd); (try simp only [reduceIte] at hd); (try simp only [and_true] at hd); (try simp only [true_and] at hd); have hc' := hw.cell; go_simp; exact rfl))) | ((with_reducible refine flow_skipg (j := ?_) (b := ?_) ?_ ?_ ?_); rotate_left 2; (focus (with_reducible rfl)); (focus (intro u w1 hw hd; (try simp only [depH] at hd); (try simp only [ext] at hd); (try simp only [extU] at hd); (try simp only [Nat.reduceAdd] at hd); (try simp only [Nat.reduceEqDiff] at hd); (try simp only [reduceIte] at hd); (try simp only [and_true] at hd); (try simp only [true_and] at hd); simp [yielded, hd]; done))) | ((with_reducible refine flow_alloc (t := ?_) (zs := ?_) ?_ ?_ ?_ ?_); rotate_left 2; (focus (with_reducible rfl)); (focus rfl); (focus (intro u w1; go_simp; exact rfl)))))
    (with_reducible refine flow_rel (Vi := VcQ (vl n (mEl qs))) false ?_ ?_ ?_ ?_ ?_ ?_); (focus rfl); (focus rfl); (focus exact stable_vcq _); (focus exact placed_false _); (focus (intro u w1 hw hd; (try simp only [depH] at hd); (try simp only [ext] at hd); (try simp only [extU] at hd); (try simp only [Nat.reduceAdd] at hd); (try simp only [Nat.reduceEqDiff] at hd); (try simp only [reduceIte] at hd); (try simp only [and_true] at hd); (try simp only [true_and] at hd); have hc' := hw.cell; go_simp; (try simp only [okUpon]); go_at_call 15; ((with_reducible refine (cv2 _ hw.ins).mono ?_)); rintro e w'' ⟨⟨v, rfl, hv⟩, hb⟩; exact ⟨v, rfl, ⟨hv, fun h => by cases h⟩, hb⟩))
    (((try clear hc hf h); intro u w' h ha hdi; replace h := h.ins; (try simp only [World.size_alloc] at h); (try dsimp only at ha); (repeat rw [World.size_alloc] at ha); (try simp only [allH] at ha); (try simp only [ext] at ha); (try simp only [extU] at ha); (try simp only [Nat.reduceAdd] at ha); (try simp only [Nat.reduceEqDiff] at ha); (try simp only [reduceIte] at ha); (try simp only [and_true] at ha); (try simp only [true_and] at ha); have hc := h.cell; have hf := h.frozen; have hb := h.bel; clear hdi hc hf; clear s0 s1 s2 sl hqb hqs cv1 cv2; replace hin := hin.call hb; replace hS := hS.call hb; replace bSb := bSb.call hb; clear hb h; rename World => wv); (obtain ⟨⟨⟨⟨⟨⟨⟨h0, h1⟩, h2⟩, hvb⟩, h4⟩, h5⟩, h6⟩, hvx⟩ := ha); (replace hvb := hvb.v); (replace hvx := hvx.v); (obtain ⟨va, vk, hvbe⟩ := hvb.shape); (obtain ⟨xa, xk, hvxe⟩ := hvx.shape); (rw [vl_length] at hvbe hvxe); (rw [hvbe] at hvb); (rw [hvxe] at hvx); ((try dsimp only)); (simp only [hvbe, hvxe]); (clear h0 h1 h2 h4 h5 h6 hvbe hvxe); (obtain ⟨s0, hs0⟩ : ∃ s, s = startC n (symA n l) (mEl qb) (mEl qs) := ⟨_, rfl⟩); (have hs0x : s0.x = mEl qs := by rw [hs0]; rfl); (have hs0r : ∀ i, i < n → s0.r i = mEl qb i - mv n (symA n l) s0.x i := fun i _ => by rw [hs0]; rfl); (have hs0p : s0.p = s0.r := by rw [hs0]; rfl); (rw [← hs0] at hRS); ((try simp only [← hs0] at h5)); (have HS0 := Lib.hid hs0); (clear hs0); (have c3 := from_vl wv _ _ _ hS hsy hvb (by rw [hs0x]; exact hvx) hs0r hs0p hRS); (((have y0 := bSb.c0); (have y1 := bSb.c1); (have y2 := bSb.c2); (have yl := bSb.lt))); (((go_wp2_with fail); (((with_reducible refine (c3).mono ?_))); (rintro e wr ⟨⟨v, rfl, hP⟩, hb⟩); (clear y0 y1 y2 yl c3); (replace hin := hin.call hb); (replace hS := hS.call hb); (replace hvb := hvb.call hb); (replace hvx := hvx.call hb); (replace bSb := bSb.call hb); (clear hb))))
    have HNN : Hid (n * n ≤ 5 * 5) := Lib.hid (Nat.mul_le_mul hn5 hn5)
    rw [← hs0x] at hvx
    obtain ⟨hv, hhv⟩ : ∃ q : Rat, q = ((1 : Int) : Rat) / ((2 : Int) : Rat) := ⟨_, rfl⟩
    have HV : Hid (hv = 1 / 2) := Lib.hid (by rw [hhv]; decide +kernel)
    have c2 := fracOf_any 1 2 (by decide) (by decide) (by decide) (by decide) (by decide)
    rw [← hhv] at c2
    obtain ⟨H1, H2, H3, H4, H5, hH, hH'⟩ : ∃ A1 A2 A3 A4 A5, fracV hv = .agg #[.int .u64 A1, .string A2, .bool A3, .int .u64 A4, .string A5] ∧ fcs hv = [.int .u64 A1, .string A2, .bool A3, .int .u64 A4, .string A5] := ⟨_, _, _, _, _, rfl, rfl⟩
    rw [hH] at c2
    have HH := Lib.hid hH
    clear hhv hH hH'
    skip
    have hfin' : ∃ j, Fin n (symA n l) s0 j := by rw [HS0.out, HN.out]; exact hfin
    obtain ⟨j, d, hF, rfl, hst⟩ : ∃ j d, Fin n (symA n l) s0 j ∧ v = .tuple #[d, .int .i64 0] ∧ StepsAt wr d n (j + 1) (runD n (symA n l) (mEl qb) s0 j) := by
      rcases hP with h | ⟨h, _⟩
      · exact h
      · exact absurd hfin' h
    clear hP
    obtain ⟨b, off, cap, he, hall⟩ := hst.open
    subst he
    clear hst
    have hjn := hF.1
    have HRB := In.self wr
    skip
    skip
    have c6 := left_vl wr _ _ _ hS hsy hvb hvx (hRS.one (k := 0) (Nat.zero_le _))
    ((have y0 := bSb.c0); (have y1 := bSb.c1); (have y2 := bSb.c2); (have yl := bSb.lt))
    ((go_wp2_with fail); (((with_reducible refine (c6).mono ?_))); (rintro e wc7 ⟨⟨rv, rfl, hr⟩, hb⟩); (clear y0 y1 y2 yl c6); (replace hin := hin.call hb); (replace HRB := HRB.call hb); (replace hS := hS.call hb); (replace hvb := hvb.call hb); (replace hvx := hvx.call hb); (replace bSb := bSb.call hb); (clear hb))
    obtain ⟨ra', rk', he⟩ := hr.shape
    rw [vl_length] at he
    subst he
    have c7 := lapply_vl (j := 150000000000) (l := 150000000000) wc7 _ _ _ _ hS hvx (by omega) hRS.hA.szk ((hRS.hs 0 (Nat.zero_le _)).x.szk (Nat.le_refl _) (Nat.le_refl _)) (by decide) (by decide) (by have := HNN.out; omega)
    ((have y0 := bSb.c0); (have y1 := bSb.c1); (have y2 := bSb.c2); (have yl := bSb.lt))
    ((go_wp2_with fail); (((with_reducible refine (c7).mono ?_))); (rintro e wc8 ⟨⟨av, rfl, hav⟩, hb⟩); (clear y0 y1 y2 yl c7); (replace hin := hin.call hb); (replace HRB := HRB.call hb); (replace hS := hS.call hb); (replace hvb := hvb.call hb); (replace hvx := hvx.call hb); (replace hr := hr.call hb); (replace bSb := bSb.call hb); (clear hb))
    obtain ⟨aa', ak', he⟩ := hav.shape
    rw [vl_length] at he
    subst he
    have c8 := vsub_vl (j := 150000000000) (l := 450000000000) wc8 _ _ _ _ hvb hav (by omega) (hRS.hb.szk (Nat.le_refl _) (Nat.le_refl _)) ((hRS.mv3 (hRS.hs 0 (Nat.zero_le _)).x).szk (Nat.le_refl _) (Nat.le_refl _)) (by omega)
    ((go_wp2_with fail); (((with_reducible refine (c8).mono ?_))); (rintro e wc9 ⟨⟨wv', rfl, hw'⟩, hb⟩); (clear c8 hav); (replace hin := hin.call hb); (replace HRB := HRB.call hb); (replace hS := hS.call hb); (replace hvb := hvb.call hb); (replace hvx := hvx.call hb); (replace hr := hr.call hb); (replace bSb := bSb.call hb); (clear hb))
    obtain ⟨wa', wk', he⟩ := hw'.shape
    rw [vl_length] at he
    subst he
    have c9 := vsame_any wc9 _ _ _ _ hr hw' (by rw [vl_length]; omega)
    rw [decide_eq_true rfl] at c9
    ((have y0 := bSb.c0); (have y1 := bSb.c1); (have y2 := bSb.c2); (have yl := bSb.lt))
    skip
    ((go_wp2_with fail); (((with_reducible refine (c9).mono ?_))); (rintro e wb ⟨rfl, hb⟩); (clear y0 y1 y2 yl c9 hw'); (replace hin := hin.call hb); (replace HRB := HRB.call hb); (replace hS := hS.call hb); (replace hvb := hvb.call hb); (replace hvx := hvx.call hb); (replace hr := hr.call hb); (replace bSb := bSb.call hb); (clear hb))
    replace hr : VecAt wb (.slice ra' n rk') (vl n s0.r) := by
      rw [show vl n s0.r = vl n fun i => mEl qb i - mv n (symA n l) s0.x i from vl_congr hs0r]; exact hr
    have hp : VecAt wb (.slice ra' n rk') (vl n s0.p) := by rw [hs0p]; exact hr
    go_wp2_with fail
    go_loopw [12, 16, 17, 18] (fun v12 v16 v17 v18 wq => ∃ (k : Nat) (rv pv xv : Value), k ≤ j ∧ v12 = rv ∧ v16 = pv ∧ v17 = xv ∧ v18 = .int .i64 k ∧ In wb.heap.size wb wq ∧ VecAt wq xv (vl n (s0.at n (symA n l) k).x) ∧ VecAt wq rv (vl n (s0.at n (symA n l) k).r) ∧ VecAt wq pv (vl n (s0.at n (symA n l) k).p) ∧ Hid (∀ i, i < k → dt n (s0.at n (symA n l) i).r (s0.at n (symA n l) i).r ≠ 0 ∧ dt n (s0.at n (symA n l) i).p (mv n (symA n l) (s0.at n (symA n l) i).p) ≠ 0)) (fun _ _ _ v18 _ => n + 2 - (RowKit.intOf v18).toNat)
    case atStart => exact ⟨0, _, _, _, Nat.zero_le _, rfl, rfl, rfl, rfl, In.self _, hvx, hr, hp, Lib.hid fun i hi => absurd hi (Nat.not_lt_zero _)⟩
    case round =>
      rename_i ya0_ ya1_ ya2_ ya3_
      revert w N hN la lc l hok hL ba sa bc sc qb qs hob hos hLb hLs hfin cz n hn5 HN ya0_ S0 W1 V W2 wc3 HSM h30 hln hbn hsn h12 h12' hCM hsy wa ra rk Sb wS u wv va vk xa xk s0 hRS hs0x hs0r hs0p HS0 ya1_ HNN hv HV H1 H2 H3 H4 H5 c2 HH hfin' j hF b off cap hall hjn wc7 ra' rk' wc8 aa' ak' wc9 wa' wk' wb hin HRB hS hvb hvx bSb hr hp ya2_ ya3_ wr u6 u12 u16 u17 u18 u19 u20 u21 u22 u23 u24 u25 u26 u27 u28 u29 u30 u31 u32 u33 u103 u104 u105 u106 u107 u108 u109 u110 u111 u112 u113 u114 u115 u116 u117 u118 u119 u120 u121 u122 u123 u124 u125 u126 u127 u128 u129 u130 u131 u132 u133 u134 u135 u136 u137 u138 u139 u140 u141 u142 u143 u144 u145 u146 u147 u148 u149 u150 u151 u152 u153 u154 u155 u156 u157 u158 u159 u160 u161 u162 u163 u164 u165 u166 u167 u168 u169 u170 u171 u172 u173 u174 u175 u176 u177 u178 u179 u180 u181 u182 u183 u184 u185 u186 u187 u188 u189 u190 u191 u192 u193 u194 u195 u196 u197 u198 u199 u200 u201 u202 u203 u204 u205 u206 u207 u208 u209 u210 u211 u212 u213 u214 u215 u216 u217 u218 u219 u220 u221 u222 u223 u224 u225 u226 u227 u228 u229 u230 u231 u232 u233 u234 u235 u236 u237 u238 u239 u240 u241 u242 u243 u244 u245 u246 u247 u248 u249 u250 u251 u252 u253 u254 u255 u256 u257 u258 u259 u260 u261 u262 u263 u264 u265 u266 u267 u268 u269 u270 u271 u272 u273 hrel
      exact Kcut.out
  ⟩
set_option maxRecDepth 100000 in
set_option maxHeartbeats 100000000 in
def steps_ok_q2 : {P : Prop // P → steps_ok_q1.1} := ⟨_, fun Kcut => by
  replace Kcut : Keep _ := ⟨Kcut⟩
  intro w N hN la lc l hok hL ba sa bc sc qb qs hob hos hLb hLs hfin cz n hn5 HN ya0_ S0 W1 V W2 wc3 HSM h30 hln hbn hsn h12 h12' hCM hsy wa ra rk Sb wS u wv va vk xa xk s0 hRS hs0x hs0r hs0p HS0 ya1_ HNN hv HV H1 H2 H3 H4 H5 c2 HH hfin' j hF b off cap hall hjn wc7 ra' rk' wc8 aa' ak' wc9 wa' wk' wb hin HRB hS hvb hvx bSb hr hp ya2_ ya3_ wr u6 u12 u16 u17 u18 u19 u20 u21 u22 u23 u24 u25 u26 u27 u28 u29 u30 u31 u32 u33 u103 u104 u105 u106 u107 u108 u109 u110 u111 u112 u113 u114 u115 u116 u117 u118 u119 u120 u121 u122 u123 u124 u125 u126 u127 u128 u129 u130 u131 u132 u133 u134 u135 u136 u137 u138 u139 u140 u141 u142 u143 u144 u145 u146 u147 u148 u149 u150 u151 u152 u153 u154 u155 u156 u157 u158 u159 u160 u161 u162 u163 u164 u165 u166 u167 u168 u169 u170 u171 u172 u173 u174 u175 u176 u177 u178 u179 u180 u181 u182 u183 u184 u185 u186 u187 u188 u189 u190 u191 u192 u193 u194 u195 u196 u197 u198 u199 u200 u201 u202 u203 u204 u205 u206 u207 u208 u209 u210 u211 u212 u213 u214 u215 u216 u217 u218 u219 u220 u221 u222 u223 u224 u225 u226 u227 u228 u229 u230 u231 u232 u233 u234 u235 u236 u237 u238 u239 u240 u241 u242 u243 u244 u245 u246 u247 u248 u249 u250 u251 u252 u253 u254 u255 u256 u257 u258 u259 u260 u261 u262 u263 u264 u265 u266 u267 u268 u269 u270 u271 u272 u273 hrel
  rename World => wq
  obtain ⟨k, rv, pv, xv, hk, hrv, hpv, hxv, rfl, hq, hxk, hrk, hpk, HK⟩ := hrel
  obtain ⟨rra, rrk, he⟩ := hrk.shape
  rw [vl_length] at he
  subst he
  obtain ⟨ppa, ppk, he⟩ := hpk.shape
  rw [vl_length] at he
  subst he
  obtain ⟨xxa, xxk, he⟩ := hxk.shape
  rw [vl_length] at he
  subst he
  subst hrv
  subst hpv
  subst hxv

  have hkle := hk
  have hkn : k ≤ n := Nat.le_trans hkle hjn
  have hkI : (k : Int) ≤ (n : Int) := by omega
  have sz := hRS.hs k hkn
  have hSq := hS.call hq.bel
  have hvq := hvb.call hq.bel
  have bq := bSb.call hq.bel
  have hr0 := In.self wq
  have hqr := hq
  have hxkq := hxk
  have hrkq := hrk
  have e14 := vmax_any (j := 150000000000) wq _ (vl n (s0.at n (symA n l) k).r) hrk (by decide) (fun q hq => by
    obtain ⟨i, hi, rfl⟩ := List.mem_map.1 hq
    exact (sz.r.szk (Nat.le_refl _) (Nat.le_refl _)) i (List.mem_range.1 hi)) (by decide) (by rw [vl_length]; omega)
  obtain ⟨z, hz⟩ : ∃ z, z = decide (dt n (s0.at n (symA n l) k).r (s0.at n (symA n l) k).r = 0) := ⟨_, rfl⟩
  have hcmp : ∀ W, (binOp .eql 52 (fracV (maxA (vl n (s0.at n (symA n l) k).r))) (fracV 0)).run Tryz.prog W = .ok (.bool z) W := fun W => by
    rw [fracEq_run, hz, decide_eq_decide.2 (vmax_zero n _)]
  have HZ := Lib.hid hz
  clear hz
  obtain ⟨mz, hmz⟩ : ∃ m, m = maxA (vl n (s0.at n (symA n l) k).r) := ⟨_, rfl⟩
  rw [← hmz] at e14 hcmp
  obtain ⟨Z1, Z2, Z3, Z4, Z5, hZ, hZ'⟩ : ∃ A1 A2 A3 A4 A5, fracV mz = .agg #[.int .u64 A1, .string A2, .bool A3, .int .u64 A4, .string A5] ∧ fcs mz = [.int .u64 A1, .string A2, .bool A3, .int .u64 A4, .string A5] := ⟨_, _, _, _, _, rfl, rfl⟩
  rw [hZ] at e14 hcmp
  replace hcmp : ∀ W, (binOp .eql 52 (.agg #[.int .u64 Z1, .string Z2, .bool Z3, .int .u64 Z4, .string Z5]) (.agg #[.int .u64 0, .string ⟨#[]⟩, .bool false, .int .u64 0, .string ⟨#[]⟩])).run Tryz.prog W = .ok (.bool z) W := hcmp
  clear hmz hZ hZ'
  skip
  ((have y0 := bq.c0); (have y1 := bq.c1); (have y2 := bq.c2); (have yl := bq.lt))
  ((go_wp2_with fail); (((with_reducible refine (e14).mono ?_))); (rintro e wc1 ⟨rfl, hb⟩); (clear y0 y1 y2 yl e14); (replace hr0 := hr0.call hb); (replace hqr := hqr.call hb); (replace hSq := hSq.call hb); (replace hvq := hvq.call hb); (replace hxk := hxk.call hb); (replace hrk := hrk.call hb); (replace hpk := hpk.call hb); (replace bq := bq.call hb); (clear hb))
  have e15 := lapply_vl (j := 150000000000) (l := 150000000000) wc1 _ _ _ _ hSq hpk (by omega) hRS.hA.szk (sz.p.szk (Nat.le_refl _) (Nat.le_refl _)) (by decide) (by decide) (by have := HNN.out; omega)
  ((have y0 := bq.c0); (have y1 := bq.c1); (have y2 := bq.c2); (have yl := bq.lt))
  ((go_wp2_with fail); (((with_reducible refine (e15).mono ?_))); (rintro e wc2 ⟨⟨spv, rfl, hsp⟩, hb⟩); (clear y0 y1 y2 yl e15 hcmp); (replace hr0 := hr0.call hb); (replace hqr := hqr.call hb); (replace hSq := hSq.call hb); (replace hvq := hvq.call hb); (replace hxk := hxk.call hb); (replace hrk := hrk.call hb); (replace hpk := hpk.call hb); (replace bq := bq.call hb); (clear hb))
  obtain ⟨spa, spk, he⟩ := hsp.shape
  rw [vl_length] at he
  subst he
  have e16 := energy_vl wc2 _ _ _ hSq hsy hvq hxk (hRS.one (k := k) hkn)
  obtain ⟨E1, E2, E3, E4, E5, hE, hE'⟩ : ∃ A1 A2 A3 A4 A5, fracV (en n (symA n l) (mEl qb) (s0.at n (symA n l) k).x) = .agg #[.int .u64 A1, .string A2, .bool A3, .int .u64 A4, .string A5] ∧ fcs (en n (symA n l) (mEl qb) (s0.at n (symA n l) k).x) = [.int .u64 A1, .string A2, .bool A3, .int .u64 A4, .string A5] := ⟨_, _, _, _, _, rfl, rfl⟩
  rw [hE] at e16
  have HE := Lib.hid hE
  have HCE := Lib.hid hE'
  clear hE hE'
  ((have y0 := bq.c0); (have y1 := bq.c1); (have y2 := bq.c2); (have yl := bq.lt))
  ((go_wp2_with fail); (((with_reducible refine (e16).mono ?_))); (rintro e wc3 ⟨rfl, hb⟩); (clear y0 y1 y2 yl e16); (replace hr0 := hr0.call hb); (replace hqr := hqr.call hb); (replace hSq := hSq.call hb); (replace hvq := hvq.call hb); (replace hxk := hxk.call hb); (replace hrk := hrk.call hb); (replace hpk := hpk.call hb); (replace hsp := hsp.call hb); (replace bq := bq.call hb); (clear hb))
  go_upto_region 17 with fail
  ((obtain ⟨Eb, hEb⟩ : ∃ z, z = wc3.heap.size := ⟨_, rfl⟩); (have bEb := Bx.new_at wc3 #[.int .u64 E1, .string E2, .bool E3, .int .u64 E4, .string E5] 52 hEb); (replace hr0 := hr0.alloc (.cells #[.int .u64 E1, .string E2, .bool E3, .int .u64 E4, .string E5] 52)); (replace hqr := hqr.alloc (.cells #[.int .u64 E1, .string E2, .bool E3, .int .u64 E4, .string E5] 52)); (replace bq := bq.alloc (.cells #[.int .u64 E1, .string E2, .bool E3, .int .u64 E4, .string E5] 52)); (replace hSq := hSq.call ((Below.refl _ _).alloc (Nat.le_refl _) (.cells #[.int .u64 E1, .string E2, .bool E3, .int .u64 E4, .string E5] 52))); (replace hvq := hvq.call ((Below.refl _ _).alloc (Nat.le_refl _) (.cells #[.int .u64 E1, .string E2, .bool E3, .int .u64 E4, .string E5] 52))); (replace hxk := hxk.call ((Below.refl _ _).alloc (Nat.le_refl _) (.cells #[.int .u64 E1, .string E2, .bool E3, .int .u64 E4, .string E5] 52))); (replace hrk := hrk.call ((Below.refl _ _).alloc (Nat.le_refl _) (.cells #[.int .u64 E1, .string E2, .bool E3, .int .u64 E4, .string E5] 52))); (replace hpk := hpk.call ((Below.refl _ _).alloc (Nat.le_refl _) (.cells #[.int .u64 E1, .string E2, .bool E3, .int .u64 E4, .string E5] 52))); (replace hsp := hsp.call ((Below.refl _ _).alloc (Nat.le_refl _) (.cells #[.int .u64 E1, .string E2, .bool E3, .int .u64 E4, .string E5] 52))); (rw [← hEb]); (clear hEb); (generalize wc3.alloc (.cells #[.int .u64 E1, .string E2, .bool E3, .int .u64 E4, .string E5] 52) = W4 at *))
  ((go_wp2_with fail); (((with_reducible refine (c2 _).mono ?_))); (rintro e wc5 ⟨rfl, hb⟩); (skip); (replace hr0 := hr0.call hb); (replace hqr := hqr.call hb); (replace hSq := hSq.call hb); (replace hvq := hvq.call hb); (replace hxk := hxk.call hb); (replace hrk := hrk.call hb); (replace hpk := hpk.call hb); (replace hsp := hsp.call hb); (replace bq := bq.call hb); (replace bEb := bEb.call hb); (clear hb))
  go_upto_region 18 with fail
  ((obtain ⟨Hb, hHb⟩ : ∃ z, z = wc5.heap.size := ⟨_, rfl⟩); (have bHb := Bx.new_at wc5 #[.int .u64 H1, .string H2, .bool H3, .int .u64 H4, .string H5] 52 hHb); (replace hr0 := hr0.alloc (.cells #[.int .u64 H1, .string H2, .bool H3, .int .u64 H4, .string H5] 52)); (replace hqr := hqr.alloc (.cells #[.int .u64 H1, .string H2, .bool H3, .int .u64 H4, .string H5] 52)); (replace bq := bq.alloc (.cells #[.int .u64 H1, .string H2, .bool H3, .int .u64 H4, .string H5] 52)); (replace bEb := bEb.alloc (.cells #[.int .u64 H1, .string H2, .bool H3, .int .u64 H4, .string H5] 52)); (replace hSq := hSq.call ((Below.refl _ _).alloc (Nat.le_refl _) (.cells #[.int .u64 H1, .string H2, .bool H3, .int .u64 H4, .string H5] 52))); (replace hvq := hvq.call ((Below.refl _ _).alloc (Nat.le_refl _) (.cells #[.int .u64 H1, .string H2, .bool H3, .int .u64 H4, .string H5] 52))); (replace hxk := hxk.call ((Below.refl _ _).alloc (Nat.le_refl _) (.cells #[.int .u64 H1, .string H2, .bool H3, .int .u64 H4, .string H5] 52))); (replace hrk := hrk.call ((Below.refl _ _).alloc (Nat.le_refl _) (.cells #[.int .u64 H1, .string H2, .bool H3, .int .u64 H4, .string H5] 52))); (replace hpk := hpk.call ((Below.refl _ _).alloc (Nat.le_refl _) (.cells #[.int .u64 H1, .string H2, .bool H3, .int .u64 H4, .string H5] 52))); (replace hsp := hsp.call ((Below.refl _ _).alloc (Nat.le_refl _) (.cells #[.int .u64 H1, .string H2, .bool H3, .int .u64 H4, .string H5] 52))); (rw [← hHb]); (clear hHb); (generalize wc5.alloc (.cells #[.int .u64 H1, .string H2, .bool H3, .int .u64 H4, .string H5] 52) = W6 at *))
  have hxax := (sz.x.dt (hRS.mv3 sz.x)).szk (m := 650000000000) (by omega) (by omega)
  have hbx := (hRS.hb.dt sz.x).szk (m := 450000000000) (by omega) (by omega)
  have hsv : SzK 2 hv := by rw [HV.out]; constructor <;> decide +kernel
  have e17 := fun W (h : In W6.heap.size W6 W) => lapply_vl (j := 150000000000) (l := 150000000000) W _ _ _ _ (hSq.call h.bel) (hxk.call h.bel) (by omega) hRS.hA.szk (sz.x.szk (Nat.le_refl _) (Nat.le_refl _)) (by decide) (by decide) (by have := HNN.out; omega)
  have e18 := fun W v (h : In W6.heap.size W6 W) (hv : VcQ (vl n (mv n (symA n l) (s0.at n (symA n l) k).x)) v W) => ldot_vl (j := 150000000000) (l := 450000000000) W _ v _ _ (hxk.call h.bel) hv (by omega) (sz.x.szk (Nat.le_refl _) (Nat.le_refl _)) ((hRS.mv3 sz.x).szk (Nat.le_refl _) (Nat.le_refl _)) (by decide) (by decide) (by omega)
  have e19 := fmul_any (i := 2) (j := 650000000000) hv _ hsv hxax (by omega)
  have e20 := fun W (h : In W6.heap.size W6 W) => ldot_vl (j := 150000000000) (l := 150000000000) W _ _ _ _ (hvq.call h.bel) (hxk.call h.bel) (by omega) (hRS.hb.szk (Nat.le_refl _) (Nat.le_refl _)) (sz.x.szk (Nat.le_refl _) (Nat.le_refl _)) (by decide) (by decide) (by omega)
  have e21 := fsub_any (i := 650000000002) (j := 450000000000) (hv * dt n (s0.at n (symA n l) k).x (mv n (symA n l) (s0.at n (symA n l) k).x)) (dt n (mEl qb) (s0.at n (symA n l) k).x) ((hsv.mul hxax).mono (by omega)) hbx (by omega)
  rw [show hv * dt n (s0.at n (symA n l) k).x (mv n (symA n l) (s0.at n (symA n l) k).x) - dt n (mEl qb) (s0.at n (symA n l) k).x = en n (symA n l) (mEl qb) (s0.at n (symA n l) k).x by rw [HV.out]; rfl, HE.out] at e21
  obtain ⟨q1, hq1⟩ : ∃ q, q = dt n (s0.at n (symA n l) k).x (mv n (symA n l) (s0.at n (symA n l) k).x) := ⟨_, rfl⟩
  obtain ⟨q2, hq2⟩ : ∃ q, q = dt n (mEl qb) (s0.at n (symA n l) k).x := ⟨_, rfl⟩
  simp only [← hq1] at e18
  rw [← hq1] at e19 e21
  simp only [← hq2] at e20
  rw [← hq2] at e21
  clear hq1 hq2 hxax hbx hsv
  obtain ⟨I1, I2, I3, I4, I5, hI, hI'⟩ : ∃ A1 A2 A3 A4 A5, fracV q1 = .agg #[.int .u64 A1, .string A2, .bool A3, .int .u64 A4, .string A5] ∧ fcs q1 = [.int .u64 A1, .string A2, .bool A3, .int .u64 A4, .string A5] := ⟨_, _, _, _, _, rfl, rfl⟩
  obtain ⟨J1, J2, J3, J4, J5, hJ, hJ'⟩ : ∃ A1 A2 A3 A4 A5, fracV q2 = .agg #[.int .u64 A1, .string A2, .bool A3, .int .u64 A4, .string A5] ∧ fcs q2 = [.int .u64 A1, .string A2, .bool A3, .int .u64 A4, .string A5] := ⟨_, _, _, _, _, rfl, rfl⟩
  obtain ⟨L1, L2, L3, L4, L5, hL, hL'⟩ : ∃ A1 A2 A3 A4 A5, fracV (hv * q1) = .agg #[.int .u64 A1, .string A2, .bool A3, .int .u64 A4, .string A5] ∧ fcs (hv * q1) = [.int .u64 A1, .string A2, .bool A3, .int .u64 A4, .string A5] := ⟨_, _, _, _, _, rfl, rfl⟩
  simp only [hI] at e18
  rw [HH.out, hI, hL] at e19
  simp only [hJ] at e20
  rw [hL, hJ] at e21
  clear hI hJ hL hI' hJ' hL'
  ((have g0 := bHb.c0); (have g1 := bHb.c1); (have g2 := bHb.c2); (have g3 := bHb.c3); (have g4 := bHb.c4); (have gl := bHb.lt))
  ((have y0 := bq.c0); (have y1 := bq.c1); (have y2 := bq.c2); (have yl := bq.lt))
  have h := In.self W6; have hc := h.cell; have hf := h.frozen; refine wp_region_flow 12 (by kernel_rfl) (by kernel_rfl) (fun _ _ d _ _ h => by cases d <;> exact h) ?_; simp only [List.take_succ_cons, List.take_zero, List.drop_succ_cons, List.drop_zero]; simp only [putAll, Act.put, List.setIfInBounds_toArray, List.set]; (try simp only [Nat.reduceAdd]); (try simp only [Nat.zero_add]); (repeat (first | ((with_reducible refine flow_float (v := ?_) ?_ ?_ ?_); rotate_left 1; (focus (with_reducible rfl)); (focus (intro u w1 hw hd w2; (try simp only [depH] at hd); (try simp only [ext] at hd); (try simp only [extU] at hd); (try simp only [Nat.reduceAdd] at hd); (try simp only [Nat.reduceEqDiff] at hd); (try simp only [reduceIte] at hd); (try simp only [and_true] at hd); (try simp only [true_and] at hd); go_simp; exact rfl))) | ((first | ((with_reducible refine flow_pure0 (v := ?_) ?_ ?_ ?_ ?_); rotate_left 1; (focus (with_reducible rfl)); (focus rfl)) | ((with_reducible refine flow_pureg (v := ?_) (j := ?_) (b := ?_) ?_ ?_ ?_ ?_); rotate_left 3; (focus (with_reducible rfl)); (focus (intro u w1 hw hd; (try simp only [depH] at hd); (try simp only [ext] at hd); (try simp only [extU] at hd); (try simp only [Nat.reduceAdd] at hd); (try simp only [Nat.reduceEqDiff] at hd); (try simp only [reduceIte] at hd); (try simp only [and_true] at hd); (try simp only [true_and] at hd); simp [yielded, hd]; done)))); (focus (intro u w1 hw hd; (try simp only [depH] at hd); (try simp only [ext] at hd); (try simp only [extU] at hd); (try simp only [Nat.reduceAdd] at hd); (try simp only [Nat.reduceEqDiff] at hd); (try simp only [reduceIte] at hd); (try simp only [and_true] at hd); (try simp only [true_and] at hd); have hc' := hw.cell; go_simp; exact rfl))) | ((with_reducible refine flow_skipg (j := ?_) (b := ?_) ?_ ?_ ?_); rotate_left 2; (focus (with_reducible rfl)); (focus (intro u w1 hw hd; (try simp only [depH] at hd); (try simp only [ext] at hd); (try simp only [extU] at hd); (try simp only [Nat.reduceAdd] at hd); (try simp only [Nat.reduceEqDiff] at hd); (try simp only [reduceIte] at hd); (try simp only [and_true] at hd); (try simp only [true_and] at hd); simp [yielded, hd]; done))) | ((with_reducible refine flow_alloc (t := ?_) (zs := ?_) ?_ ?_ ?_ ?_); rotate_left 2; (focus (with_reducible rfl)); (focus rfl); (focus (intro u w1; go_simp; exact rfl)))))
  (with_reducible refine flow_rel (Vi := VcQ (vl n (mv n (symA n l) (s0.at n (symA n l) k).x))) false ?_ ?_ ?_ ?_ ?_ ?_); (focus rfl); (focus rfl); (focus exact stable_vcq _); (focus exact placed_false _); (focus (intro u w1 hw hd; (try simp only [depH] at hd); (try simp only [ext] at hd); (try simp only [extU] at hd); (try simp only [Nat.reduceAdd] at hd); (try simp only [Nat.reduceEqDiff] at hd); (try simp only [reduceIte] at hd); (try simp only [and_true] at hd); (try simp only [true_and] at hd); have hc' := hw.cell; go_simp; (try simp only [okUpon]); go_at_call 19; ((with_reducible refine (e17 _ hw.ins).mono ?_)); rintro e w'' ⟨⟨v, rfl, hv⟩, hb⟩; exact ⟨v, rfl, ⟨hv, fun h => by cases h⟩, hb⟩))
  (with_reducible refine flow_pure0 (v := .agg #[.int .u64 I1, .string I2, .bool I3, .int .u64 I4, .string I5]) ?_ ?_ ?_ ?_); (focus (with_reducible rfl)); (focus rfl); (focus (intro u w1 hw hd; (try simp only [depH] at hd); (try simp only [ext] at hd); (try simp only [extU] at hd); (try simp only [Nat.reduceAdd] at hd); (try simp only [Nat.reduceEqDiff] at hd); (try simp only [reduceIte] at hd); (try simp only [and_true] at hd); (try simp only [true_and] at hd); obtain ⟨hd1, hd2⟩ := hd; have hc' := hw.cell; go_simp; go_at_call 26; ((with_reducible refine (e18 _ _ hw.ins hd2.1).mono ?_)); rintro e w'' ⟨rfl, hb⟩; exact ⟨rfl, hb⟩))
  (repeat (first | ((with_reducible refine flow_float (v := ?_) ?_ ?_ ?_); rotate_left 1; (focus (with_reducible rfl)); (focus (intro u w1 hw hd w2; (try simp only [depH] at hd); (try simp only [ext] at hd); (try simp only [extU] at hd); (try simp only [Nat.reduceAdd] at hd); (try simp only [Nat.reduceEqDiff] at hd); (try simp only [reduceIte] at hd); (try simp only [and_true] at hd); (try simp only [true_and] at hd); go_simp; exact rfl))) | ((first | ((with_reducible refine flow_pure0 (v := ?_) ?_ ?_ ?_ ?_); rotate_left 1; (focus (with_reducible rfl)); (focus rfl)) | ((with_reducible refine flow_pureg (v := ?_) (j := ?_) (b := ?_) ?_ ?_ ?_ ?_); rotate_left 3; (focus (with_reducible rfl)); (focus (intro u w1 hw hd; (try simp only [depH] at hd); (try simp only [ext] at hd); (try simp only [extU] at hd); (try simp only [Nat.reduceAdd] at hd); (try simp only [Nat.reduceEqDiff] at hd); (try simp only [reduceIte] at hd); (try simp only [and_true] at hd); (try simp only [true_and] at hd); simp [yielded, hd]; done)))); (focus (intro u w1 hw hd; (try simp only [depH] at hd); (try simp only [ext] at hd); (try simp only [extU] at hd); (try simp only [Nat.reduceAdd] at hd); (try simp only [Nat.reduceEqDiff] at hd); (try simp only [reduceIte] at hd); (try simp only [and_true] at hd); (try simp only [true_and] at hd); have hc' := hw.cell; first | (go_simp; exact rfl) | (go_simp; go_at_call 25; ((with_reducible refine (e19 _).mono ?_)); rintro e w'' ⟨rfl, hb⟩; refine ⟨?_, hb⟩; exact rfl) | (go_simp; go_at_call 26; ((with_reducible refine (e20 _ hw.ins).mono ?_)); rintro e w'' ⟨rfl, hb⟩; refine ⟨?_, hb⟩; exact rfl) | (go_simp; go_at_call 24; ((with_reducible refine (e21 _).mono ?_)); rintro e w'' ⟨rfl, hb⟩; refine ⟨?_, hb⟩; exact rfl)))) | ((with_reducible refine flow_skipg (j := ?_) (b := ?_) ?_ ?_ ?_); rotate_left 2; (focus (with_reducible rfl)); (focus (intro u w1 hw hd; (try simp only [depH] at hd); (try simp only [ext] at hd); (try simp only [extU] at hd); (try simp only [Nat.reduceAdd] at hd); (try simp only [Nat.reduceEqDiff] at hd); (try simp only [reduceIte] at hd); (try simp only [and_true] at hd); (try simp only [true_and] at hd); simp [yielded, hd]; done))) | ((with_reducible refine flow_alloc (t := ?_) (zs := ?_) ?_ ?_ ?_ ?_); rotate_left 2; (focus (with_reducible rfl)); (focus rfl); (focus (intro u w1; go_simp; exact rfl)))))
  (try clear hc hf h); intro u w' h ha hdi; replace h := h.ins; (try simp only [World.size_alloc] at h); (try dsimp only at ha); (repeat rw [World.size_alloc] at ha); (try simp only [allH] at ha); (try simp only [ext] at ha); (try simp only [extU] at ha); (try simp only [Nat.reduceAdd] at ha); (try simp only [Nat.reduceEqDiff] at ha); (try simp only [reduceIte] at ha); (try simp only [and_true] at ha); (try simp only [true_and] at ha); have hc := h.cell; have hf := h.frozen; clear hdi hc hf; rename World => wf
  clear e17 e18 e19 e20 e21
  obtain ⟨ha, Wb, hu, hWb, bWb⟩ := ha
  (try dsimp only)
  simp only [ha, hu]
  clear ha hu
  ((have p0 := bWb.c0); (have p1 := bWb.c1); (have p2 := bWb.c2); (have p3 := bWb.c3); (have p4 := bWb.c4); (have pf0 := bWb.frozen 0); (have pf1 := bWb.frozen 1); (have pf2 := bWb.frozen 2); (have pf3 := bWb.frozen 3); (have pf4 := bWb.frozen 4); (have pl := bWb.lt); (have KS := Lib.hid (((((bWb.set 0 (.int .u64 E1)).set 1 (.string E2)).set 2 (.bool E3)).set 3 (.int .u64 E4)).set 4 (.string E5))); (have KH := Lib.hid (((((h.setCell (p := ⟨Wb, 0, none⟩) (by first | exact hWb | (simp; omega)) (.int .u64 E1)).setCell (p := ⟨Wb, 1, none⟩) (by first | exact hWb | (simp; omega)) (.string E2)).setCell (p := ⟨Wb, 2, none⟩) (by first | exact hWb | (simp; omega)) (.bool E3)).setCell (p := ⟨Wb, 3, none⟩) (by first | exact hWb | (simp; omega)) (.int .u64 E4)).setCell (p := ⟨Wb, 4, none⟩) (by first | exact hWb | (simp; omega)) (.string E5))); (clear h bWb); (go_upto_region 19 with fail); (have hb := KH.out.bel); (have bWb := KS.out); (simp only [List.set] at bWb); (clear g0 g1 g2 g3 g4 gl y0 y1 y2 yl bHb); (replace hr0 := hr0.call hb); (replace hqr := hqr.call hb); (replace hSq := hSq.call hb); (replace hvq := hvq.call hb); (replace hxk := hxk.call hb); (replace hrk := hrk.call hb); (replace hpk := hpk.call hb); (replace hsp := hsp.call hb); (replace bq := bq.call hb); (replace bEb := bEb.call hb); (clear KS KH hb pl p0 p1 p2 p3 p4 pf0 pf1 pf2 pf3 pf4); (generalize ((((wf.setCell ⟨Wb, 0, none⟩ (.int .u64 E1)).setCell ⟨Wb, 1, none⟩ (.string E2)).setCell ⟨Wb, 2, none⟩ (.bool E3)).setCell ⟨Wb, 3, none⟩ (.int .u64 E4)).setCell ⟨Wb, 4, none⟩ (.string E5) = W7 at *))
  ((have m0 := bEb.c0); (have m1 := bEb.c1); (have m2 := bEb.c2); (have m3 := bEb.c3); (have m4 := bEb.c4); (have ml := bEb.lt))
  ((have g0 := bWb.c0); (have g1 := bWb.c1); (have g2 := bWb.c2); (have g3 := bWb.c3); (have g4 := bWb.c4); (have gl := bWb.lt))
  go_upto_region 21 with fail
  clear m0 m1 m2 m3 m4 ml g0 g1 g2 g3 g4 gl bWb
  rename_i yb0_ yb1_ yb2_ yb3_ yb4_ yb5_ yb6_
  revert w N hN la lc l hok hL ba sa bc sc qb qs hob hos hLb hLs hfin cz n hn5 HN ya0_ S0 W1 V W2 yb0_ HSM h30 hln hbn hsn h12 h12' hCM hsy wa ra rk Sb wS yb1_ wv va vk xa xk s0 hRS hs0x hs0r hs0p HS0 ya1_ HNN hv HV H1 H2 H3 H4 H5 c2 HH hfin' j hF b off cap hall hjn wc7 ra' rk' wc8 aa' ak' wc9 wa' wk' wb hin HRB hS hvb hvx bSb hr hp ya2_ ya3_ wq u6 u19 u20 u21 u22 u23 u24 u25 u26 u27 u28 u29 u30 u31 u32 u33 u103 u104 u105 u106 u107 u108 u109 u110 u111 u112 u113 u114 u115 u116 u117 u118 u119 u120 u121 u122 u123 u124 u125 u126 u127 u128 u129 u130 u131 u132 u133 u134 u135 u136 u137 u138 u139 u140 u141 u142 u143 u144 u145 u146 u147 u148 u149 u150 u151 u152 u153 u154 u155 u156 u157 u158 u159 u160 u161 u162 u163 u164 u165 u166 u167 u168 u169 u170 u171 u172 u173 u174 u175 u176 u177 u178 u179 u180 u181 u182 u183 u184 u185 u186 u187 u188 u189 u190 u191 u192 u193 u194 u195 u196 u197 u198 u199 u200 u201 u202 u203 u204 u205 u206 u207 u208 u209 u210 u211 u212 u213 u214 u215 u216 u217 u218 u219 u220 u221 u222 u223 u224 u225 u226 u227 u228 u229 u230 u231 u232 u233 u234 u235 u236 u237 u238 u239 u240 u241 u242 u243 u244 u245 u246 u247 u248 u249 u250 u251 u252 u253 u254 u255 u256 u257 u258 u259 u260 u261 u262 u263 u264 u265 u266 u267 u268 u269 u270 u271 u272 u273 k hk hq HK rra rrk ppa ppk xxa xxk hkle hkn hkI sz hxkq hrkq z HZ mz Z1 Z2 Z3 Z4 Z5 yb2_ yb3_ yb4_ wc1 wc2 spa spk E1 E2 E3 E4 E5 HE HCE wc3 Eb W4 wc5 Hb W6 q1 q2 I1 I2 I3 I4 I5 J1 J2 J3 J4 J5 L1 L2 L3 L4 L5 u wf Wb hWb W7 hr0 hqr hSq hvq hxk hrk hpk hsp bq bEb yb5_ yb6_
  exact Kcut.out
  ⟩
set_option maxRecDepth 100000 in
set_option maxHeartbeats 100000000 in
def steps_ok_q3 : {P : Prop // P → steps_ok_q2.1} := ⟨_, fun Kcut => by
  replace Kcut : Keep _ := ⟨Kcut⟩
  intro w N hN la lc l hok hL ba sa bc sc qb qs hob hos hLb hLs hfin cz n hn5 HN ya0_ S0 W1 V W2 yb0_ HSM h30 hln hbn hsn h12 h12' hCM hsy wa ra rk Sb wS yb1_ wv va vk xa xk s0 hRS hs0x hs0r hs0p HS0 ya1_ HNN hv HV H1 H2 H3 H4 H5 c2 HH hfin' j hF b off cap hall hjn wc7 ra' rk' wc8 aa' ak' wc9 wa' wk' wb hin HRB hS hvb hvx bSb hr hp ya2_ ya3_ wq u6 u19 u20 u21 u22 u23 u24 u25 u26 u27 u28 u29 u30 u31 u32 u33 u103 u104 u105 u106 u107 u108 u109 u110 u111 u112 u113 u114 u115 u116 u117 u118 u119 u120 u121 u122 u123 u124 u125 u126 u127 u128 u129 u130 u131 u132 u133 u134 u135 u136 u137 u138 u139 u140 u141 u142 u143 u144 u145 u146 u147 u148 u149 u150 u151 u152 u153 u154 u155 u156 u157 u158 u159 u160 u161 u162 u163 u164 u165 u166 u167 u168 u169 u170 u171 u172 u173 u174 u175 u176 u177 u178 u179 u180 u181 u182 u183 u184 u185 u186 u187 u188 u189 u190 u191 u192 u193 u194 u195 u196 u197 u198 u199 u200 u201 u202 u203 u204 u205 u206 u207 u208 u209 u210 u211 u212 u213 u214 u215 u216 u217 u218 u219 u220 u221 u222 u223 u224 u225 u226 u227 u228 u229 u230 u231 u232 u233 u234 u235 u236 u237 u238 u239 u240 u241 u242 u243 u244 u245 u246 u247 u248 u249 u250 u251 u252 u253 u254 u255 u256 u257 u258 u259 u260 u261 u262 u263 u264 u265 u266 u267 u268 u269 u270 u271 u272 u273 k hk hq HK rra rrk ppa ppk xxa xxk hkle hkn hkI sz hxkq hrkq z HZ mz Z1 Z2 Z3 Z4 Z5 yb2_ yb3_ yb4_ wc1 wc2 spa spk E1 E2 E3 E4 E5 HE HCE wc3 Eb W4 wc5 Hb W6 q1 q2 I1 I2 I3 I4 I5 J1 J2 J3 J4 J5 L1 L2 L3 L4 L5 u wf Wb hWb W7 hr0 hqr hSq hvq hxk hrk hpk hsp bq bEb yb5_ yb6_
  have e22 := ldot_vl (j := 150000000000) (l := 150000000000) W7 _ _ _ _ hrk hrk (by omega) (sz.r.szk (Nat.le_refl _) (Nat.le_refl _)) (sz.r.szk (Nat.le_refl _) (Nat.le_refl _)) (by decide) (by decide) (by omega)
  obtain ⟨R1, R2, R3, R4, R5, hR, hR'⟩ : ∃ A1 A2 A3 A4 A5, fracV (dt n (s0.at n (symA n l) k).r (s0.at n (symA n l) k).r) = .agg #[.int .u64 A1, .string A2, .bool A3, .int .u64 A4, .string A5] ∧ fcs (dt n (s0.at n (symA n l) k).r (s0.at n (symA n l) k).r) = [.int .u64 A1, .string A2, .bool A3, .int .u64 A4, .string A5] := ⟨_, _, _, _, _, rfl, rfl⟩
  rw [hR] at e22
  have HR := Lib.hid hR
  clear hR hR'
  ((go_wp2_with fail); (((with_reducible refine (e22).mono ?_))); (rintro e wc8 ⟨rfl, hb⟩); (clear e22); (replace hr0 := hr0.call hb); (replace hqr := hqr.call hb); (replace hSq := hSq.call hb); (replace hvq := hvq.call hb); (replace hxk := hxk.call hb); (replace hrk := hrk.call hb); (replace hpk := hpk.call hb); (replace hsp := hsp.call hb); (replace bq := bq.call hb); (replace bEb := bEb.call hb); (clear hb))
  have e23 := ldot_vl (j := 150000000000) (l := 450000000000) wc8 _ _ _ _ hpk hsp (by omega) (sz.p.szk (Nat.le_refl _) (Nat.le_refl _)) ((hRS.mv3 sz.p).szk (Nat.le_refl _) (Nat.le_refl _)) (by decide) (by decide) (by omega)
  have hzkj : z = decide (k = j) := by
    rw [HZ.out]
    by_cases h : k < j
    · rw [decide_eq_false (hF.2.2 k h).1, decide_eq_false (by omega)]
    · obtain rfl : k = j := by omega
      rw [decide_eq_true hF.2.1, decide_eq_true rfl]
  have HZJ := Lib.hid hzkj
  have HZK : Hid (((k : Int) == j) = z) := Lib.hid (by
    rw [hzkj]
    by_cases h : k = j
    · subst h; simp
    · have : ¬ (k : Int) = j := by omega
      simp [h, this])
  clear hzkj
  obtain ⟨G1, G2, G3, G4, G5, hG, hG'⟩ : ∃ A1 A2 A3 A4 A5, fracV (dt n (s0.at n (symA n l) k).p (mv n (symA n l) (s0.at n (symA n l) k).p)) = .agg #[.int .u64 A1, .string A2, .bool A3, .int .u64 A4, .string A5] ∧ fcs (dt n (s0.at n (symA n l) k).p (mv n (symA n l) (s0.at n (symA n l) k).p)) = [.int .u64 A1, .string A2, .bool A3, .int .u64 A4, .string A5] := ⟨_, _, _, _, _, rfl, rfl⟩
  rw [hG] at e23
  ((go_wp2_with fail); (((with_reducible refine (e23).mono ?_))); (rintro e wc9 ⟨rfl, hb⟩); (clear e23); (replace hr0 := hr0.call hb); (replace hqr := hqr.call hb); (replace hSq := hSq.call hb); (replace hvq := hvq.call hb); (replace hxk := hxk.call hb); (replace hrk := hrk.call hb); (replace hpk := hpk.call hb); (replace hsp := hsp.call hb); (replace bq := bq.call hb); (replace bEb := bEb.call hb); (clear hb))
  obtain ⟨hh, e24, hhz⟩ : ∃ hh : Int, (∀ W, Calls Tryz.prog 27 #[fracV (dt n (s0.at n (symA n l) k).r (s0.at n (symA n l) k).r), fracV (dt n (s0.at n (symA n l) k).p (mv n (symA n l) (s0.at n (symA n l) k).p))] W fun e w' => e = .returned (.tuple #[fracV (runD n (symA n l) (mEl qb) s0 j k).far, .int .i64 hh]) ∧ Below W.heap.size W w') ∧ (z = false → hh = 0) := by
    by_cases h : k < j
    · exact ⟨0, fun W => by rw [runD_f h]; exact run_far hRS hkn (hF.2.2 k h).2 W, fun _ => rfl⟩
    · obtain rfl : k = j := by omega
      exact ⟨5, fun W => by rw [runD_fl, end_pp (A := symA n l) hs0p hF.2.1]; exact fdiv_zero _ W, fun h => by rw [HZ.out, decide_eq_true hF.2.1] at h; cases h⟩
  rw [HR.out, hG] at e24
  obtain ⟨F1, F2, F3, F4, F5, hFx, hFy⟩ : ∃ A1 A2 A3 A4 A5, fracV (runD n (symA n l) (mEl qb) s0 j k).far = .agg #[.int .u64 A1, .string A2, .bool A3, .int .u64 A4, .string A5] ∧ fcs (runD n (symA n l) (mEl qb) s0 j k).far = [.int .u64 A1, .string A2, .bool A3, .int .u64 A4, .string A5] := ⟨_, _, _, _, _, rfl, rfl⟩
  simp only [hFx] at e24
  clear hG hG'
  have HF := Lib.hid hFx
  have HCF := Lib.hid hFy
  clear hFx hFy
  ((go_wp2_with fail); (((with_reducible refine (e24 _).mono ?_))); (rintro e wc10 ⟨rfl, hb⟩); (clear e24); (replace hr0 := hr0.call hb); (replace hqr := hqr.call hb); (replace hSq := hSq.call hb); (replace hvq := hvq.call hb); (replace hxk := hxk.call hb); (replace hrk := hrk.call hb); (replace hpk := hpk.call hb); (replace hsp := hsp.call hb); (replace bq := bq.call hb); (replace bEb := bEb.call hb); (clear hb))
  go_upto_region 22 with fail
  ((obtain ⟨Fb, hFb⟩ : ∃ z, z = wc10.heap.size := ⟨_, rfl⟩); (have bFb := Bx.new_at wc10 #[.int .u64 F1, .string F2, .bool F3, .int .u64 F4, .string F5] 52 hFb); (have hFF : Eb < Fb ∧ Sb < Fb ∧ wq.heap.size ≤ Fb ∧ wb.heap.size ≤ Fb := by rw [hFb]; exact ⟨bEb.lt, bq.lt, hr0.siz, hqr.siz⟩); (replace hr0 := hr0.alloc (.cells #[.int .u64 F1, .string F2, .bool F3, .int .u64 F4, .string F5] 52)); (replace hqr := hqr.alloc (.cells #[.int .u64 F1, .string F2, .bool F3, .int .u64 F4, .string F5] 52)); (replace bq := bq.alloc (.cells #[.int .u64 F1, .string F2, .bool F3, .int .u64 F4, .string F5] 52)); (replace bEb := bEb.alloc (.cells #[.int .u64 F1, .string F2, .bool F3, .int .u64 F4, .string F5] 52)); (replace hSq := hSq.call ((Below.refl _ _).alloc (Nat.le_refl _) (.cells #[.int .u64 F1, .string F2, .bool F3, .int .u64 F4, .string F5] 52))); (replace hvq := hvq.call ((Below.refl _ _).alloc (Nat.le_refl _) (.cells #[.int .u64 F1, .string F2, .bool F3, .int .u64 F4, .string F5] 52))); (replace hxk := hxk.call ((Below.refl _ _).alloc (Nat.le_refl _) (.cells #[.int .u64 F1, .string F2, .bool F3, .int .u64 F4, .string F5] 52))); (replace hrk := hrk.call ((Below.refl _ _).alloc (Nat.le_refl _) (.cells #[.int .u64 F1, .string F2, .bool F3, .int .u64 F4, .string F5] 52))); (replace hpk := hpk.call ((Below.refl _ _).alloc (Nat.le_refl _) (.cells #[.int .u64 F1, .string F2, .bool F3, .int .u64 F4, .string F5] 52))); (replace hsp := hsp.call ((Below.refl _ _).alloc (Nat.le_refl _) (.cells #[.int .u64 F1, .string F2, .bool F3, .int .u64 F4, .string F5] 52))); (rw [← hFb]); (clear hFb); (generalize wc10.alloc (.cells #[.int .u64 F1, .string F2, .bool F3, .int .u64 F4, .string F5] 52) = W11 at *))
  obtain ⟨hF1, hF2, hF3, hF4⟩ := hFF
  go_cut [160] from 155 to 160 (fun v160 wx => v160 = .bool false ∧ W11 = wx)
  case first =>
    rcases z with _ | _
    · obtain rfl := hhz rfl
      go_wp2_with fail
      go_meet
      exact ⟨rfl, rfl⟩
    · go_wp2_with fail
      go_meet
      exact ⟨rfl, rfl⟩
  case rest =>
    obtain ⟨rfl, rfl⟩ := hcut
    go_upto_if 166 with fail
    have HSP := Lib.hid hsp
    have HPK := Lib.hid hpk
    have HXK := Lib.hid hxk
    have HRK := Lib.hid hrk
    go_cut [16] (PgP z n ppa ppk W11 wq wb Sb Eb Fb [.int .i64 n, .int .i64 n, .slice ra n rk] [.int .u64 E1, .string E2, .bool E3, .int .u64 E4, .string E5] [.int .u64 F1, .string F2, .bool F3, .int .u64 F4, .string F5] (vl n (runD n (symA n l) (mEl qb) s0 j k).p))
    case first =>
      skip
      by_cases hkj : k < j
      · obtain rfl : z = false := by rw [HZJ.out]; exact decide_eq_false (by omega)
        obtain rfl := hhz rfl
        go_wp2_with fail
        go_meet
        exact PgP.mk (fun _ => ⟨rfl, rfl, rfl⟩) hr0 hqr bq bEb bFb (by rw [runD_p hkj]; exact HPK.out)
      · skip
        obtain rfl : k = j := by omega
        obtain rfl : z = true := by rw [HZJ.out]; exact decide_eq_true rfl
        have h0 : ([.int .u64 0, .string ⟨#[]⟩, .bool false, .int .u64 0, .string ⟨#[]⟩] : List Value) = [.int .u64 F1, .string F2, .bool F3, .int .u64 F4, .string F5] := by
          have h := HCF.out
          rw [runD_fl] at h
          exact h
        simp only [List.cons.injEq, Value.int.injEq, Value.string.injEq, Value.bool.injEq, true_and, and_true] at h0
        obtain ⟨rfl, rfl, rfl, rfl, rfl⟩ := h0
        clear hsp hSq hvq hxk hrk hpk
        ((have g0 := bFb.c0); (have g1 := bFb.c1); (have g2 := bFb.c2); (have g3 := bFb.c3); (have g4 := bFb.c4); (have gl := bFb.lt))
        go_upto_region 25 with fail
        skip
        ((clear g0 g1 g2 g3 g4 gl); (have p0 := bFb.c0); (have p1 := bFb.c1); (have p2 := bFb.c2); (have p3 := bFb.c3); (have p4 := bFb.c4); (have pf0 := bFb.frozen 0); (have pf1 := bFb.frozen 1); (have pf2 := bFb.frozen 2); (have pf3 := bFb.frozen 3); (have pf4 := bFb.frozen 4); (have pl := bFb.lt); (have KS := Lib.hid (((((bFb.set 0 (.int .u64 0)).set 1 (.string ⟨#[]⟩)).set 2 (.bool false)).set 3 (.int .u64 0)).set 4 (.string ⟨#[]⟩))); (have Khr0 := Lib.hid (((((hr0.setCell (p := ⟨Fb, 0, none⟩) (by first | exact hF3 | exact hF4) (.int .u64 0)).setCell (p := ⟨Fb, 1, none⟩) (by first | exact hF3 | exact hF4) (.string ⟨#[]⟩)).setCell (p := ⟨Fb, 2, none⟩) (by first | exact hF3 | exact hF4) (.bool false)).setCell (p := ⟨Fb, 3, none⟩) (by first | exact hF3 | exact hF4) (.int .u64 0)).setCell (p := ⟨Fb, 4, none⟩) (by first | exact hF3 | exact hF4) (.string ⟨#[]⟩))); (have Khqr := Lib.hid (((((hqr.setCell (p := ⟨Fb, 0, none⟩) (by first | exact hF3 | exact hF4) (.int .u64 0)).setCell (p := ⟨Fb, 1, none⟩) (by first | exact hF3 | exact hF4) (.string ⟨#[]⟩)).setCell (p := ⟨Fb, 2, none⟩) (by first | exact hF3 | exact hF4) (.bool false)).setCell (p := ⟨Fb, 3, none⟩) (by first | exact hF3 | exact hF4) (.int .u64 0)).setCell (p := ⟨Fb, 4, none⟩) (by first | exact hF3 | exact hF4) (.string ⟨#[]⟩))); (have Kbq := Lib.hid (Bx.other (a := ⟨Fb, 4, none⟩) (Bx.other (a := ⟨Fb, 3, none⟩) (Bx.other (a := ⟨Fb, 2, none⟩) (Bx.other (a := ⟨Fb, 1, none⟩) (Bx.other (a := ⟨Fb, 0, none⟩) bq (by simp; omega) (.int .u64 0)) (by simp; omega) (.string ⟨#[]⟩)) (by simp; omega) (.bool false)) (by simp; omega) (.int .u64 0)) (by simp; omega) (.string ⟨#[]⟩))); (have KbEb := Lib.hid (Bx.other (a := ⟨Fb, 4, none⟩) (Bx.other (a := ⟨Fb, 3, none⟩) (Bx.other (a := ⟨Fb, 2, none⟩) (Bx.other (a := ⟨Fb, 1, none⟩) (Bx.other (a := ⟨Fb, 0, none⟩) bEb (by simp; omega) (.int .u64 0)) (by simp; omega) (.string ⟨#[]⟩)) (by simp; omega) (.bool false)) (by simp; omega) (.int .u64 0)) (by simp; omega) (.string ⟨#[]⟩))); (clear bFb hr0 hqr bq bEb); (go_upto_region 26 with fail); (have bFb := KS.out); (simp only [List.set] at bFb); (have hr0 := Khr0.out); (have hqr := Khqr.out); (have bq := Kbq.out); (have bEb := KbEb.out); (clear KS pl Khr0 Khqr Kbq KbEb p0 p1 p2 p3 p4 pf0 pf1 pf2 pf3 pf4); (generalize ((((W11.setCell ⟨Fb, 0, none⟩ (.int .u64 0)).setCell ⟨Fb, 1, none⟩ (.string ⟨#[]⟩)).setCell ⟨Fb, 2, none⟩ (.bool false)).setCell ⟨Fb, 3, none⟩ (.int .u64 0)).setCell ⟨Fb, 4, none⟩ (.string ⟨#[]⟩) = W25 at *))
        have hmk := mk_vec n (by omega) W25
        ((have y0 := bq.c0); (have y1 := bq.c1); (have y2 := bq.c2); (have yl := bq.lt))
        have hal : Below W25.heap.size W25 (W25.alloc (.cells (fcl (List.replicate n 0)).toArray 52)) := (Below.refl _ _).alloc (Nat.le_refl _) _
        have K1 := Lib.hid (hr0.call hal)
        have K2 := Lib.hid (hqr.call hal)
        have K3 := Lib.hid (bq.call hal)
        have K4 := Lib.hid (bEb.call hal)
        have K5 := Lib.hid (bFb.call hal)
        have K6 : Hid (VecAt (W25.alloc (.cells (fcl (List.replicate n 0)).toArray 52)) (.slice (some ⟨W25.heap.size, 0, none⟩) n n) (vl n fun _ => 0)) := Lib.hid (by
          rw [vl_zero]; exact (VBx.made W25 n).at n (by simp) n)
        clear hal hr0 hqr bq bEb bFb
        go_wp2_with fail
        go_meet
        exact PgP.mk (fun h => by cases h) K1.out K2.out K3.out K4.out K5.out (by rw [runD_pl]; exact K6.out)
    case rest =>
      skip
      rename_i yc0_ yc1_ yc2_ yc3_ yc4_ yc5_ yc6_ yc7_ yc8_ yc9_ yc10_ yc11_ yc12_ yc13_ yc14_ yc15_ yc16_ yc17_ yc18_ yc19_ yc20_ yc21_ yc22_ yc23_ yc24_ yc25_ yc26_ yc27_ yc28_ yc29_ yc30_ yc31_ yc32_ yc33_ yc34_ yc35_ yc36_ yc37_ yc38_ yc39_ yc40_ yc41_ yc42_ yc43_ yc44_ yc45_ yc46_ yc47_ yc48_ yc49_ yc50_ yc51_ yc52_ yc53_ yc54_ yc55_ yc56_ yc57_ yc58_ yc59_ yc60_ yc61_ yc62_ yc63_ yc64_ yc65_ yc66_ yc67_ yc68_ yc69_ yc70_ yc71_ yc72_ yc73_ yc74_ yc75_ yc76_ yc77_ yc78_ yc79_ yc80_ yc81_ yc82_ yc83_ yc84_ yc85_ yc86_ yc87_ yc88_ yc89_ yc90_ yc91_ yc92_ yc93_ yc94_ yc95_ yc96_ yc97_ yc98_ yc99_ yc100_ yc101_ yc102_ yc103_ yc104_ yc105_ yc106_ yc107_ yc108_ yc109_ yc110_ yc111_ yc112_ yc113_ yc114_ yc115_ yc116_ yc117_ yc118_ yc119_ yc120_ yc121_ yc122_ yc123_ yc124_ yc125_ yc126_ yc127_ yc128_ yc129_ yc130_ yc131_ yc132_ yc133_ yc134_ yc135_ yc136_ yc137_ yc138_ yc139_ yc140_ yc141_ yc142_ yc143_ yc144_ yc145_ yc146_ yc147_ yc148_ yc149_ yc150_ yc151_ yc152_ yc153_ yc154_ yc155_ yc156_ yc157_ yc158_ yc159_ yc160_ yc161_ yc162_ yc163_ yc164_ yc165_ yc166_ yc167_ yc168_ yc169_ yc170_ yc171_ yc172_ yc173_ yc174_ yc175_ yc176_ yc177_ yc178_ yc179_
      revert w N hN la lc l hok hL ba sa bc sc qb qs hob hos hLb hLs hfin cz n hn5 HN ya0_ S0 W1 V W2 yb0_ HSM h30 hln hbn hsn h12 h12' hCM hsy wa ra rk Sb wS yb1_ wv va vk xa xk s0 hRS hs0x hs0r hs0p HS0 ya1_ HNN hv HV H1 H2 H3 H4 H5 c2 HH hfin' j hF b off cap hall hjn wc7 ra' rk' yc0_ aa' ak' yc1_ wa' wk' wb hin HRB hS hvb hvx bSb hr hp ya2_ ya3_ wq u6 u19 u20 u21 u22 u23 u24 u25 u26 u27 u28 u29 u30 u31 u32 u33 yc2_ yc3_ yc4_ yc5_ yc6_ yc7_ yc8_ yc9_ yc10_ yc11_ yc12_ yc13_ yc14_ yc15_ yc16_ yc17_ yc18_ yc19_ yc20_ yc21_ yc22_ yc23_ yc24_ yc25_ yc26_ yc27_ yc28_ yc29_ yc30_ yc31_ yc32_ yc33_ yc34_ yc35_ yc36_ yc37_ yc38_ yc39_ yc40_ yc41_ yc42_ yc43_ yc44_ yc45_ yc46_ yc47_ yc48_ yc49_ yc50_ yc51_ yc52_ yc53_ yc54_ yc55_ yc56_ yc57_ yc58_ yc59_ yc60_ yc61_ yc62_ yc63_ yc64_ yc65_ yc66_ yc67_ yc68_ yc69_ yc70_ yc71_ yc72_ yc73_ yc74_ yc75_ yc76_ yc77_ yc78_ yc79_ yc80_ yc81_ yc82_ yc83_ yc84_ yc85_ yc86_ yc87_ yc88_ yc89_ yc90_ yc91_ yc92_ yc93_ yc94_ yc95_ yc96_ yc97_ yc98_ yc99_ yc100_ yc101_ yc102_ yc103_ yc104_ yc105_ yc106_ yc107_ yc108_ yc109_ yc110_ yc111_ yc112_ yc113_ yc114_ yc115_ yc116_ yc117_ yc118_ yc119_ yc120_ yc121_ yc122_ yc123_ yc124_ yc125_ yc126_ yc127_ yc128_ yc129_ yc130_ yc131_ yc132_ yc133_ yc134_ yc135_ yc136_ yc137_ yc138_ yc139_ yc140_ yc141_ yc142_ yc143_ yc144_ yc145_ yc146_ yc147_ yc148_ yc149_ yc150_ yc151_ yc152_ yc153_ yc154_ yc155_ yc156_ yc157_ yc158_ yc159_ yc160_ yc161_ yc162_ yc163_ yc164_ yc165_ yc166_ yc167_ yc168_ yc169_ yc170_ yc171_ yc172_ k hk hq HK rra rrk ppa ppk xxa xxk hkle hkn hkI sz hxkq hrkq z HZ mz Z1 Z2 Z3 Z4 Z5 yb2_ yb3_ yb4_ wc1 wc2 spa spk E1 E2 E3 E4 E5 HE HCE wc3 Eb W4 wc5 Hb W6 q1 q2 I1 I2 I3 I4 I5 J1 J2 J3 J4 J5 L1 L2 L3 L4 L5 u wf Wb hWb W7 R1 R2 R3 R4 R5 HR wc8 HZJ HZK G1 G2 G3 G4 G5 wc9 hh hhz F1 F2 F3 F4 F5 HF HCF wc10 Fb W11 bFb hr0 hqr bq bEb hSq hvq hxk hrk hpk hsp hF1 hF2 hF3 hF4 yc173_ yc174_ yc175_ yc176_ yc177_ yc178_ yc179_ HSP HPK HXK HRK wc u16 u103 u104 u105 u106 u107 u108 u109 u110 u111 u112 u113 u114 u115 u116 u117 u118 u119 u120 u121 u122 u123 u124 u125 u126 u127 u128 u129 u130 u131 u132 u133 u134 u135 u136 u137 u138 u139 u140 u141 u142 u143 u144 u145 u146 u147 u148 u149 u150 u151 u152 u153 u154 u155 u156 u157 u158 u159 u160 u161 u162 u163 u164 u165 u166 u167 u168 u169 u170 u171 u172 u173 u174 u175 u176 u177 u178 u179 u180 u181 u182 u183 u184 u185 u186 u187 u188 u189 u190 u191 u192 u193 u194 u195 u196 u197 u198 u199 u200 u201 u202 u203 u204 u205 u206 u207 u208 u209 u210 u211 u212 u213 u214 u215 u216 u217 u218 u219 u220 u221 u222 u223 u224 u225 u226 u227 u228 u229 u230 u231 u232 u233 u234 u235 u236 u237 u238 u239 u240 u241 u242 u243 u244 u245 u246 u247 u248 u249 u250 u251 u252 u253 u254 u255 u256 u257 u258 u259 u260 u261 u262 u263 u264 u265 u266 u267 u268 u269 u270 u271 u272 u273 hcut
      exact Kcut.out
  ⟩
set_option maxRecDepth 100000 in
set_option maxHeartbeats 100000000 in
def steps_ok_q4 : {P : Prop // P → steps_ok_q3.1} := ⟨_, fun Kcut => by
  replace Kcut : Keep _ := ⟨Kcut⟩
  intro w N hN la lc l hok hL ba sa bc sc qb qs hob hos hLb hLs hfin cz n hn5 HN ya0_ S0 W1 V W2 yb0_ HSM h30 hln hbn hsn h12 h12' hCM hsy wa ra rk Sb wS yb1_ wv va vk xa xk s0 hRS hs0x hs0r hs0p HS0 ya1_ HNN hv HV H1 H2 H3 H4 H5 c2 HH hfin' j hF b off cap hall hjn wc7 ra' rk' yc0_ aa' ak' yc1_ wa' wk' wb hin HRB hS hvb hvx bSb hr hp ya2_ ya3_ wq u6 u19 u20 u21 u22 u23 u24 u25 u26 u27 u28 u29 u30 u31 u32 u33 yc2_ yc3_ yc4_ yc5_ yc6_ yc7_ yc8_ yc9_ yc10_ yc11_ yc12_ yc13_ yc14_ yc15_ yc16_ yc17_ yc18_ yc19_ yc20_ yc21_ yc22_ yc23_ yc24_ yc25_ yc26_ yc27_ yc28_ yc29_ yc30_ yc31_ yc32_ yc33_ yc34_ yc35_ yc36_ yc37_ yc38_ yc39_ yc40_ yc41_ yc42_ yc43_ yc44_ yc45_ yc46_ yc47_ yc48_ yc49_ yc50_ yc51_ yc52_ yc53_ yc54_ yc55_ yc56_ yc57_ yc58_ yc59_ yc60_ yc61_ yc62_ yc63_ yc64_ yc65_ yc66_ yc67_ yc68_ yc69_ yc70_ yc71_ yc72_ yc73_ yc74_ yc75_ yc76_ yc77_ yc78_ yc79_ yc80_ yc81_ yc82_ yc83_ yc84_ yc85_ yc86_ yc87_ yc88_ yc89_ yc90_ yc91_ yc92_ yc93_ yc94_ yc95_ yc96_ yc97_ yc98_ yc99_ yc100_ yc101_ yc102_ yc103_ yc104_ yc105_ yc106_ yc107_ yc108_ yc109_ yc110_ yc111_ yc112_ yc113_ yc114_ yc115_ yc116_ yc117_ yc118_ yc119_ yc120_ yc121_ yc122_ yc123_ yc124_ yc125_ yc126_ yc127_ yc128_ yc129_ yc130_ yc131_ yc132_ yc133_ yc134_ yc135_ yc136_ yc137_ yc138_ yc139_ yc140_ yc141_ yc142_ yc143_ yc144_ yc145_ yc146_ yc147_ yc148_ yc149_ yc150_ yc151_ yc152_ yc153_ yc154_ yc155_ yc156_ yc157_ yc158_ yc159_ yc160_ yc161_ yc162_ yc163_ yc164_ yc165_ yc166_ yc167_ yc168_ yc169_ yc170_ yc171_ yc172_ k hk hq HK rra rrk ppa ppk xxa xxk hkle hkn hkI sz hxkq hrkq z HZ mz Z1 Z2 Z3 Z4 Z5 yb2_ yb3_ yb4_ wc1 wc2 spa spk E1 E2 E3 E4 E5 HE HCE wc3 Eb W4 wc5 Hb W6 q1 q2 I1 I2 I3 I4 I5 J1 J2 J3 J4 J5 L1 L2 L3 L4 L5 u wf Wb hWb W7 R1 R2 R3 R4 R5 HR wc8 HZJ HZK G1 G2 G3 G4 G5 wc9 hh hhz F1 F2 F3 F4 F5 HF HCF wc10 Fb W11 bFb hr0 hqr bq bEb hSq hvq hxk hrk hpk hsp hF1 hF2 hF3 hF4 yc173_ yc174_ yc175_ yc176_ yc177_ yc178_ yc179_ HSP HPK HXK HRK wc u16 u103 u104 u105 u106 u107 u108 u109 u110 u111 u112 u113 u114 u115 u116 u117 u118 u119 u120 u121 u122 u123 u124 u125 u126 u127 u128 u129 u130 u131 u132 u133 u134 u135 u136 u137 u138 u139 u140 u141 u142 u143 u144 u145 u146 u147 u148 u149 u150 u151 u152 u153 u154 u155 u156 u157 u158 u159 u160 u161 u162 u163 u164 u165 u166 u167 u168 u169 u170 u171 u172 u173 u174 u175 u176 u177 u178 u179 u180 u181 u182 u183 u184 u185 u186 u187 u188 u189 u190 u191 u192 u193 u194 u195 u196 u197 u198 u199 u200 u201 u202 u203 u204 u205 u206 u207 u208 u209 u210 u211 u212 u213 u214 u215 u216 u217 u218 u219 u220 u221 u222 u223 u224 u225 u226 u227 u228 u229 u230 u231 u232 u233 u234 u235 u236 u237 u238 u239 u240 u241 u242 u243 u244 u245 u246 u247 u248 u249 u250 u251 u252 u253 u254 u255 u256 u257 u258 u259 u260 u261 u262 u263 u264 u265 u266 u267 u268 u269 u270 u271 u272 u273 hcut
  rename World => wc
  have HHZ := Lib.hid hhz
  clear hhz
  clear hr0 hqr bq bEb bFb hsp hSq hvq hxk hrk hpk
  obtain ⟨pga, pgk, rfl, hzw, hr0, hqr, bq, bEb, bFb, hpg⟩ := hcut
  have HZW := Lib.hid hzw
  clear hzw
  have hxk := hxkq.call hr0.bel
  have hrk := hrkq.call hr0.bel
  have hwc := In.self wc
  skip
  obtain ⟨xai, rai, pai, xki, rki, pki, K⟩ := hall k (by omega)
  replace K := (K.call HRB.bel).call hqr.bel
  have f1 := fun W (h : In wc.heap.size wc W) => vsame_any W _ _ _ _ (K.x.call h.bel) (hxk.call h.bel) (by rw [vl_length]; omega)
  have f2 := fun W (h : In wc.heap.size wc W) => vsame_any W _ _ _ _ (K.r.call h.bel) (hrk.call h.bel) (by rw [vl_length]; omega)
  have f3 := fun W (h : In wc.heap.size wc W) => vsame_any W _ _ _ _ (K.p.call h.bel) (hpg.call h.bel) (by rw [vl_length]; omega)
  simp only [decide_eq_true (show vl n (runD n (symA n l) (mEl qb) s0 j k).x = vl n (s0.at n (symA n l) k).x from rfl)] at f1
  simp only [decide_eq_true (show vl n (runD n (symA n l) (mEl qb) s0 j k).r = vl n (s0.at n (symA n l) k).r from rfl)] at f2
  simp only [decide_true] at f3
  ((have g0 := bFb.c0); (have g1 := bFb.c1); (have g2 := bFb.c2); (have g3 := bFb.c3); (have g4 := bFb.c4); (have gl := bFb.lt))
  ((have m0 := bEb.c0); (have m1 := bEb.c1); (have m2 := bEb.c2); (have m3 := bEb.c3); (have m4 := bEb.c4); (have ml := bEb.lt))
  have k0 := K.c0
  have k1 := K.c1
  have k2 := K.c2
  have kl := K.lt
  skip
  have fc0 : wc.cell? ⟨b, off + k * 13 + 3, none⟩ = some (.int .u64 F1) := (K.cf 0 (by decide)).trans (congrArg (fun l : List Value => l[0]?) HCF.out)
  have fc1 : wc.cell? ⟨b, off + k * 13 + 4, none⟩ = some (.string F2) := (K.cf 1 (by decide)).trans (congrArg (fun l : List Value => l[1]?) HCF.out)
  have fc2 : wc.cell? ⟨b, off + k * 13 + 5, none⟩ = some (.bool F3) := (K.cf 2 (by decide)).trans (congrArg (fun l : List Value => l[2]?) HCF.out)
  have fc3 : wc.cell? ⟨b, off + k * 13 + 6, none⟩ = some (.int .u64 F4) := (K.cf 3 (by decide)).trans (congrArg (fun l : List Value => l[3]?) HCF.out)
  have fc4 : wc.cell? ⟨b, off + k * 13 + 7, none⟩ = some (.string F5) := (K.cf 4 (by decide)).trans (congrArg (fun l : List Value => l[4]?) HCF.out)
  skip
  have ec0 : wc.cell? ⟨b, off + k * 13 + 8, none⟩ = some (.int .u64 E1) := (K.ce 0 (by decide)).trans (congrArg (fun l : List Value => l[0]?) HCE.out)
  have ec1 : wc.cell? ⟨b, off + k * 13 + 9, none⟩ = some (.string E2) := (K.ce 1 (by decide)).trans (congrArg (fun l : List Value => l[1]?) HCE.out)
  have ec2 : wc.cell? ⟨b, off + k * 13 + 10, none⟩ = some (.bool E3) := (K.ce 2 (by decide)).trans (congrArg (fun l : List Value => l[2]?) HCE.out)
  have ec3 : wc.cell? ⟨b, off + k * 13 + 11, none⟩ = some (.int .u64 E4) := (K.ce 3 (by decide)).trans (congrArg (fun l : List Value => l[3]?) HCE.out)
  have ec4 : wc.cell? ⟨b, off + k * 13 + 12, none⟩ = some (.string E5) := (K.ce 4 (by decide)).trans (congrArg (fun l : List Value => l[4]?) HCE.out)
  skip
  have hge : ¬ ((j : Int) + 1 ≤ k) := by omega
  have hkJ : (k : Int) < (j : Int) + 1 := by omega
  have hk0 : (0 : Int) ≤ k := by omega
  have hwj : IntKind.i64.wrap (((j + 1 : Nat) : Int) - 1) = (j : Int) := by
    rw [show (((j + 1 : Nat) : Int) - 1) = (j : Int) by omega]; exact IntWalk.i64_in _ (by omega)
  have hwj' : IntKind.i64.wrap ((j : Int) + 1 - 1) = (j : Int) := by
    rw [show ((j : Int) + 1 - 1) = (j : Int) by omega]; exact IntWalk.i64_in _ (by omega)
  have hwk : IntKind.i64.wrap (j : Int) = (j : Int) := IntWalk.i64_in _ (by omega)
  have hzk : ((k : Int) == j) = z := HZK.out
  go_upto_region 28 with fail
  have h := In.self wc; have hc := h.cell; have hf := h.frozen; refine wp_region_flowE 60 (by decide +kernel) (by decide +kernel) (fun _ _ d _ _ h => by cases d <;> exact h) ?_; simp only [List.take_succ_cons, List.take_zero, List.drop_succ_cons, List.drop_zero]; simp only [putAll, Act.put, List.setIfInBounds_toArray, List.set]; (try simp only [Nat.reduceAdd]); (try simp only [Nat.zero_add]); (repeat (first | ((with_reducible refine flow_float (v := ?_) ?_ ?_ ?_); rotate_left 1; (focus (with_reducible rfl)); (focus (intro u w1 hw hd w2; (try simp only [depH] at hd); (try simp only [ext] at hd); (try simp only [extU] at hd); (try simp only [Nat.reduceAdd] at hd); (try simp only [Nat.reduceEqDiff] at hd); (try simp only [reduceIte] at hd); (try simp only [and_true] at hd); (try simp only [true_and] at hd); go_simp; exact rfl))) | ((first | ((with_reducible refine flow_pure0 (v := ?_) ?_ ?_ ?_ ?_); rotate_left 1; (focus (with_reducible rfl)); (focus rfl)) | ((with_reducible refine flow_pureg (v := ?_) (j := ?_) (b := ?_) ?_ ?_ ?_ ?_); rotate_left 3; (focus (with_reducible rfl)); (focus (intro u w1 hw hd; (try simp only [depH] at hd); (try simp only [ext] at hd); (try simp only [extU] at hd); (try simp only [Nat.reduceAdd] at hd); (try simp only [Nat.reduceEqDiff] at hd); (try simp only [reduceIte] at hd); (try simp only [and_true] at hd); (try simp only [true_and] at hd); simp [yielded, hd]; done)))); (focus (intro u w1 hw hd; (try simp only [depH] at hd); (try simp only [ext] at hd); (try simp only [extU] at hd); (try simp only [Nat.reduceAdd] at hd); (try simp only [Nat.reduceEqDiff] at hd); (try simp only [reduceIte] at hd); (try simp only [and_true] at hd); (try simp only [true_and] at hd); have hc' := hw.cell; first | (go_simp; exact rfl) | (go_simp; go_at_call 20; ((with_reducible refine (f1 _ hw.ins).mono ?_)); rintro e w'' ⟨rfl, hb⟩; refine ⟨?_, hb⟩; exact rfl) | (go_simp; go_at_call 20; ((with_reducible refine (f2 _ hw.ins).mono ?_)); rintro e w'' ⟨rfl, hb⟩; refine ⟨?_, hb⟩; exact rfl) | (go_simp; go_at_call 20; ((with_reducible refine (f3 _ hw.ins).mono ?_)); rintro e w'' ⟨rfl, hb⟩; refine ⟨?_, hb⟩; exact rfl)))) | ((with_reducible refine flow_skipg (j := ?_) (b := ?_) ?_ ?_ ?_); rotate_left 2; (focus (with_reducible rfl)); (focus (intro u w1 hw hd; (try simp only [depH] at hd); (try simp only [ext] at hd); (try simp only [extU] at hd); (try simp only [Nat.reduceAdd] at hd); (try simp only [Nat.reduceEqDiff] at hd); (try simp only [reduceIte] at hd); (try simp only [and_true] at hd); (try simp only [true_and] at hd); simp [yielded, hd]; done))) | ((with_reducible refine flow_alloc (t := ?_) (zs := ?_) ?_ ?_ ?_ ?_); rotate_left 2; (focus (with_reducible rfl)); (focus rfl); (focus (intro u w1; go_simp; exact rfl)))))
  skip
  (try clear hc hf h); intro u w' h ha hdi; replace h := h.ins; (try simp only [World.size_alloc] at h); (try dsimp only at ha); (repeat rw [World.size_alloc] at ha); (try simp only [allH] at ha); (try simp only [ext] at ha); (try simp only [extU] at ha); (try simp only [Nat.reduceAdd] at ha); (try simp only [Nat.reduceEqDiff] at ha); (try simp only [reduceIte] at ha); (try simp only [and_true] at ha); (try simp only [true_and] at ha); have hc := h.cell; have hf := h.frozen; have hb := h.bel; clear hdi hc hf; clear g0 g1 g2 g3 g4 gl m0 m1 m2 m3 m4 ml k0 k1 k2 kl fc0 fc1 fc2 fc3 fc4 ec0 ec1 ec2 ec3 ec4 f1 f2 f3; replace hr0 := hr0.call hb; replace hqr := hqr.call hb; replace hwc := hwc.call hb; replace hxk := hxk.call hb; replace hrk := hrk.call hb; replace hpg := hpg.call hb; replace bq := bq.call hb; replace bEb := bEb.call hb; replace bFb := bFb.call hb; clear hb h; rename World => wd
  (try dsimp only)
  simp only [ha]
  clear ha hge hkJ hk0 hwj hwj' hwk
  skip
  have hzw := HZW.out
  clear HZW
  rcases z with _ | _
  rotate_left
  · clear Kcut
    ((go_wp2_with fail); (((with_reducible refine (cz _).mono ?_))); (rintro e wc2 ⟨rfl, hb⟩); (skip); (replace hr0 := hr0.call hb); (replace hqr := hqr.call hb); (replace hwc := hwc.call hb); (replace hxk := hxk.call hb); (replace hrk := hrk.call hb); (replace hpg := hpg.call hb); (replace bq := bq.call hb); (replace bEb := bEb.call hb); (replace bFb := bFb.call hb); (clear hb))
    go_wp2_with fail
    go_ret
    exact ⟨rfl, (hin.call hqr.bel).bel⟩
  · have hkj : k < j := by
      have h := HZJ.out
      by_cases e : k = j
      · rw [decide_eq_true e] at h; cases h
      · omega
    rename_i yd0_ yd1_ yd2_ yd3_ yd4_
    revert w N hN la lc l hok hL ba sa bc sc qb qs hob hos hLb hLs hfin cz n hn5 HN ya0_ S0 W1 V W2 yb0_ HSM h30 hln hbn hsn h12 h12' hCM hsy wa ra rk Sb wS yb1_ wv va vk xa xk s0 hRS hs0x hs0r hs0p HS0 ya1_ HNN hv HV H1 H2 H3 H4 H5 c2 HH hfin' j hF b off cap hall hjn wc7 ra' rk' yc0_ aa' ak' yc1_ wa' wk' wb hin HRB hS hvb hvx bSb hr hp ya2_ ya3_ wq u6 u19 u20 u21 u22 u23 u24 u25 u26 u27 u28 u29 u30 u31 u32 u33 yc2_ yc3_ yc4_ yc5_ yc6_ yc7_ yc8_ yc9_ yc10_ yc11_ yc12_ yc13_ yc14_ yc15_ yc16_ yc17_ yc18_ yc19_ yc20_ yc21_ yc22_ yc23_ yc24_ yc25_ yc26_ yc27_ yc28_ yc29_ yc30_ yc31_ yc32_ yc33_ yc34_ yc35_ yc36_ yc37_ yc38_ yc39_ yc40_ yc41_ yc42_ yc43_ yc44_ yc45_ yc46_ yc47_ yc48_ yc49_ yc50_ yc51_ yc52_ yc53_ yc54_ yc55_ yc56_ yc57_ yc58_ yc59_ yc60_ yc61_ yc62_ yc63_ yc64_ yc65_ yc66_ yc67_ yc68_ yc69_ yc70_ yc71_ yc72_ yc73_ yc74_ yc75_ yc76_ yc77_ yc78_ yc79_ yc80_ yc81_ yc82_ yc83_ yc84_ yc85_ yc86_ yc87_ yc88_ yc89_ yc90_ yc91_ yc92_ yc93_ yc94_ yc95_ yc96_ yc97_ yc98_ yc99_ yc100_ yc101_ yc102_ yc103_ yc104_ yc105_ yc106_ yc107_ yc108_ yc109_ yc110_ yc111_ yc112_ yc113_ yc114_ yc115_ yc116_ yc117_ yc118_ yc119_ yc120_ yc121_ yc122_ yc123_ yc124_ yc125_ yc126_ yc127_ yc128_ yc129_ yc130_ yc131_ yc132_ yc133_ yc134_ yc135_ yc136_ yc137_ yc138_ yc139_ yc140_ yc141_ yc142_ yc143_ yc144_ yc145_ yc146_ yc147_ yc148_ yc149_ yc150_ yc151_ yc152_ yc153_ yc154_ yc155_ yc156_ yc157_ yc158_ yc159_ yc160_ yc161_ yc162_ yc163_ yc164_ yc165_ yc166_ yc167_ yc168_ yc169_ yc170_ yc171_ yc172_ k hk hq HK rra rrk ppa ppk xxa xxk hkle hkn hkI sz hxkq hrkq mz Z1 Z2 Z3 Z4 Z5 yb2_ yb3_ yb4_ wc1 wc2 spa spk E1 E2 E3 E4 E5 HE HCE wc3 Eb W4 wc5 Hb W6 q1 q2 I1 I2 I3 I4 I5 J1 J2 J3 J4 J5 L1 L2 L3 L4 L5 yd0_ wf Wb hWb W7 R1 R2 R3 R4 R5 HR wc8 G1 G2 G3 G4 G5 wc9 hh F1 F2 F3 F4 F5 HF HCF wc10 Fb W11 hF1 hF2 hF3 hF4 yc173_ yc174_ yc175_ yc176_ yc177_ HSP HPK HXK HRK wc u103 u104 u105 u106 u107 u108 u109 u110 u111 u112 u113 u114 u115 u116 u117 u118 u119 u120 u121 u122 u123 u124 u125 u126 u127 u128 u129 u130 u131 u132 u133 u134 u135 u136 u137 u138 u139 u140 u141 u142 u143 u144 u145 u146 u147 u148 u149 u150 u151 u152 u153 u154 u155 u156 u157 u158 u159 u160 u161 u162 u163 u164 u165 u166 u167 u168 u169 u170 u171 u172 u173 u174 u175 u176 u177 u178 u179 u180 u181 u182 u183 u184 u185 u186 u187 u188 u189 u190 u191 u192 u193 u194 u195 u196 u197 u198 u199 u200 u201 u202 u203 u204 u205 u206 u207 u208 u209 u210 u211 u212 u213 u214 u215 u216 u217 u218 u219 u220 u221 u222 u223 u224 u225 u226 u227 u228 u229 u230 u231 u232 u233 u234 u235 u236 u237 u238 u239 u240 u241 u242 u243 u244 u245 u246 u247 u248 u249 u250 u251 u252 u253 u254 u255 u256 u257 u258 u259 u260 u261 u262 u263 u264 u265 u266 u267 u268 u269 u270 u271 u272 u273 pga pgk xai rai pai xki rki pki K yd1_ yd2_ yd3_ yd4_ u wd hr0 hqr hwc hxk hrk hpg bq bEb bFb HZ HZJ HZK HHZ hzk hzw hkj
    exact Kcut.out
  ⟩
set_option maxRecDepth 100000 in
set_option maxHeartbeats 100000000 in
theorem steps_ok_q5 : steps_ok_q4.1 := by
  intro w N hN la lc l hok hL ba sa bc sc qb qs hob hos hLb hLs hfin cz n hn5 HN ya0_ S0 W1 V W2 yb0_ HSM h30 hln hbn hsn h12 h12' hCM hsy wa ra rk Sb wS yb1_ wv va vk xa xk s0 hRS hs0x hs0r hs0p HS0 ya1_ HNN hv HV H1 H2 H3 H4 H5 c2 HH hfin' j hF b off cap hall hjn wc7 ra' rk' yc0_ aa' ak' yc1_ wa' wk' wb hin HRB hS hvb hvx bSb hr hp ya2_ ya3_ wq u6 u19 u20 u21 u22 u23 u24 u25 u26 u27 u28 u29 u30 u31 u32 u33 yc2_ yc3_ yc4_ yc5_ yc6_ yc7_ yc8_ yc9_ yc10_ yc11_ yc12_ yc13_ yc14_ yc15_ yc16_ yc17_ yc18_ yc19_ yc20_ yc21_ yc22_ yc23_ yc24_ yc25_ yc26_ yc27_ yc28_ yc29_ yc30_ yc31_ yc32_ yc33_ yc34_ yc35_ yc36_ yc37_ yc38_ yc39_ yc40_ yc41_ yc42_ yc43_ yc44_ yc45_ yc46_ yc47_ yc48_ yc49_ yc50_ yc51_ yc52_ yc53_ yc54_ yc55_ yc56_ yc57_ yc58_ yc59_ yc60_ yc61_ yc62_ yc63_ yc64_ yc65_ yc66_ yc67_ yc68_ yc69_ yc70_ yc71_ yc72_ yc73_ yc74_ yc75_ yc76_ yc77_ yc78_ yc79_ yc80_ yc81_ yc82_ yc83_ yc84_ yc85_ yc86_ yc87_ yc88_ yc89_ yc90_ yc91_ yc92_ yc93_ yc94_ yc95_ yc96_ yc97_ yc98_ yc99_ yc100_ yc101_ yc102_ yc103_ yc104_ yc105_ yc106_ yc107_ yc108_ yc109_ yc110_ yc111_ yc112_ yc113_ yc114_ yc115_ yc116_ yc117_ yc118_ yc119_ yc120_ yc121_ yc122_ yc123_ yc124_ yc125_ yc126_ yc127_ yc128_ yc129_ yc130_ yc131_ yc132_ yc133_ yc134_ yc135_ yc136_ yc137_ yc138_ yc139_ yc140_ yc141_ yc142_ yc143_ yc144_ yc145_ yc146_ yc147_ yc148_ yc149_ yc150_ yc151_ yc152_ yc153_ yc154_ yc155_ yc156_ yc157_ yc158_ yc159_ yc160_ yc161_ yc162_ yc163_ yc164_ yc165_ yc166_ yc167_ yc168_ yc169_ yc170_ yc171_ yc172_ k hk hq HK rra rrk ppa ppk xxa xxk hkle hkn hkI sz hxkq hrkq mz Z1 Z2 Z3 Z4 Z5 yb2_ yb3_ yb4_ wc1 wc2 spa spk E1 E2 E3 E4 E5 HE HCE wc3 Eb W4 wc5 Hb W6 q1 q2 I1 I2 I3 I4 I5 J1 J2 J3 J4 J5 L1 L2 L3 L4 L5 yd0_ wf Wb hWb W7 R1 R2 R3 R4 R5 HR wc8 G1 G2 G3 G4 G5 wc9 hh F1 F2 F3 F4 F5 HF HCF wc10 Fb W11 hF1 hF2 hF3 hF4 yc173_ yc174_ yc175_ yc176_ yc177_ HSP HPK HXK HRK wc u103 u104 u105 u106 u107 u108 u109 u110 u111 u112 u113 u114 u115 u116 u117 u118 u119 u120 u121 u122 u123 u124 u125 u126 u127 u128 u129 u130 u131 u132 u133 u134 u135 u136 u137 u138 u139 u140 u141 u142 u143 u144 u145 u146 u147 u148 u149 u150 u151 u152 u153 u154 u155 u156 u157 u158 u159 u160 u161 u162 u163 u164 u165 u166 u167 u168 u169 u170 u171 u172 u173 u174 u175 u176 u177 u178 u179 u180 u181 u182 u183 u184 u185 u186 u187 u188 u189 u190 u191 u192 u193 u194 u195 u196 u197 u198 u199 u200 u201 u202 u203 u204 u205 u206 u207 u208 u209 u210 u211 u212 u213 u214 u215 u216 u217 u218 u219 u220 u221 u222 u223 u224 u225 u226 u227 u228 u229 u230 u231 u232 u233 u234 u235 u236 u237 u238 u239 u240 u241 u242 u243 u244 u245 u246 u247 u248 u249 u250 u251 u252 u253 u254 u255 u256 u257 u258 u259 u260 u261 u262 u263 u264 u265 u266 u267 u268 u269 u270 u271 u272 u273 pga pgk xai rai pai xki rki pki K yd1_ yd2_ yd3_ yd4_ u wd hr0 hqr hwc hxk hrk hpg bq bEb bFb HZ HZJ HZK HHZ hzk hzw hkj
  have hrr := (hF.2.2 k hkj).1
  have hpp := (hF.2.2 k hkj).2
  obtain ⟨rfl, rfl, rfl⟩ := hzw rfl
  have hsp := HSP.out.call hwc.bel
  have hF0 := HF.out
  rw [runD_f hkj] at hF0
  clear HF
  have HF := Lib.hid hF0
  clear hF0
  rw [runD_p hkj] at hpg
  have hpk := hpg
  clear hpg hwc bEb
  skip
  skip
  have e32 := axpy_vl (i := 1050000000000) (j := 150000000000) (l := 150000000000) wd _ _ _ _ _ hpk hxk (by omega) ((hRS.far hkn).szk (by omega) (by omega)) (sz.p.szk (Nat.le_refl _) (Nat.le_refl _)) (sz.x.szk (Nat.le_refl _) (Nat.le_refl _)) (by omega)
  rw [HF.out] at e32
  ((have g0 := bFb.c0); (have g1 := bFb.c1); (have g2 := bFb.c2); (have g3 := bFb.c3); (have g4 := bFb.c4); (have gl := bFb.lt))
  ((go_wp2_with fail); (((with_reducible refine (e32).mono ?_))); (rintro e wc1 ⟨⟨nv, rfl, hnv⟩, hb⟩); (clear g0 g1 g2 g3 g4 gl e32); (replace hr0 := hr0.call hb); (replace hqr := hqr.call hb); (replace hsp := hsp.call hb); (replace hxk := hxk.call hb); (replace hrk := hrk.call hb); (replace hpk := hpk.call hb); (replace bq := bq.call hb); (replace bFb := bFb.call hb); (clear hb))
  obtain ⟨na, nk, he⟩ := hnv.shape
  rw [vl_length] at he
  subst he
  have e33 := fneg_any ((s0.at n (symA n l) k).far n (symA n l))
  rw [HF.out] at e33
  obtain ⟨I1, I2, I3, I4, I5, hI, hI'⟩ : ∃ A1 A2 A3 A4 A5, fracV (-(s0.at n (symA n l) k).far n (symA n l)) = .agg #[.int .u64 A1, .string A2, .bool A3, .int .u64 A4, .string A5] ∧ fcs (-(s0.at n (symA n l) k).far n (symA n l)) = [.int .u64 A1, .string A2, .bool A3, .int .u64 A4, .string A5] := ⟨_, _, _, _, _, rfl, rfl⟩
  rw [hI] at e33
  ((have g0 := bFb.c0); (have g1 := bFb.c1); (have g2 := bFb.c2); (have g3 := bFb.c3); (have g4 := bFb.c4); (have gl := bFb.lt))
  ((go_wp2_with fail); (((with_reducible refine (e33 _).mono ?_))); (rintro e wc2 ⟨rfl, hb⟩); (clear g0 g1 g2 g3 g4 gl e33); (replace hr0 := hr0.call hb); (replace hqr := hqr.call hb); (replace hsp := hsp.call hb); (replace hxk := hxk.call hb); (replace hrk := hrk.call hb); (replace hpk := hpk.call hb); (replace hnv := hnv.call hb); (replace bq := bq.call hb); (replace bFb := bFb.call hb); (clear hb))
  have e34 := axpy_vl (i := 1050000000000) (j := 450000000000) (l := 150000000000) wc2 _ _ _ _ _ hsp hrk (by omega) ((hRS.far hkn).neg.szk (by omega) (by omega)) ((hRS.mv3 sz.p).szk (Nat.le_refl _) (Nat.le_refl _)) (sz.r.szk (Nat.le_refl _) (Nat.le_refl _)) (by omega)
  rw [hI] at e34
  clear hI hI'
  ((go_wp2_with fail); (((with_reducible refine (e34).mono ?_))); (rintro e wc3 ⟨⟨lv, rfl, hlv⟩, hb⟩); (clear e34); (replace hr0 := hr0.call hb); (replace hqr := hqr.call hb); (replace hsp := hsp.call hb); (replace hxk := hxk.call hb); (replace hrk := hrk.call hb); (replace hpk := hpk.call hb); (replace hnv := hnv.call hb); (replace bq := bq.call hb); (replace bFb := bFb.call hb); (clear hb))
  obtain ⟨la', lk', he⟩ := hlv.shape
  rw [vl_length] at he
  subst he
  replace hlv : VecAt wc3 (.slice la' n lk') (vl n (s0.at n (symA n l) (k + 1)).r) := hlv
  have e35 := ldot_vl (j := 8 * 150000000000 + 29) (l := 8 * 150000000000 + 29) wc3 _ _ _ _ hlv hlv (by omega) ((hRS.r8 hkn).szk (Nat.le_refl _) (Nat.le_refl _)) ((hRS.r8 hkn).szk (Nat.le_refl _) (Nat.le_refl _)) (by decide) (by decide) (by omega)
  obtain ⟨J1, J2, J3, J4, J5, hJ, hJ'⟩ : ∃ A1 A2 A3 A4 A5, fracV (dt n (s0.at n (symA n l) (k + 1)).r (s0.at n (symA n l) (k + 1)).r) = .agg #[.int .u64 A1, .string A2, .bool A3, .int .u64 A4, .string A5] ∧ fcs (dt n (s0.at n (symA n l) (k + 1)).r (s0.at n (symA n l) (k + 1)).r) = [.int .u64 A1, .string A2, .bool A3, .int .u64 A4, .string A5] := ⟨_, _, _, _, _, rfl, rfl⟩
  rw [hJ] at e35
  ((go_wp2_with fail); (((with_reducible refine (e35).mono ?_))); (rintro e wc4 ⟨rfl, hb⟩); (clear e35); (replace hr0 := hr0.call hb); (replace hqr := hqr.call hb); (replace hsp := hsp.call hb); (replace hxk := hxk.call hb); (replace hrk := hrk.call hb); (replace hpk := hpk.call hb); (replace hnv := hnv.call hb); (replace hlv := hlv.call hb); (replace bq := bq.call hb); (replace bFb := bFb.call hb); (clear hb))
  have e36 := ldot_vl (j := 150000000000) (l := 150000000000) wc4 _ _ _ _ hrk hrk (by omega) (sz.r.szk (Nat.le_refl _) (Nat.le_refl _)) (sz.r.szk (Nat.le_refl _) (Nat.le_refl _)) (by decide) (by decide) (by omega)
  rw [HR.out] at e36
  ((go_wp2_with fail); (((with_reducible refine (e36).mono ?_))); (rintro e wc5 ⟨rfl, hb⟩); (clear e36); (replace hr0 := hr0.call hb); (replace hqr := hqr.call hb); (replace hsp := hsp.call hb); (replace hxk := hxk.call hb); (replace hrk := hrk.call hb); (replace hpk := hpk.call hb); (replace hnv := hnv.call hb); (replace hlv := hlv.call hb); (replace bq := bq.call hb); (replace bFb := bFb.call hb); (clear hb))
  have e37 := run_beta hRS hkn hrr
  rw [hJ, HR.out] at e37
  obtain ⟨L1, L2, L3, L4, L5, hL''⟩ : ∃ A1 A2 A3 A4 A5, fracV (beta n (symA n l) s0 k) = .agg #[.int .u64 A1, .string A2, .bool A3, .int .u64 A4, .string A5] := ⟨_, _, _, _, _, rfl⟩
  simp only [hL''] at e37
  clear hJ hJ'
  ((go_wp2_with fail); (((with_reducible refine (e37 _).mono ?_))); (rintro e wc6 ⟨rfl, hb⟩); (clear e37); (replace hr0 := hr0.call hb); (replace hqr := hqr.call hb); (replace hsp := hsp.call hb); (replace hxk := hxk.call hb); (replace hrk := hrk.call hb); (replace hpk := hpk.call hb); (replace hnv := hnv.call hb); (replace hlv := hlv.call hb); (replace bq := bq.call hb); (replace bFb := bFb.call hb); (clear hb))
  go_upto_region 35 with fail
  ((obtain ⟨Bb, hBb⟩ : ∃ z, z = wc6.heap.size := ⟨_, rfl⟩); (have bBb := Bx.new_at wc6 #[.int .u64 L1, .string L2, .bool L3, .int .u64 L4, .string L5] 52 hBb); (replace hr0 := hr0.alloc (.cells #[.int .u64 L1, .string L2, .bool L3, .int .u64 L4, .string L5] 52)); (replace hqr := hqr.alloc (.cells #[.int .u64 L1, .string L2, .bool L3, .int .u64 L4, .string L5] 52)); (replace bq := bq.alloc (.cells #[.int .u64 L1, .string L2, .bool L3, .int .u64 L4, .string L5] 52)); (replace bFb := bFb.alloc (.cells #[.int .u64 L1, .string L2, .bool L3, .int .u64 L4, .string L5] 52)); (replace hsp := hsp.call ((Below.refl _ _).alloc (Nat.le_refl _) (.cells #[.int .u64 L1, .string L2, .bool L3, .int .u64 L4, .string L5] 52))); (replace hxk := hxk.call ((Below.refl _ _).alloc (Nat.le_refl _) (.cells #[.int .u64 L1, .string L2, .bool L3, .int .u64 L4, .string L5] 52))); (replace hrk := hrk.call ((Below.refl _ _).alloc (Nat.le_refl _) (.cells #[.int .u64 L1, .string L2, .bool L3, .int .u64 L4, .string L5] 52))); (replace hpk := hpk.call ((Below.refl _ _).alloc (Nat.le_refl _) (.cells #[.int .u64 L1, .string L2, .bool L3, .int .u64 L4, .string L5] 52))); (replace hnv := hnv.call ((Below.refl _ _).alloc (Nat.le_refl _) (.cells #[.int .u64 L1, .string L2, .bool L3, .int .u64 L4, .string L5] 52))); (replace hlv := hlv.call ((Below.refl _ _).alloc (Nat.le_refl _) (.cells #[.int .u64 L1, .string L2, .bool L3, .int .u64 L4, .string L5] 52))); (rw [← hBb]); (clear hBb); (generalize wc6.alloc (.cells #[.int .u64 L1, .string L2, .bool L3, .int .u64 L4, .string L5] 52) = W7 at *))
  have e38 := axpy_vl (i := 23 * 150000000000) (j := 150000000000) (l := 8 * 150000000000 + 29) W7 _ _ _ _ _ hpk hlv (by omega) (((hRS.rr2 hkn).div (hRS.rr hkn)).szk (by omega) (by omega)) (sz.p.szk (Nat.le_refl _) (Nat.le_refl _)) ((hRS.r8 hkn).szk (Nat.le_refl _) (Nat.le_refl _)) (by omega)
  rw [show fracV (dt n (s0.at n (symA n l) (k + 1)).r (s0.at n (symA n l) (k + 1)).r / dt n (s0.at n (symA n l) k).r (s0.at n (symA n l) k).r) = .agg #[.int .u64 L1, .string L2, .bool L3, .int .u64 L4, .string L5] from hL''] at e38
  clear hL''
  ((have g0 := bBb.c0); (have g1 := bBb.c1); (have g2 := bBb.c2); (have g3 := bBb.c3); (have g4 := bBb.c4); (have gl := bBb.lt))
  ((go_wp2_with fail); (((with_reducible refine (e38).mono ?_))); (rintro e wc8 ⟨⟨pv', rfl, hpv'⟩, hb⟩); (clear g0 g1 g2 g3 g4 gl e38 bBb); (replace hr0 := hr0.call hb); (replace hqr := hqr.call hb); (replace hsp := hsp.call hb); (replace hxk := hxk.call hb); (replace hrk := hrk.call hb); (replace hpk := hpk.call hb); (replace hnv := hnv.call hb); (replace hlv := hlv.call hb); (replace bq := bq.call hb); (replace bFb := bFb.call hb); (clear hb))
  obtain ⟨pa', pk', he⟩ := hpv'.shape
  rw [vl_length] at he
  subst he
  have HX2 : Hid (VecAt wc8 (.slice na n nk) (vl n (s0.at n (symA n l) (k + 1)).x)) := Lib.hid hnv
  have HR2 := Lib.hid hlv
  have HP2 : Hid (VecAt wc8 (.slice pa' n pk') (vl n (s0.at n (symA n l) (k + 1)).p)) := Lib.hid hpv'
  have HQ2 := Lib.hid hqr
  have HK2 : Hid (∀ i, i < k + 1 → dt n (s0.at n (symA n l) i).r (s0.at n (symA n l) i).r ≠ 0 ∧ dt n (s0.at n (symA n l) i).p (mv n (symA n l) (s0.at n (symA n l) i).p) ≠ 0) := Lib.hid fun i hi => by
    by_cases e : i < k
    · exact HK.out i e
    · obtain rfl : i = k := by omega
      exact ⟨hrr, hpp⟩
  go_wp2_with fail
  exact ⟨⟨k + 1, _, _, _, by omega, rfl, rfl, rfl, by go_num, HQ2.out, HX2.out, HR2.out, HP2.out, HK2⟩, by simp [RowKit.intOf]; omega⟩
set_option maxRecDepth 100000 in
set_option maxHeartbeats 100000000 in
theorem steps_ok (w : World) (N : Nat) (hN : N < 256) (la : Option Addr) (lc : Nat) (l : List TQ) (hl : TAt w la l) (hok : TOk l) (hL : l.length ≤ maxLen) (ba sa : Option Addr) (bc sc : Nat) (qb qs : List (Int × Int)) (hqb : QAt w ba qb) (hqs : QAt w sa qs) (hob : QOk qb) (hos : QOk qs) (hLb : qb.length ≤ maxLen) (hLs : qs.length ≤ maxLen) (hfin : ∃ j, Fin (N % 6) (symA (N % 6) l) (startC (N % 6) (symA (N % 6) l) (mEl qb) (mEl qs)) j) :
    Calls Tryz.prog 3 #[.agg #[.int .u8 N, .slice la l.length lc], .slice ba qb.length bc, .slice sa qs.length sc] w fun e w' => e = .returned (.bool true) ∧ Below w.heap.size w w' := (steps_ok_q1.2 (steps_ok_q2.2 (steps_ok_q3.2 (steps_ok_q4.2 steps_ok_q5)))) w N hN la lc l hl hok hL ba sa bc sc qb qs hqb hqs hob hos hLb hLs hfin
end Gus
end
