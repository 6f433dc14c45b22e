/- Proved here: parts of the proof: FlowC Keep Rda. Conditions: those that each theorem states. -/
import Derived.Test.YtakblfhmllgepaaGreatDoorFlowQ
section
/- Regions by the flow of their data, where moves are not taken ahead of their turn (long conditions that draw their order). -/
namespace Gus
open Go Go.RowKit
section
variable {P : Program} {ops : Array Oper} {w0 : World}
/-- operation i may be taken as soon as it may come up: extracts alone -/
def isE (ops : Array Oper) (i : Nat) : Bool := (match ops[i]? with | some o => (match o.op with | .extract _ _ => true | _ => false) | none => false) && isF ops i
def sinkE (ops : Array Oper) (n : Nat) : Bool := (List.range n).all fun i => isE ops i || (List.range (n + 1)).any fun j => decide (i < j) && Region.waitsFor .any ops j i && (j == n || !isE ops j)
def flowEB (ops : Array Oper) (n : Nat) : Bool :=
  decide (n < ops.size) && sinkE ops n && Region.chainB .any ops n && backB ops n && nodupD (ops.toList.take n) && Region.seqB .any ops (ops.size - n) n (firstN n ops.size) && Region.noSelect ops
theorem tail_waitsE {n : Nat} {listed : Array Bool} (hs : sinkE ops n = true) (hc : Region.chainB .any ops n = true) (hn : n < ops.size) (inv : HeadInv .any ops n listed) :
    ∀ (d i : Nat), n - i = d → i < n → isE ops i = false → listed.getD i true = false → ∀ t, n ≤ t → t ∉ Region.ready .any ops listed := by
  intro d
  induction d using Nat.strongRecOn with
  | _ d ih =>
    intro i hd hi hF hun t ht hr
    obtain ⟨_, ot, hot, hall⟩ := mem_ready.1 hr
    have htlt : t < ops.size := (Array.getElem?_eq_some_iff.1 hot).1
    by_cases htn : t = n
    · subst htn
      have h1 := List.all_eq_true.1 hs i (List.mem_range.2 hi)
      rw [hF, Bool.false_or] at h1
      obtain ⟨j, hj, hj2⟩ := List.any_eq_true.1 h1
      simp only [Bool.and_eq_true, decide_eq_true_eq, Bool.or_eq_true, beq_iff_eq, Bool.not_eq_true'] at hj2
      obtain ⟨⟨hij, hwf⟩, hjF⟩ := hj2
      obtain ⟨oj, hoj, e, he, hb, hon⟩ := Region.waitsFor_spec hwf
      have hjle : j ≤ t := by have := List.mem_range.1 hj; omega
      by_cases hjt : j = t
      · subst hjt
        have : oj = ot := Option.some.inj (hoj.symm.trans hot)
        subst this
        have h2 := hall e he hb
        rw [hon, getD_both hun] at h2; cases h2
      · have hjF' : isE ops j = false := by
          rcases hjF with h | h
          · exact absurd h hjt
          · exact h
        have hjun : listed.getD j true = false := by
          cases hl : listed.getD j true with
          | false => rfl
          | true =>
            have hjs : j < listed.size := by rw [inv.size]; omega
            have hl' : listed.getD j false = true := by simp [hjs] at hl ⊢; exact hl
            have h2 := inv.closed j oj hoj hl' e he hb
            rw [hon, getD_both hun] at h2; cases h2
        exact ih (t - j) (by omega) j rfl (by omega) hjF' hjun t (Nat.le_refl _) hr
    · have h1 := List.all_eq_true.1 hc t (List.mem_range.2 htlt)
      simp only [Bool.or_eq_true, decide_eq_true_eq] at h1
      rcases h1 with h1 | h1
      · omega
      · obtain ⟨oj, hoj, e, he, hb, hon⟩ := Region.waitsFor_spec h1
        have : oj = ot := Option.some.inj (hoj.symm.trans hot)
        subst this
        have h2 := hall e he hb
        rw [hon, getD_both (inv.tail (t - 1) (by omega) (by omega))] at h2; cases h2
theorem wpAny_of_flowE {n : Nat} {Q : Exit → Act → World → Prop} {A : (Nat → Value) → Act} {a0 : Act} {V : Nat → (Nat → Value) → Value → World → Prop} {Φ : Nat → Bool} (hB : flowEB ops n = true) (hA : ∀ u, A u = putAll u 0 (ops.toList.take n) a0)
    (hQ : ∀ c a d v w, Q (.panic c) (Act.put a d v) w → Q (.panic c) a w)
    (hst : ∀ j, j < n → (∀ u, Stable (V j u)) ∧ (∀ u, Placed (Φ j) (V j u))) (hlo : ∀ j o, j < n → ops[j]? = some o → LocalU o (V j)) (hop : ∀ j o, j < n → ops[j]? = some o → ∀ u w, St w0 w → (∀ e ∈ o.after.toList, Region.binds .any e = true → V e.on u (u e.on) w) → okOp P ops o (A u) w (Fresh (Φ j) (V j u) w) ∧
      (fl o = true → Φ j = false ∧ ∃ v, (∀ w2, (execOp (A u).eval o).run P w2 = .ok (.value v) w2) ∧ ∀ w2, V j u v w2))
    (hT : ∀ u w, St w0 w → (∀ j, j < n → V j u (u j) w) → dist Φ u n → wpList P ops Q (ops.toList.drop n) (A u) w) :
    ∀ (c : Nat) (listed : Array Bool) (u : Nat → Value) (w : World), HeadInv .any ops n listed → cnt listed n = c → St w0 w → (∀ j, j < n → listed.getD j true = true → V j u (u j) w) →
      (∀ i j, i < n → j < n → i ≠ j → listed.getD i true = true → listed.getD j true = true → Φ i = true → Φ j = true → ∀ b, blk (u i) = some b → blk (u j) ≠ some b) → wpAny P .any ops Q (c + (ops.size - n)) listed (A u) w := by
  simp only [flowEB, Bool.and_eq_true, decide_eq_true_eq] at hB
  obtain ⟨⟨⟨⟨⟨⟨hn, hs⟩, hc⟩, hb⟩, hnd⟩, hseq⟩, hsel⟩ := hB
  have hback : ∀ i o e, i < n → ops[i]? = some o → e ∈ o.after.toList → Region.binds .any e = true → e.on < i := fun i o e hi ho he hbd => by
    have h1 := List.all_eq_true.1 hb i (List.mem_range.2 hi)
    rw [ho] at h1
    have h2 := List.all_eq_true.1 h1 e he
    rw [hbd] at h2
    simpa using h2
  intro c
  induction c with
  | zero =>
    intro listed u w inv hcn hw hv hdi
    have hall := cnt_zero n hcn
    have hl : listed = firstN n ops.size := by
      apply Array.ext
      · simp [firstN, inv.size]
      · intro i h1 h2
        simp only [firstN, List.getElem_toArray, List.getElem_map, List.getElem_range]
        by_cases hi : i < n
        · have := hall i hi
          rw [Array.getD_eq_getD_getElem?, Array.getElem?_eq_getElem h1] at this
          simpa [hi] using this
        · have := getD_both (inv.tail i (by omega) (by rw [inv.size] at h1; exact h1))
          rw [Array.getD_eq_getD_getElem?, Array.getElem?_eq_getElem h1] at this
          simpa [hi] using this
    subst hl
    rw [Nat.zero_add]
    have hdl : (ops.toList.drop n).length = ops.size - n := by simp
    have := wpAny_of_seq (P := P) (Q' := Q) (ops.toList.drop n) n (firstN n ops.size) (A u) w (fun j => by simp [List.getElem?_drop]) (by rw [hdl]; exact hseq) (hT u w hw (fun j hj => hv j hj (hall j hj)) (fun i j hi hj hne => hdi i j hi hj hne (hall i hi) (hall j hj)))
    rwa [hdl] at this
  | succ c ih =>
    intro listed u w inv hcn hw hv hdi
    rw [show c + 1 + (ops.size - n) = (c + (ops.size - n)) + 1 by omega]
    obtain ⟨i0, hi0, hun0, hmin⟩ := cnt_pos n (by omega : 0 < cnt listed n)
    have hls : ∀ j, j < n → listed.getD j true = true → listed.getD j false = true := fun j hj h => by
      have hjs : j < listed.size := by rw [inv.size]; omega
      simp [hjs] at h ⊢; exact h
    have hlt : ∀ j, j < n → listed.getD j false = true → listed.getD j true = true := fun j hj h => by
      have hjs : j < listed.size := by rw [inv.size]; omega
      simp [hjs] at h ⊢; exact h
    have hi0s : i0 < ops.size := by omega
    have ho0 : ops[i0]? = some ops[i0] := by simp [hi0s]
    have hr0 : i0 ∈ Region.ready .any ops listed :=
      mem_ready.2 ⟨hun0, ops[i0], ho0, fun e he hbd => by
        have h3 := hback i0 _ e hi0 ho0 (by simpa using he) hbd
        exact hls _ (by omega) (hmin _ h3)⟩
    have key : ∀ i o v w', i < n → ops[i]? = some o → i ∈ Region.ready .any ops listed → Fresh (Φ i) (V i u) w v w' → St w w' → wpAny P .any ops Q (c + (ops.size - n)) (listed.setIfInBounds i true) ((A u).put o.dst v) w' := fun i o v w' hin ho hi hV hs' => by
      obtain ⟨hiun, _, _, _⟩ := mem_ready.1 hi
      have hAu : (A u).put o.dst v = A (upd u i v) := by
        rw [hA, hA]
        have := putAll_upd (u := u) (v := v) (ops.toList.take n) 0 i a0 o hnd (by rw [List.getElem?_take, if_pos hin]; simpa using ho)
        rw [Nat.zero_add] at this
        exact this.symm
      rw [hAu]
      have his : i < listed.size := by rw [inv.size]; omega
      have hagree : ∀ j oj, j < n → ops[j]? = some oj → (j = i ∨ listed.getD j true = true) → ∀ e ∈ oj.after.toList, Region.binds .any e = true → u e.on = upd u i v e.on := fun j oj hj hoj hjl e he hbd => by
        have hlt' := hback j oj e hj hoj he hbd
        have hne : e.on ≠ i := fun h => by
          rcases hjl with rfl | hjl
          · omega
          · have h2 := inv.closed j oj hoj (hls j hj hjl) e (by simpa using he) hbd
            rw [h, getD_both hiun] at h2; cases h2
        unfold upd
        rw [if_neg hne]
      refine ih _ _ _ (inv.set hi hin) ?_ (hw.trans hs') (fun j hj hl => ?_) (fun i1 j1 hi1 hj1 hne hl1 hl2 hf1 hf2 b hb1 => ?_)
      · have := cnt_set hiun his n
        rw [if_pos hin] at this; omega
      · have hjs : j < ops.size := by omega
        have hoj : ops[j]? = some ops[j] := by simp [hjs]
        by_cases hji : j = i
        · subst hji
          refine hlo j _ hj hoj u _ _ _ (hagree j _ hj hoj (.inl rfl)) ?_
          unfold upd
          rw [if_pos rfl]; exact hV.1
        · rw [getD_set_ne true (fun h => hji h.symm)] at hl
          refine hlo j _ hj hoj u _ _ _ (hagree j _ hj hoj (.inr hl)) ?_
          unfold upd
          rw [if_neg hji]
          exact (hst j hj).1 u _ _ _ (hv j hj hl) hs'
      · unfold upd at hb1 ⊢
        by_cases h1 : i1 = i
        · have h2 : ¬ j1 = i := fun h => hne (h1.trans h.symm)
          rw [if_pos h1] at hb1
          rw [if_neg h2]
          intro hb2
          rw [getD_set_ne true (fun h => h2 h.symm)] at hl2
          have h3 := (hst j1 hj1).2 u hf2 _ _ (hv j1 hj1 hl2) b hb2
          have h4 := hV.2 (by rw [← h1]; exact hf1) b hb1
          omega
        · rw [if_neg h1] at hb1
          rw [getD_set_ne true (fun h => h1 h.symm)] at hl1
          by_cases h2 : j1 = i
          · rw [if_pos h2]
            intro hb2
            have h3 := (hst i1 hi1).2 u hf1 _ _ (hv i1 hi1 hl1) b hb1
            have h4 := hV.2 (by rw [← h2]; exact hf2) b hb2
            omega
          · rw [if_neg h2]
            rw [getD_set_ne true (fun h => h2 h.symm)] at hl2
            exact hdi i1 j1 hi1 hj1 hne hl1 hl2 hf1 hf2 b hb1
    have hdep : ∀ i o, i < n → ops[i]? = some o → i ∈ Region.ready .any ops listed → ∀ e ∈ o.after.toList, Region.binds .any e = true → V e.on u (u e.on) w := fun i o hin ho hi e he hbd => by
      obtain ⟨_, o', ho', hall⟩ := mem_ready.1 hi
      have : o' = o := Option.some.inj (ho'.symm.trans ho)
      subst this
      have h3 := hback i _ e hin ho he hbd
      exact hv _ (by omega) (hlt _ (by omega) (hall e (by simpa using he) hbd))
    cases hF : isE ops i0 with
    | true =>
      unfold isE at hF
      rw [Bool.and_eq_true] at hF
      replace hF := hF.2
      unfold isF at hF
      rw [ho0] at hF
      simp only [Bool.and_eq_true] at hF
      obtain ⟨hfl, hap⟩ := hF
      obtain ⟨hΦ0, v, hv1, hv2⟩ := (hop i0 _ hi0 ho0 u w hw (hdep i0 _ hi0 ho0 hr0)).2 hfl
      have hg : (ops[i0]).guard = none := by
        unfold fl at hfl
        rw [Bool.and_eq_true] at hfl
        exact Option.isNone_iff_eq_none.1 hfl.1
      refine wpAny_first (oi := ops[i0]) (v := v) ho0 (Region.noSelect_spec hsel) (fun c a w h => hQ c a _ v w h) _ listed _ w (fun j oj hj hne hun hno => ?_) hr0 (.inl ⟨by unfold Region.wanted; rw [hg], hv1⟩) (key i0 _ v w hi0 ho0 hr0 ⟨hv2 w, fun h => absurd h (by rw [hΦ0]; exact Bool.false_ne_true)⟩ (St.refl w))
      have hjs : j < ops.size := (Array.getElem?_eq_some_iff.1 hj).1
      have h1 := List.all_eq_true.1 hap j (List.mem_range.2 hjs)
      rw [hj] at h1
      simp only [Bool.or_eq_true, beq_iff_eq] at h1
      rcases h1 with ((h1 | h1) | h1) | h1
      · exact absurd h1 hne
      · obtain ⟨oj', hoj', e, he, hbd, hon⟩ := Region.waitsFor_spec h1
        have : oj' = oj := Option.some.inj (hoj'.symm.trans hj)
        subst this
        exact absurd hon (hno e he hbd)
      · obtain ⟨o', ho', e, he, hbd, hon⟩ := Region.waitsFor_spec h1
        obtain ⟨_, o'', ho'', hall⟩ := mem_ready.1 hr0
        have : o' = o'' := Option.some.inj (ho'.symm.trans ho'')
        subst this
        have h2 := hall e he hbd
        rw [hon, getD_both hun] at h2; cases h2
      · exact h1
    | false =>
      refine ⟨(fun h0 => by rw [h0] at hr0; cases hr0), fun i hi => ?_⟩
      have hin : i < n := by
        rcases Nat.lt_or_ge i n with h | h
        · exact h
        · exact absurd hi (tail_waitsE hs hc hn inv _ i0 rfl hi0 hF hun0 i h)
      obtain ⟨_, o, ho, _⟩ := mem_ready.1 hi
      exact wpOp_of_ok ho (hop i o hin ho u w hw (hdep i o hin ho hi)).1 fun v w' hV hs' => key i o v w' hin ho hi hV hs'
/-- A region that draws its order, by the flow of its data. -/
theorem wp_region_flowE {id : Nat} {Q : Exit → Act → World → Prop} {a0 : Act} {l : List Oper} (n : Nat) (hm : P.follows .mixedOrders = true) (hB : flowEB l.toArray n = true) (hQ : ∀ c a d v w, Q (.panic c) (Act.put a d v) w → Q (.panic c) a w)
    (h : flow P l.toArray w0 (fun u => putAll u 0 (l.take n) a0) (fun a w => wpList P l.toArray Q (l.drop n) a w) 0 (l.take n) (fun _ _ _ _ => True) (fun _ => false)) : (Code.region id l.toArray true).wp P Q a0 w0 := by
  obtain ⟨V, Φ, _, _, h2, h3, h4⟩ := flow_spec _ _ _ _ h
  have hB' := hB
  simp only [flowEB, Bool.and_eq_true, decide_eq_true_eq] at hB'
  obtain ⟨⟨⟨⟨⟨⟨hn, hs⟩, hc⟩, hb⟩, hnd⟩, hseq⟩, hsel⟩ := hB'
  have hn' : n < l.length := by simpa using hn
  have htl : (l.take n).length = n := by simp; omega
  rw [htl, Nat.zero_add] at h2 h4
  refine wp_region_any hm ?_
  obtain ⟨u, hu⟩ := putAll_start (l.take n) 0 a0
  have key := wpAny_of_flowE (P := P) (ops := l.toArray) (w0 := w0) (n := n) (Q := Q) (A := fun u => putAll u 0 (l.take n) a0) (a0 := a0) (V := V) (Φ := Φ) hB (fun u => rfl) hQ (fun j hj => h2 j (Nat.zero_le _) hj)
    (fun j o hj ho => by
      have h5 := (h3 j o (by rw [List.getElem?_take, if_pos hj]; simpa using ho)).1
      rwa [Nat.zero_add] at h5)
    (fun j o hj ho u w hw hd => by
      have h5 := (h3 j o (by rw [List.getElem?_take, if_pos hj]; simpa using ho)).2 (fun e he hbd => by
        have h1 := List.all_eq_true.1 hb j (List.mem_range.2 hj)
        rw [ho] at h1
        have h2 := List.all_eq_true.1 h1 e he
        rw [hbd] at h2
        simpa using h2) u w hw hd
      rwa [Nat.zero_add] at h5)
    (fun u w hw ha hdi => h4 u w hw (allH_of n ha) hdi) (cnt (Array.replicate l.toArray.size false) n) (Array.replicate l.toArray.size false) u { w0 with drawn := w0.drawn + 1 }
    ⟨by simp, fun j oj _ hl => (by rw [getD_replicate_false] at hl; cases hl), fun t _ ht => getD_in (by simpa using ht) (getD_replicate_false _ _)⟩ rfl ((Below.refl _ _).drew)
    (fun j hj hl => by
      have hjs : j < (Array.replicate l.toArray.size false).size := by rw [Array.size_replicate]; omega
      rw [getD_in hjs (getD_replicate_false _ _)] at hl; cases hl)
    (fun i j hi hj hne hl1 => by
      have hjs : i < (Array.replicate l.toArray.size false).size := by rw [Array.size_replicate]; omega
      rw [getD_in hjs (getD_replicate_false _ _)] at hl1; cases hl1)
  have hcn : cnt (Array.replicate l.toArray.size false) n = n := by
    have : ∀ k, k ≤ l.toArray.size → cnt (Array.replicate l.toArray.size false) k = k := by
      intro k
      induction k with
      | zero => intro _; rfl
      | succ k ih =>
        intro hk
        unfold cnt
        rw [ih (by omega), getD_in (by rw [Array.size_replicate]; omega) (getD_replicate_false _ _)]; rfl
    exact this n (by omega)
  rw [hcn] at key
  rw [show n + (l.toArray.size - n) = l.toArray.size by omega] at key
  simp only [hu] at key
  exact key
end
end Gus
end
section
/- A proposition kept out of the reach of the tactics. -/
namespace Gus
structure Keep (Q : Prop) : Prop where
  out : Q
end Gus
end
section
/- Digits to the base 10000. -/
namespace Gus.D

def val : List Nat → Nat
  | [] => 0
  | d :: l => d + 10000 * val l

def Digs (l : List Nat) : Prop := ∀ d ∈ l, d < 10000

theorem Digs.nil : Digs [] := by intro d h; cases h
theorem Digs.cons {d : Nat} {l : List Nat} (h : d < 10000) (k : Digs l) : Digs (d :: l) := by
  intro x hx; cases hx with
  | head => exact h
  | tail _ hm => exact k x hm
theorem Digs.head {d : Nat} {l : List Nat} (h : Digs (d :: l)) : d < 10000 := h d (.head _)
theorem Digs.tail {d : Nat} {l : List Nat} (h : Digs (d :: l)) : Digs l := fun x hx => h x (.tail _ hx)
theorem Digs.append {l m : List Nat} (h : Digs l) (k : Digs m) : Digs (l ++ m) := by
  intro x hx; rcases List.mem_append.1 hx with hx | hx
  · exact h x hx
  · exact k x hx
theorem Digs.left {l m : List Nat} (h : Digs (l ++ m)) : Digs l := fun x hx => h x (List.mem_append.2 (.inl hx))
theorem Digs.right {l m : List Nat} (h : Digs (l ++ m)) : Digs m := fun x hx => h x (List.mem_append.2 (.inr hx))

/-- the words of a number -/
def wdF : Nat → Nat → List Nat
  | 0, _ => []
  | f + 1, n => if n = 0 then [] else n % 10000 :: wdF f (n / 10000)
def wd (n : Nat) : List Nat := wdF n n

theorem wdF_val (f : Nat) : ∀ n, n ≤ f → val (wdF f n) = n := by
  induction f with
  | zero => intro n h; obtain rfl : n = 0 := by omega
            rfl
  | succ f ih =>
    intro n h
    unfold wdF
    split
    · simp [val]; omega
    · have := ih (n / 10000) (by omega)
      simp only [val, this]; omega
theorem wd_val (n : Nat) : val (wd n) = n := wdF_val n n (Nat.le_refl _)

theorem wdF_digs (f : Nat) : ∀ n, Digs (wdF f n) := by
  induction f with
  | zero => intro n; exact .nil
  | succ f ih =>
    intro n; unfold wdF; split
    · exact .nil
    · exact .cons (by omega) (ih _)
theorem wd_digs (n : Nat) : Digs (wd n) := wdF_digs n n

/-- no leading zero -/
def Nrm : List Nat → Prop
  | [] => True
  | [d] => d ≠ 0
  | _ :: l => Nrm l

theorem Nrm.cons {d e : Nat} {l : List Nat} (h : Nrm (e :: l)) : Nrm (d :: e :: l) := h
theorem wdF_nrm (f : Nat) : ∀ n, n ≤ f → Nrm (wdF f n) := by
  induction f with
  | zero => intro n _; exact trivial
  | succ f ih =>
    intro n h; unfold wdF; split
    · exact trivial
    · rename_i hn
      have h2 := ih (n / 10000) (by omega)
      have hv := wdF_val f (n / 10000) (by omega)
      generalize wdF f (n / 10000) = l at *
      match l with
      | [] => simp [val] at hv; simp [Nrm]; omega
      | e :: l => exact h2
theorem wd_nrm (n : Nat) : Nrm (wd n) := wdF_nrm n n (Nat.le_refl _)

theorem val_zero_of_nrm : ∀ l, Nrm l → val l = 0 → l = []
  | [], _, _ => rfl
  | [d], h, hv => by simp [val] at hv; simp [Nrm] at h; omega
  | d :: e :: l, h, hv => by
    have := val_zero_of_nrm (e :: l) h (by simp [val] at *; omega)
    cases this
theorem Nrm.tail {d : Nat} : ∀ {l : List Nat}, Nrm (d :: l) → Nrm l
  | [], _ => trivial
  | _ :: _, h => h
theorem val_inj : ∀ l m, Digs l → Digs m → Nrm l → Nrm m → val l = val m → l = m
  | [], m, _, _, _, hm, h => (val_zero_of_nrm m hm (by simp [val] at h; omega)).symm
  | d :: l, [], _, _, hl, _, h => val_zero_of_nrm _ hl (by simp [val] at *; omega)
  | d :: l, e :: m, dl, dm, hl, hm, h => by
    have h1 := dl.head; have h2 := dm.head
    simp only [val] at h
    obtain rfl : d = e := by omega
    rw [val_inj l m dl.tail dm.tail hl.tail hm.tail (by omega)]
theorem eq_wd {l : List Nat} {n : Nat} (dl : Digs l) (hl : Nrm l) (h : val l = n) : l = wd n :=
  val_inj _ _ dl (wd_digs n) hl (wd_nrm n) (by rw [wd_val, h])

theorem wd_zero : wd 0 = [] := rfl
theorem val_append (l m : List Nat) : val (l ++ m) = val l + 10000 ^ l.length * val m := by
  induction l with
  | nil => simp [val]
  | cons d l ih => simp only [List.cons_append, val, ih, List.length_cons, Nat.pow_succ]; grind
theorem val_lt {l : List Nat} (h : Digs l) : val l < 10000 ^ l.length := by
  induction l with
  | nil => simp [val]
  | cons d l ih =>
    have := ih h.tail; have := h.head
    simp only [val, List.length_cons, Nat.pow_succ]; omega
theorem val_snoc (l : List Nat) (d : Nat) : val (l ++ [d]) = val l + 10000 ^ l.length * d := by
  rw [val_append]; simp [val]
theorem Nrm.snoc : ∀ (l : List Nat) (d : Nat), Nrm (l ++ [d]) ↔ d ≠ 0
  | [], d => by simp [Nrm]
  | [e], d => by simp [Nrm]
  | e :: f :: l, d => by have := Nrm.snoc (f :: l) d; simpa [Nrm] using this
theorem val_ge_of_nrm (l : List Nat) (d : Nat) (hd : d ≠ 0) : 10000 ^ l.length ≤ val (l ++ [d]) := by
  rw [val_snoc]
  have : 10000 ^ l.length * 1 ≤ 10000 ^ l.length * d := Nat.mul_le_mul_left _ (by omega)
  omega
/-- how many words a number below a power takes -/
theorem wd_length {n k : Nat} (h : n < 10000 ^ k) : (wd n).length ≤ k := by
  rcases List.eq_nil_or_concat (wd n) with h0 | ⟨l, d, h0⟩
  · simp [h0]
  · rw [List.concat_eq_append] at h0
    have hn := wd_nrm n; rw [h0, Nrm.snoc] at hn
    have hv := wd_val n; rw [h0] at hv
    have := val_ge_of_nrm l d hn
    rw [h0, List.length_append, List.length_singleton]
    have h3 : 10000 ^ l.length < 10000 ^ k := by omega
    exact (Nat.pow_lt_pow_iff_right (by decide)).1 h3

/-- stripping the leading zero words, by number -/
theorem val_take_of_zero : ∀ (l : List Nat) (k : Nat), (∀ i, k ≤ i → i < l.length → l.getD i 0 = 0) → val (l.take k) = val l
  | [], k, _ => by simp
  | d :: l, 0, h => by
    have h0 := h 0 (Nat.le_refl _) (by simp)
    have := val_take_of_zero l 0 (fun i _ hi => by have := h (i + 1) (by omega) (by simp; omega); simpa using this)
    simp [val] at *; omega
  | d :: l, k + 1, h => by
    have := val_take_of_zero l k (fun i hk hi => by have := h (i + 1) (by omega) (by simp; omega); simpa using this)
    simp only [List.take_succ_cons, val, this]
theorem nrm_take {l : List Nat} {k : Nat} (hk : k ≤ l.length) (h : k = 0 ∨ l.getD (k - 1) 0 ≠ 0) : Nrm (l.take k) := by
  cases k with
  | zero => exact trivial
  | succ k =>
    rw [List.take_succ_eq_append_getElem (by omega), Nrm.snoc]
    rcases h with h | h
    · omega
    · simpa [show k < l.length by omega] using h
theorem Digs.take {l : List Nat} (h : Digs l) (k : Nat) : Digs (l.take k) := fun x hx => h x (List.mem_of_mem_take hx)
theorem Digs.drop {l : List Nat} (h : Digs l) (k : Nat) : Digs (l.drop k) := fun x hx => h x (List.mem_of_mem_drop hx)
theorem Digs.getD {l : List Nat} (h : Digs l) (i : Nat) : l.getD i 0 < 10000 := by
  rcases Nat.lt_or_ge i l.length with hi | hi
  · have := h l[i] (List.getElem_mem hi); simpa [hi] using this
  · simp [hi]
theorem Digs.set {l : List Nat} (h : Digs l) (i d : Nat) (hd : d < 10000) : Digs (l.set i d) := by
  intro x hx
  rcases List.mem_or_eq_of_mem_set hx with h1 | h1
  · exact h x h1
  · exact h1 ▸ hd
theorem val_split (l : List Nat) (i : Nat) : val l = val (l.take i) + 10000 ^ (min i l.length) * val (l.drop i) := by
  conv => lhs; rw [← List.take_append_drop i l]
  rw [val_append, List.length_take]
theorem val_at (l : List Nat) (i : Nat) (hi : i < l.length) : val l = val (l.take i) + 10000 ^ i * (l.getD i 0 + 10000 * val (l.drop (i + 1))) := by
  rw [val_split l i, Nat.min_eq_left (by omega), List.drop_eq_getElem_cons hi]
  simp [val, hi]
theorem val_lt_at {l m : List Nat} (dl : Digs l) (i : Nat) (hl : i < l.length) (hm : i < m.length) (hd : l.drop (i + 1) = m.drop (i + 1)) (h : l.getD i 0 < m.getD i 0) : val l < val m := by
  rw [val_at l i hl, val_at m i hm, hd]
  have h1 := val_lt (dl.take i)
  rw [List.length_take, Nat.min_eq_left (by omega)] at h1
  generalize val (m.drop (i + 1)) = D at *
  generalize l.getD i 0 = p at *
  generalize m.getD i 0 = q at *
  generalize val (l.take i) = a at *
  generalize val (m.take i) = c at *
  have h2 : 10000 ^ i * (p + 10000 * D + 1) ≤ 10000 ^ i * (q + 10000 * D) := Nat.mul_le_mul_left _ (by omega)
  rw [Nat.mul_add _ _ 1] at h2
  omega
theorem drop_eq_of {l m : List Nat} {k i : Nat} (hl : l.length = k) (hm : m.length = k) (h : ∀ j, i ≤ j → j < k → l.getD j 0 = m.getD j 0) : l.drop i = m.drop i := by
  apply List.ext_getElem?
  intro j
  rw [List.getElem?_drop, List.getElem?_drop]
  by_cases hj : i + j < k
  · have := h (i + j) (by omega) hj
    simpa [hl, hm, hj] using this
  · rw [List.getElem?_eq_none (by omega), List.getElem?_eq_none (by omega)]
theorem lt_of_length {m n : Nat} (h : (wd m).length < (wd n).length) : m < n := by
  have h1 := val_lt (wd_digs m)
  rw [wd_val] at h1
  rcases List.eq_nil_or_concat (wd n) with h0 | ⟨l, d, h0⟩
  · rw [h0] at h; simp at h
  · rw [List.concat_eq_append] at h0
    have hn := wd_nrm n; rw [h0, Nrm.snoc] at hn
    have hv := wd_val n; rw [h0] at hv
    have := val_ge_of_nrm l d hn
    rw [h0, List.length_append, List.length_singleton] at h
    have h3 : 10000 ^ (wd m).length ≤ 10000 ^ l.length := Nat.pow_le_pow_right (by decide) (by omega)
    omega
theorem getD_take {l : List Nat} {k j : Nat} (h : j < k) : (l.take k).getD j 0 = l.getD j 0 := by
  rw [List.getD_eq_getElem?_getD, List.getD_eq_getElem?_getD, List.getElem?_take, if_pos h]
theorem val_take_succ (l : List Nat) (i : Nat) : val (l.take (i + 1)) = val (l.take i) + 10000 ^ i * l.getD i 0 := by
  by_cases h : i < l.length
  · rw [List.take_succ_eq_append_getElem h, val_snoc, List.length_take, Nat.min_eq_left (by omega)]
    simp [h]
  · rw [List.take_of_length_le (by omega), List.take_of_length_le (by omega)]
    simp [show l.length ≤ i by omega]
theorem step_sum (zs c x y t : Nat) : zs + t * ((x + y + c) % 10000) + t * 10000 * ((x + y + c) / 10000) = (zs + t * c) + t * x + t * y := by
  have := Nat.div_add_mod (x + y + c) 10000
  generalize (x + y + c) / 10000 = a at *
  generalize (x + y + c) % 10000 = b at *
  have e : t * (10000 * a + b) = t * (x + y + c) := by rw [this]
  grind
theorem top_zero' {P p q zs c : Nat} (hp : p < P) (hq : q < P) (h : zs + P * 10000 * c = p + q) : zs = p + q := by
  cases c with
  | zero => rw [Nat.mul_zero] at h; exact h
  | succ d =>
    rw [Nat.mul_succ] at h
    generalize P * 10000 * d = Z at h
    omega
theorem top_zero {L M p q zs c : Nat} (hp : p < 10000 ^ L) (hq : q < 10000 ^ M) (hM : M ≤ L) (h : zs + 10000 ^ (L + 1) * c = p + q) : zs = p + q := by
  rw [Nat.pow_succ] at h
  exact top_zero' hp (Nat.lt_of_lt_of_le hq (Nat.pow_le_pow_right (by decide) hM)) h
theorem step_sub' {x y c z c' : Nat} {zs a d t : Nat} (h : zs + d = a + t * c) (hz : z + y + c = x + 10000 * c') : zs + t * z + (d + t * y) = a + t * x + t * 10000 * c' := by
  have e : t * (z + y + c) = t * (x + 10000 * c') := by rw [hz]
  grind
theorem sub_end {P zs n m c : Nat} (hz : zs < P) (hnm : n ≤ m) (h : zs + n = m + P * c) : zs = m - n := by
  cases c with
  | zero => rw [Nat.mul_zero] at h; omega
  | succ d =>
    rw [Nat.mul_succ] at h
    generalize P * d = Z at h
    omega
theorem val_set : ∀ (l : List Nat) (i d : Nat), i < l.length → val (l.set i d) + 10000 ^ i * l.getD i 0 = val l + 10000 ^ i * d
  | [], i, d, h => by simp at h
  | e :: l, 0, d, _ => by simp [val]; omega
  | e :: l, i + 1, d, h => by
    have := val_set l i d (by simpa using h)
    simp only [List.set_cons_succ, val, List.getD_cons_succ, Nat.pow_succ]
    generalize val (l.set i d) = a at *
    generalize val l = b at *
    generalize l.getD i 0 = x at *
    have e1 : 10000 ^ i * 10000 * x = 10000 * (10000 ^ i * x) := by rw [Nat.mul_comm (10000 ^ i), Nat.mul_assoc]
    have e2 : 10000 ^ i * 10000 * d = 10000 * (10000 ^ i * d) := by rw [Nat.mul_comm (10000 ^ i), Nat.mul_assoc]
    rw [e1, e2]
    generalize 10000 ^ i * x = X at *
    generalize 10000 ^ i * d = Y at *
    omega
theorem val_replicate (n : Nat) : val (List.replicate n 0) = 0 := by
  induction n with
  | zero => rfl
  | succ n ih => rw [List.replicate_succ, val, ih]
theorem digs_replicate (n : Nat) : Digs (List.replicate n 0) := fun d h => by rw [(List.mem_replicate.1 h).2]; decide
theorem set_getD (l : List Nat) (i j d : Nat) (h : i ≠ j) : (l.set i d).getD j 0 = l.getD j 0 := by
  rw [List.getD_eq_getElem?_getD, List.getD_eq_getElem?_getD, List.getElem?_set_ne h]
/-- one digit of the inner loop -/
theorem mul_step {a b t T K x y V c o s a' : Nat} (ht : t = T * K) (h : a + t * c = b + T * (x * V)) (hs : s = c + (x * y + o)) (ha : a' + t * o = a + t * (s % 10000)) : a' + t * 10000 * (s / 10000) = b + T * (x * (V + K * y)) := by
  have := Nat.div_add_mod s 10000
  generalize s / 10000 = q at *
  generalize s % 10000 = r at *
  have e : t * (10000 * q + r) = t * (c + (x * y + o)) := by rw [this, hs]
  subst ht
  grind
theorem mul_row {a b t T x V W n c a' : Nat} (h : a + t * c = b + T * (x * n)) (ha : a' = a + t * c) (hb : b = V * n) (hW : W = V + T * x) : a' = W * n := by
  subst ha; rw [h, hb, hW, Nat.add_mul, Nat.mul_assoc]
theorem wd_mono {m n : Nat} (h : m ≤ n) : (wd m).length ≤ (wd n).length := by
  refine Decidable.by_contra fun hh => ?_
  have := lt_of_length (m := n) (n := m) (by omega)
  omega
end Gus.D
end
