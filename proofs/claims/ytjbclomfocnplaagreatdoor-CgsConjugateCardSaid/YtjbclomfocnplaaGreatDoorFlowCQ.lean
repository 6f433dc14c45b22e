/- Proved: whatever the symmetric matrix, the right-hand side and the start vector, gussetlaw19.CgsConjugate returns true, and the arguments read as before. Conditions: the three listed tables hold what the text of the program lays (the card ties them). -/
import Derived.Test.YtjbclomfocnplaaGreatDoorFlow
import Derived.Test.YtjbclomfocnplaaGreatDoorCgcQ
import Derived.Test.YtjbclomfocnplaaGreatDoorCgoQ
section
/- Regions by the flow of their data, where moves are not taken ahead of their turn (long conditions that draw their order). -/
namespace Gus
open Go Go.RowKit
section
variable {P : Program} {ops : Array Oper} {w0 : World}
/-- operation i may be taken as soon as it may come up: extracts alone -/
def isE (ops : Array Oper) (i : Nat) : Bool := (match ops[i]? with | some o => (match o.op with | .extract _ _ => true | _ => false) | none => false) && isF ops i
def sinkE (ops : Array Oper) (n : Nat) : Bool := (List.range n).all fun i => isE ops i || (List.range (n + 1)).any fun j => decide (i < j) && Region.waitsFor .any ops j i && (j == n || !isE ops j)
def flowEB (ops : Array Oper) (n : Nat) : Bool :=
  decide (n < ops.size) && sinkE ops n && Region.chainB .any ops n && backB ops n && nodupD (ops.toList.take n) && Region.seqB .any ops (ops.size - n) n (firstN n ops.size) && Region.noSelect ops
theorem tail_waitsE {n : Nat} {listed : Array Bool} (hs : sinkE ops n = true) (hc : Region.chainB .any ops n = true) (hn : n < ops.size) (inv : HeadInv .any ops n listed) :
    ∀ (d i : Nat), n - i = d → i < n → isE ops i = false → listed.getD i true = false → ∀ t, n ≤ t → t ∉ Region.ready .any ops listed := by
  intro d
  induction d using Nat.strongRecOn with
  | _ d ih =>
    intro i hd hi hF hun t ht hr
    obtain ⟨_, ot, hot, hall⟩ := mem_ready.1 hr
    have htlt : t < ops.size := (Array.getElem?_eq_some_iff.1 hot).1
    by_cases htn : t = n
    · subst htn
      have h1 := List.all_eq_true.1 hs i (List.mem_range.2 hi)
      rw [hF, Bool.false_or] at h1
      obtain ⟨j, hj, hj2⟩ := List.any_eq_true.1 h1
      simp only [Bool.and_eq_true, decide_eq_true_eq, Bool.or_eq_true, beq_iff_eq, Bool.not_eq_true'] at hj2
      obtain ⟨⟨hij, hwf⟩, hjF⟩ := hj2
      obtain ⟨oj, hoj, e, he, hb, hon⟩ := Region.waitsFor_spec hwf
      have hjle : j ≤ t := by have := List.mem_range.1 hj; omega
      by_cases hjt : j = t
      · subst hjt
        have : oj = ot := Option.some.inj (hoj.symm.trans hot)
        subst this
        have h2 := hall e he hb
        rw [hon, getD_both hun] at h2; cases h2
      · have hjF' : isE ops j = false := by
          rcases hjF with h | h
          · exact absurd h hjt
          · exact h
        have hjun : listed.getD j true = false := by
          cases hl : listed.getD j true with
          | false => rfl
          | true =>
            have hjs : j < listed.size := by rw [inv.size]; omega
            have hl' : listed.getD j false = true := by simp [hjs] at hl ⊢; exact hl
            have h2 := inv.closed j oj hoj hl' e he hb
            rw [hon, getD_both hun] at h2; cases h2
        exact ih (t - j) (by omega) j rfl (by omega) hjF' hjun t (Nat.le_refl _) hr
    · have h1 := List.all_eq_true.1 hc t (List.mem_range.2 htlt)
      simp only [Bool.or_eq_true, decide_eq_true_eq] at h1
      rcases h1 with h1 | h1
      · omega
      · obtain ⟨oj, hoj, e, he, hb, hon⟩ := Region.waitsFor_spec h1
        have : oj = ot := Option.some.inj (hoj.symm.trans hot)
        subst this
        have h2 := hall e he hb
        rw [hon, getD_both (inv.tail (t - 1) (by omega) (by omega))] at h2; cases h2
theorem wpAny_of_flowE {n : Nat} {Q : Exit → Act → World → Prop} {A : (Nat → Value) → Act} {a0 : Act} {V : Nat → (Nat → Value) → Value → World → Prop} {Φ : Nat → Bool} (hB : flowEB ops n = true) (hA : ∀ u, A u = putAll u 0 (ops.toList.take n) a0)
    (hQ : ∀ c a d v w, Q (.panic c) (Act.put a d v) w → Q (.panic c) a w)
    (hst : ∀ j, j < n → (∀ u, Stable (V j u)) ∧ (∀ u, Placed (Φ j) (V j u))) (hlo : ∀ j o, j < n → ops[j]? = some o → LocalU o (V j)) (hop : ∀ j o, j < n → ops[j]? = some o → ∀ u w, St w0 w → (∀ e ∈ o.after.toList, Region.binds .any e = true → V e.on u (u e.on) w) → okOp P ops o (A u) w (Fresh (Φ j) (V j u) w) ∧
      (fl o = true → Φ j = false ∧ ∃ v, (∀ w2, (execOp (A u).eval o).run P w2 = .ok (.value v) w2) ∧ ∀ w2, V j u v w2))
    (hT : ∀ u w, St w0 w → (∀ j, j < n → V j u (u j) w) → dist Φ u n → wpList P ops Q (ops.toList.drop n) (A u) w) :
    ∀ (c : Nat) (listed : Array Bool) (u : Nat → Value) (w : World), HeadInv .any ops n listed → cnt listed n = c → St w0 w → (∀ j, j < n → listed.getD j true = true → V j u (u j) w) →
      (∀ i j, i < n → j < n → i ≠ j → listed.getD i true = true → listed.getD j true = true → Φ i = true → Φ j = true → ∀ b, blk (u i) = some b → blk (u j) ≠ some b) → wpAny P .any ops Q (c + (ops.size - n)) listed (A u) w := by
  simp only [flowEB, Bool.and_eq_true, decide_eq_true_eq] at hB
  obtain ⟨⟨⟨⟨⟨⟨hn, hs⟩, hc⟩, hb⟩, hnd⟩, hseq⟩, hsel⟩ := hB
  have hback : ∀ i o e, i < n → ops[i]? = some o → e ∈ o.after.toList → Region.binds .any e = true → e.on < i := fun i o e hi ho he hbd => by
    have h1 := List.all_eq_true.1 hb i (List.mem_range.2 hi)
    rw [ho] at h1
    have h2 := List.all_eq_true.1 h1 e he
    rw [hbd] at h2
    simpa using h2
  intro c
  induction c with
  | zero =>
    intro listed u w inv hcn hw hv hdi
    have hall := cnt_zero n hcn
    have hl : listed = firstN n ops.size := by
      apply Array.ext
      · simp [firstN, inv.size]
      · intro i h1 h2
        simp only [firstN, List.getElem_toArray, List.getElem_map, List.getElem_range]
        by_cases hi : i < n
        · have := hall i hi
          rw [Array.getD_eq_getD_getElem?, Array.getElem?_eq_getElem h1] at this
          simpa [hi] using this
        · have := getD_both (inv.tail i (by omega) (by rw [inv.size] at h1; exact h1))
          rw [Array.getD_eq_getD_getElem?, Array.getElem?_eq_getElem h1] at this
          simpa [hi] using this
    subst hl
    rw [Nat.zero_add]
    have hdl : (ops.toList.drop n).length = ops.size - n := by simp
    have := wpAny_of_seq (P := P) (Q' := Q) (ops.toList.drop n) n (firstN n ops.size) (A u) w (fun j => by simp [List.getElem?_drop]) (by rw [hdl]; exact hseq) (hT u w hw (fun j hj => hv j hj (hall j hj)) (fun i j hi hj hne => hdi i j hi hj hne (hall i hi) (hall j hj)))
    rwa [hdl] at this
  | succ c ih =>
    intro listed u w inv hcn hw hv hdi
    rw [show c + 1 + (ops.size - n) = (c + (ops.size - n)) + 1 by omega]
    obtain ⟨i0, hi0, hun0, hmin⟩ := cnt_pos n (by omega : 0 < cnt listed n)
    have hls : ∀ j, j < n → listed.getD j true = true → listed.getD j false = true := fun j hj h => by
      have hjs : j < listed.size := by rw [inv.size]; omega
      simp [hjs] at h ⊢; exact h
    have hlt : ∀ j, j < n → listed.getD j false = true → listed.getD j true = true := fun j hj h => by
      have hjs : j < listed.size := by rw [inv.size]; omega
      simp [hjs] at h ⊢; exact h
    have hi0s : i0 < ops.size := by omega
    have ho0 : ops[i0]? = some ops[i0] := by simp [hi0s]
    have hr0 : i0 ∈ Region.ready .any ops listed :=
      mem_ready.2 ⟨hun0, ops[i0], ho0, fun e he hbd => by
        have h3 := hback i0 _ e hi0 ho0 (by simpa using he) hbd
        exact hls _ (by omega) (hmin _ h3)⟩
    have key : ∀ i o v w', i < n → ops[i]? = some o → i ∈ Region.ready .any ops listed → Fresh (Φ i) (V i u) w v w' → St w w' → wpAny P .any ops Q (c + (ops.size - n)) (listed.setIfInBounds i true) ((A u).put o.dst v) w' := fun i o v w' hin ho hi hV hs' => by
      obtain ⟨hiun, _, _, _⟩ := mem_ready.1 hi
      have hAu : (A u).put o.dst v = A (upd u i v) := by
        rw [hA, hA]
        have := putAll_upd (u := u) (v := v) (ops.toList.take n) 0 i a0 o hnd (by rw [List.getElem?_take, if_pos hin]; simpa using ho)
        rw [Nat.zero_add] at this
        exact this.symm
      rw [hAu]
      have his : i < listed.size := by rw [inv.size]; omega
      have hagree : ∀ j oj, j < n → ops[j]? = some oj → (j = i ∨ listed.getD j true = true) → ∀ e ∈ oj.after.toList, Region.binds .any e = true → u e.on = upd u i v e.on := fun j oj hj hoj hjl e he hbd => by
        have hlt' := hback j oj e hj hoj he hbd
        have hne : e.on ≠ i := fun h => by
          rcases hjl with rfl | hjl
          · omega
          · have h2 := inv.closed j oj hoj (hls j hj hjl) e (by simpa using he) hbd
            rw [h, getD_both hiun] at h2; cases h2
        unfold upd
        rw [if_neg hne]
      refine ih _ _ _ (inv.set hi hin) ?_ (hw.trans hs') (fun j hj hl => ?_) (fun i1 j1 hi1 hj1 hne hl1 hl2 hf1 hf2 b hb1 => ?_)
      · have := cnt_set hiun his n
        rw [if_pos hin] at this; omega
      · have hjs : j < ops.size := by omega
        have hoj : ops[j]? = some ops[j] := by simp [hjs]
        by_cases hji : j = i
        · subst hji
          refine hlo j _ hj hoj u _ _ _ (hagree j _ hj hoj (.inl rfl)) ?_
          unfold upd
          rw [if_pos rfl]; exact hV.1
        · rw [getD_set_ne true (fun h => hji h.symm)] at hl
          refine hlo j _ hj hoj u _ _ _ (hagree j _ hj hoj (.inr hl)) ?_
          unfold upd
          rw [if_neg hji]
          exact (hst j hj).1 u _ _ _ (hv j hj hl) hs'
      · unfold upd at hb1 ⊢
        by_cases h1 : i1 = i
        · have h2 : ¬ j1 = i := fun h => hne (h1.trans h.symm)
          rw [if_pos h1] at hb1
          rw [if_neg h2]
          intro hb2
          rw [getD_set_ne true (fun h => h2 h.symm)] at hl2
          have h3 := (hst j1 hj1).2 u hf2 _ _ (hv j1 hj1 hl2) b hb2
          have h4 := hV.2 (by rw [← h1]; exact hf1) b hb1
          omega
        · rw [if_neg h1] at hb1
          rw [getD_set_ne true (fun h => h1 h.symm)] at hl1
          by_cases h2 : j1 = i
          · rw [if_pos h2]
            intro hb2
            have h3 := (hst i1 hi1).2 u hf1 _ _ (hv i1 hi1 hl1) b hb1
            have h4 := hV.2 (by rw [← h2]; exact hf2) b hb2
            omega
          · rw [if_neg h2]
            rw [getD_set_ne true (fun h => h2 h.symm)] at hl2
            exact hdi i1 j1 hi1 hj1 hne hl1 hl2 hf1 hf2 b hb1
    have hdep : ∀ i o, i < n → ops[i]? = some o → i ∈ Region.ready .any ops listed → ∀ e ∈ o.after.toList, Region.binds .any e = true → V e.on u (u e.on) w := fun i o hin ho hi e he hbd => by
      obtain ⟨_, o', ho', hall⟩ := mem_ready.1 hi
      have : o' = o := Option.some.inj (ho'.symm.trans ho)
      subst this
      have h3 := hback i _ e hin ho he hbd
      exact hv _ (by omega) (hlt _ (by omega) (hall e (by simpa using he) hbd))
    cases hF : isE ops i0 with
    | true =>
      unfold isE at hF
      rw [Bool.and_eq_true] at hF
      replace hF := hF.2
      unfold isF at hF
      rw [ho0] at hF
      simp only [Bool.and_eq_true] at hF
      obtain ⟨hfl, hap⟩ := hF
      obtain ⟨hΦ0, v, hv1, hv2⟩ := (hop i0 _ hi0 ho0 u w hw (hdep i0 _ hi0 ho0 hr0)).2 hfl
      have hg : (ops[i0]).guard = none := by
        unfold fl at hfl
        rw [Bool.and_eq_true] at hfl
        exact Option.isNone_iff_eq_none.1 hfl.1
      refine wpAny_first (oi := ops[i0]) (v := v) ho0 (Region.noSelect_spec hsel) (fun c a w h => hQ c a _ v w h) _ listed _ w (fun j oj hj hne hun hno => ?_) hr0 (.inl ⟨by unfold Region.wanted; rw [hg], hv1⟩) (key i0 _ v w hi0 ho0 hr0 ⟨hv2 w, fun h => absurd h (by rw [hΦ0]; exact Bool.false_ne_true)⟩ (St.refl w))
      have hjs : j < ops.size := (Array.getElem?_eq_some_iff.1 hj).1
      have h1 := List.all_eq_true.1 hap j (List.mem_range.2 hjs)
      rw [hj] at h1
      simp only [Bool.or_eq_true, beq_iff_eq] at h1
      rcases h1 with ((h1 | h1) | h1) | h1
      · exact absurd h1 hne
      · obtain ⟨oj', hoj', e, he, hbd, hon⟩ := Region.waitsFor_spec h1
        have : oj' = oj := Option.some.inj (hoj'.symm.trans hj)
        subst this
        exact absurd hon (hno e he hbd)
      · obtain ⟨o', ho', e, he, hbd, hon⟩ := Region.waitsFor_spec h1
        obtain ⟨_, o'', ho'', hall⟩ := mem_ready.1 hr0
        have : o' = o'' := Option.some.inj (ho'.symm.trans ho'')
        subst this
        have h2 := hall e he hbd
        rw [hon, getD_both hun] at h2; cases h2
      · exact h1
    | false =>
      refine ⟨(fun h0 => by rw [h0] at hr0; cases hr0), fun i hi => ?_⟩
      have hin : i < n := by
        rcases Nat.lt_or_ge i n with h | h
        · exact h
        · exact absurd hi (tail_waitsE hs hc hn inv _ i0 rfl hi0 hF hun0 i h)
      obtain ⟨_, o, ho, _⟩ := mem_ready.1 hi
      exact wpOp_of_ok ho (hop i o hin ho u w hw (hdep i o hin ho hi)).1 fun v w' hV hs' => key i o v w' hin ho hi hV hs'
/-- A region that draws its order, by the flow of its data. -/
theorem wp_region_flowE {id : Nat} {Q : Exit → Act → World → Prop} {a0 : Act} {l : List Oper} (n : Nat) (hm : P.follows .mixedOrders = true) (hB : flowEB l.toArray n = true) (hQ : ∀ c a d v w, Q (.panic c) (Act.put a d v) w → Q (.panic c) a w)
    (h : flow P l.toArray w0 (fun u => putAll u 0 (l.take n) a0) (fun a w => wpList P l.toArray Q (l.drop n) a w) 0 (l.take n) (fun _ _ _ _ => True) (fun _ => false)) : (Code.region id l.toArray true).wp P Q a0 w0 := by
  obtain ⟨V, Φ, _, _, h2, h3, h4⟩ := flow_spec _ _ _ _ h
  have hB' := hB
  simp only [flowEB, Bool.and_eq_true, decide_eq_true_eq] at hB'
  obtain ⟨⟨⟨⟨⟨⟨hn, hs⟩, hc⟩, hb⟩, hnd⟩, hseq⟩, hsel⟩ := hB'
  have hn' : n < l.length := by simpa using hn
  have htl : (l.take n).length = n := by simp; omega
  rw [htl, Nat.zero_add] at h2 h4
  refine wp_region_any hm ?_
  obtain ⟨u, hu⟩ := putAll_start (l.take n) 0 a0
  have key := wpAny_of_flowE (P := P) (ops := l.toArray) (w0 := w0) (n := n) (Q := Q) (A := fun u => putAll u 0 (l.take n) a0) (a0 := a0) (V := V) (Φ := Φ) hB (fun u => rfl) hQ (fun j hj => h2 j (Nat.zero_le _) hj)
    (fun j o hj ho => by
      have h5 := (h3 j o (by rw [List.getElem?_take, if_pos hj]; simpa using ho)).1
      rwa [Nat.zero_add] at h5)
    (fun j o hj ho u w hw hd => by
      have h5 := (h3 j o (by rw [List.getElem?_take, if_pos hj]; simpa using ho)).2 (fun e he hbd => by
        have h1 := List.all_eq_true.1 hb j (List.mem_range.2 hj)
        rw [ho] at h1
        have h2 := List.all_eq_true.1 h1 e he
        rw [hbd] at h2
        simpa using h2) u w hw hd
      rwa [Nat.zero_add] at h5)
    (fun u w hw ha hdi => h4 u w hw (allH_of n ha) hdi) (cnt (Array.replicate l.toArray.size false) n) (Array.replicate l.toArray.size false) u { w0 with drawn := w0.drawn + 1 }
    ⟨by simp, fun j oj _ hl => (by rw [getD_replicate_false] at hl; cases hl), fun t _ ht => getD_in (by simpa using ht) (getD_replicate_false _ _)⟩ rfl ((Below.refl _ _).drew)
    (fun j hj hl => by
      have hjs : j < (Array.replicate l.toArray.size false).size := by rw [Array.size_replicate]; omega
      rw [getD_in hjs (getD_replicate_false _ _)] at hl; cases hl)
    (fun i j hi hj hne hl1 => by
      have hjs : i < (Array.replicate l.toArray.size false).size := by rw [Array.size_replicate]; omega
      rw [getD_in hjs (getD_replicate_false _ _)] at hl1; cases hl1)
  have hcn : cnt (Array.replicate l.toArray.size false) n = n := by
    have : ∀ k, k ≤ l.toArray.size → cnt (Array.replicate l.toArray.size false) k = k := by
      intro k
      induction k with
      | zero => intro _; rfl
      | succ k ih =>
        intro hk
        unfold cnt
        rw [ih (by omega), getD_in (by rw [Array.size_replicate]; omega) (getD_replicate_false _ _)]; rfl
    exact this n (by omega)
  rw [hcn] at key
  rw [show n + (l.toArray.size - n) = l.toArray.size by omega] at key
  simp only [hu] at key
  exact key
end
end Gus
end
section
/- gussetlaw19.CgsConjugate. -/
namespace Gus
open Go Go.RowKit Go.Proofs
section
variable {n m j : Nat} {A : Nat → Nat → Rat} {b : Vc} {s0 : Cg}
theorem runD_p {i : Nat} (h : i < j) : (runD n A b s0 j i).p = (s0.at n A i).p := by
  unfold runD stepD
  rw [decide_eq_false (by omega)]; rfl
theorem runD_pl : (runD n A b s0 j j).p = fun _ => 0 := by
  unfold runD stepD
  rw [decide_eq_true rfl]; rfl
theorem CS.zero (n m : Nat) (h : 0 < m) : CS n m m fun _ => 0 := ⟨1, fun _ => 0, by decide, by
    have := Nat.pow_le_pow_right (show 0 < 2 by decide) h
    omega, fun i _ => ⟨Nat.pow_pos (by decide), by show (0 : Rat) * ((1 : Nat) : Rat) = ((0 : Int) : Rat); decide +kernel⟩⟩
theorem RunS.dp (h : RunS n m A b s0) {i : Nat} (hi : i ≤ j) (hj : j ≤ n) : CS n m m (runD n A b s0 j i).p := by
  by_cases e : i = j
  · subst e; rw [runD_pl]; exact CS.zero n m (by have := h.hm; omega)
  · rw [runD_p (by omega)]; exact (h.hs i (by omega)).p
/-- the dot products of two steps -/
theorem conj_dots (hsy : Sym n A) (h0 : s0.p = s0.r) (hF : Fin n A s0 j) {i k : Nat} (hk : k < i) (hi : i ≤ j) :
    dt n (runD n A b s0 j i).r (runD n A b s0 j k).r = 0 ∧ dt n (runD n A b s0 j i).r (runD n A b s0 j k).p = 0 ∧ dt n (runD n A b s0 j i).p (mv n A (runD n A b s0 j k).p) = 0 := by
  have O := orth_all hsy s0 h0 j hF.2.2
  rw [runD_p (show k < j by omega)]
  refine ⟨O.rr i k hk hi, O.rp i k hk hi, ?_⟩
  by_cases e : i = j
  · subst e
    rw [runD_pl]
    unfold dt
    rw [sm_congr n (G := fun _ => 0) fun _ _ => Rat.zero_mul _, sm_zero]
  · rw [runD_p (by omega)]; exact O.pp i k hk hi
end
theorem frac_zero : fracV 0 = .agg #[.int .u64 0, .string ⟨#[]⟩, .bool false, .int .u64 0, .string ⟨#[]⟩] := rfl
set_option maxRecDepth 100000 in
set_option maxHeartbeats 8000000 in
theorem conj_any (w : World) (N : Nat) (hN : N < 256) (la : Option Addr) (lc : Nat) (l : List TQ) (hl : TAt w la l) (hok : TOk l) (hL : l.length ≤ maxLen) (ba sa : Option Addr) (bc sc : Nat) (qb qs : List (Int × Int)) (hqb : QAt w ba qb) (hqs : QAt w sa qs) (hob : QOk qb) (hos : QOk qs) (hLb : qb.length ≤ maxLen) (hLs : qs.length ≤ maxLen) :
    Calls Tryz.prog 4 #[.agg #[.int .u8 N, .slice la l.length lc], .slice ba qb.length bc, .slice sa qs.length sc] w fun e w' => e = .returned (.bool true) ∧ Below w.heap.size w w' := by
  ((have cz := cgworks_any); (have hin := In.self w); (obtain ⟨sm, hsm⟩ : ∃ sm, sm = smallT l [qb, qs] := ⟨_, rfl⟩); (obtain ⟨n, hn⟩ : ∃ n, n = N % (5 + 1) := ⟨_, rfl⟩); (have hn5 : n ≤ 5 := by omega); (have HN := Lib.hid hn); (clear hn); (go_enter Tryz.func4, Tryz.ntmps4); (go_upto_region 1 with fail); (skip); (((obtain ⟨S0, hS0⟩ : ∃ z, z = w.heap.size := ⟨_, rfl⟩); (have bS0 := Bx.new_at w #[.int .u8 N, .slice la l.length lc] 24 hS0); (replace hin := hin.alloc (.cells #[.int .u8 N, .slice la l.length lc] 24)); (replace hl := hl.call ((Below.refl _ _).alloc (Nat.le_refl _) (.cells #[.int .u8 N, .slice la l.length lc] 24))); (replace hqb := hqb.call ((Below.refl _ _).alloc (Nat.le_refl _) (.cells #[.int .u8 N, .slice la l.length lc] 24))); (replace hqs := hqs.call ((Below.refl _ _).alloc (Nat.le_refl _) (.cells #[.int .u8 N, .slice la l.length lc] 24))); (rw [← hS0]); (clear hS0); (generalize w.alloc (.cells #[.int .u8 N, .slice la l.length lc] 24) = W1 at *))); (((have s0 := bS0.c0); (have s1 := bS0.c1); (have sl := bS0.lt))); (go_wp2_with fail); (((obtain ⟨V, hV⟩ : ∃ z, z = W1.heap.size := ⟨_, rfl⟩); (have bV := Bx.new_at W1 #[.slice ba qb.length bc, .slice sa qs.length sc] 25 hV); (clear s0 s1 sl); (replace hin := hin.alloc (.cells #[.slice ba qb.length bc, .slice sa qs.length sc] 25)); (replace bS0 := bS0.alloc (.cells #[.slice ba qb.length bc, .slice sa qs.length sc] 25)); (replace hl := hl.call ((Below.refl _ _).alloc (Nat.le_refl _) (.cells #[.slice ba qb.length bc, .slice sa qs.length sc] 25))); (replace hqb := hqb.call ((Below.refl _ _).alloc (Nat.le_refl _) (.cells #[.slice ba qb.length bc, .slice sa qs.length sc] 25))); (replace hqs := hqs.call ((Below.refl _ _).alloc (Nat.le_refl _) (.cells #[.slice ba qb.length bc, .slice sa qs.length sc] 25))); (rw [← hV]); (clear hV); (generalize W1.alloc (.cells #[.slice ba qb.length bc, .slice sa qs.length sc] 25) = W2 at *))); (have c0 := small_any W2 N la lc l (some ⟨V, 0, none⟩) 2 [qb, qs] hl (qs_two bV hqb hqs) hL (by simp) (fun q hq => by simp only [List.mem_cons, List.not_mem_nil, or_false] at hq; rcases hq with rfl | rfl; exact hLb; exact hLs)); (rw [← hsm, show [qb, qs].length = 2 from rfl] at c0); (have HSM := Lib.hid hsm); (clear hsm); (((((with_reducible refine (c0).mono ?_))); (rintro e wc3 ⟨rfl, hb⟩); (clear c0 bV); (replace hin := hin.call hb); (replace hl := hl.call hb); (replace hqb := hqb.call hb); (replace hqs := hqs.call hb); (replace bS0 := bS0.call hb); (clear hb))))
  skip
  rcases sm with _ | _
  · ((go_wp2_with fail); (((with_reducible refine (cz _).mono ?_))); (rintro e wc4 ⟨rfl, hb⟩); (skip); (replace hin := hin.call hb); (replace hl := hl.call hb); (replace hqb := hqb.call hb); (replace hqs := hqs.call hb); (replace bS0 := bS0.call hb); (clear hb))
    go_wp2_with fail
    go_ret
    exact ⟨rfl, hin.bel⟩
  · skip
    ((obtain ⟨h30, hln, hbn, hsn, h12, h12'⟩ := small_split HSM.out.symm); (have hCM : CM n 332 332 (symA n l) := symA_cm hln hok h30); (have hsy := symA_sym n l); (have hRS := sys_runS (n := n) (by omega) hCM hbn hob hsn hos); (have c1 := ssymm_any (j := 10) wc3 N n 5 la lc l hl hok (by omega) hN (by decide) HN.out (fun t ht => (qOf_ss (List.all_eq_true.1 hln t ht) (hok t ht).2.2.2.2.1).szk (Nat.le_refl _) (Nat.le_refl _)) (by decide) (by decide)); (rw [show ((5 : Nat) : Int) = 5 from rfl] at c1); (((have s0 := bS0.c0); (have s1 := bS0.c1); (have sl := bS0.lt))); (go_wp2_with fail); (((with_reducible refine c1.mono ?_))); (rintro e wa ⟨⟨sv, rfl, hS⟩, hb⟩); (clear s0 s1 sl c1 bS0 hl); (replace hin := hin.call hb); (replace hqb := hqb.call hb); (replace hqs := hqs.call hb); (clear hb); (replace hS : SpM wa sv n n (symA n l) := hS.m); (obtain ⟨ra, rk, rfl⟩ := hS.shape); (go_upto_region 4 with fail); (((obtain ⟨Sb, hSb⟩ : ∃ z, z = wa.heap.size := ⟨_, rfl⟩); (have bSb := Bx.new_at wa #[.int .i64 n, .int .i64 n, .slice ra n rk] 30 hSb); (replace hin := hin.alloc (.cells #[.int .i64 n, .int .i64 n, .slice ra n rk] 30)); (replace hqb := hqb.call ((Below.refl _ _).alloc (Nat.le_refl _) (.cells #[.int .i64 n, .int .i64 n, .slice ra n rk] 30))); (replace hqs := hqs.call ((Below.refl _ _).alloc (Nat.le_refl _) (.cells #[.int .i64 n, .int .i64 n, .slice ra n rk] 30))); (replace hS := hS.call ((Below.refl _ _).alloc (Nat.le_refl _) (.cells #[.int .i64 n, .int .i64 n, .slice ra n rk] 30))); (rw [← hSb]); (clear hSb); (generalize wa.alloc (.cells #[.int .i64 n, .int .i64 n, .slice ra n rk] 30) = wS at *))); (have cv1 := fun W (h : In wS.heap.size wS W) => lvec_any W ba bc n qb (hqb.call h.bel) hob (by omega) (by omega)); (have cv2 := fun W (h : In wS.heap.size wS W) => lvec_any W sa sc n qs (hqs.call h.bel) hos (by omega) (by omega)); (((have s0 := bSb.c0); (have s1 := bSb.c1); (have s2 := bSb.c2); (have sl := bSb.lt))))
    have h := In.self wS; have hc := h.cell; have hf := h.frozen; refine wp_region_flow 8 (by kernel_rfl) (by kernel_rfl) (fun _ _ d _ _ h => by cases d <;> exact h) ?_; simp only [List.take_succ_cons, List.take_zero, List.drop_succ_cons, List.drop_zero]; simp only [putAll, Act.put, List.setIfInBounds_toArray, List.set]; (try simp only [Nat.reduceAdd]); (try simp only [Nat.zero_add]); (repeat (first | ((with_reducible refine flow_float (v := ?_) ?_ ?_ ?_); rotate_left 1; (focus (with_reducible rfl)); (focus (intro u w1 hw hd w2; (try simp only [depH] at hd); (try simp only [ext] at hd); (try simp only [extU] at hd); (try simp only [Nat.reduceAdd] at hd); (try simp only [Nat.reduceEqDiff] at hd); (try simp only [reduceIte] at hd); (try simp only [if_true] at hd); (try simp only [if_false] at hd); (try simp only [and_true] at hd); (try simp only [true_and] at hd); go_simp; exact rfl))) | ((with_reducible refine flow_pure0 (v := ?_) ?_ ?_ ?_ ?_); rotate_left 1; (focus (with_reducible rfl)); (focus rfl); (focus (intro u w1 hw hd; (try simp only [depH] at hd); (try simp only [ext] at hd); (try simp only [extU] at hd); (try simp only [Nat.reduceAdd] at hd); (try simp only [Nat.reduceEqDiff] at hd); (try simp only [reduceIte] at hd); (try simp only [if_true] at hd); (try simp only [if_false] at hd); (try simp only [and_true] at hd); (try simp only [true_and] at hd); have hc' := hw.cell; go_simp; exact rfl))) | ((with_reducible refine flow_skipg (j := ?_) (b := ?_) ?_ ?_ ?_); rotate_left 2; (focus (with_reducible rfl)); (focus (intro u w1 hw hd; (try simp only [depH] at hd); (try simp only [ext] at hd); (try simp only [extU] at hd); (try simp only [Nat.reduceAdd] at hd); (try simp only [Nat.reduceEqDiff] at hd); (try simp only [reduceIte] at hd); (try simp only [if_true] at hd); (try simp only [if_false] at hd); (try simp only [and_true] at hd); (try simp only [true_and] at hd); simp [yielded, hd]; done))) | ((with_reducible refine flow_pureg (v := ?_) (j := ?_) (b := ?_) ?_ ?_ ?_ ?_); rotate_left 3; (focus (with_reducible rfl)); (focus (intro u w1 hw hd; (try simp only [depH] at hd); (try simp only [ext] at hd); (try simp only [extU] at hd); (try simp only [Nat.reduceAdd] at hd); (try simp only [Nat.reduceEqDiff] at hd); (try simp only [reduceIte] at hd); (try simp only [if_true] at hd); (try simp only [if_false] at hd); (try simp only [and_true] at hd); (try simp only [true_and] at hd); simp [yielded, hd]; done)); (focus (intro u w1 hw hd; (try simp only [depH] at hd); (try simp only [ext] at hd); (try simp only [extU] at hd); (try simp only [Nat.reduceAdd] at hd); (try simp only [Nat.reduceEqDiff] at hd); (try simp only [reduceIte] at hd); (try simp only [if_true] at hd); (try simp only [if_false] at hd); (try simp only [and_true] at hd); (try simp only [true_and] at hd); have hc' := hw.cell; go_simp; exact rfl))) | ((with_reducible refine flow_alloc (t := ?_) (zs := ?_) ?_ ?_ ?_ ?_); rotate_left 2; (focus (with_reducible rfl)); (focus rfl); (focus (intro u w1; go_simp; exact rfl)))))
    (with_reducible refine flow_rel (Vi := VcQ (vl n (mEl qb))) false ?_ ?_ ?_ ?_ ?_ ?_); (focus rfl); (focus rfl); (focus exact stable_vcq _); (focus exact placed_false _); (focus (intro u w1 hw hd; (try simp only [depH] at hd); (try simp only [ext] at hd); (try simp only [extU] at hd); (try simp only [Nat.reduceAdd] at hd); (try simp only [Nat.reduceEqDiff] at hd); (try simp only [reduceIte] at hd); (try simp only [if_true] at hd); (try simp only [if_false] at hd); (try simp only [and_true] at hd); (try simp only [true_and] at hd); have hc' := hw.cell; go_simp; (try simp only [okUpon]); go_at_call 15; ((with_reducible refine (cv1 _ hw.ins).mono ?_)); rintro e w'' ⟨⟨v, rfl, hv⟩, hb⟩; exact ⟨v, rfl, ⟨hv, fun h => by cases h⟩, hb⟩))
    (repeat (first | ((with_reducible refine flow_float (v := ?_) ?_ ?_ ?_); rotate_left 1; (focus (with_reducible rfl)); (focus (intro u w1 hw hd w2; (try simp only [depH] at hd); (try simp only [ext] at hd); (try simp only [extU] at hd); (try simp only [Nat.reduceAdd] at hd); (try simp only [Nat.reduceEqDiff] at hd); (try simp only [reduceIte] at hd); (try simp only [if_true] at hd); (try simp only [if_false] at hd); (try simp only [and_true] at hd); (try simp only [true_and] at hd); go_simp; exact rfl))) | ((with_reducible refine flow_pure0 (v := ?_) ?_ ?_ ?_ ?_); rotate_left 1; (focus (with_reducible rfl)); (focus rfl); (focus (intro u w1 hw hd; (try simp only [depH] at hd); (try simp only [ext] at hd); (try simp only [extU] at hd); (try simp only [Nat.reduceAdd] at hd); (try simp only [Nat.reduceEqDiff] at hd); (try simp only [reduceIte] at hd); (try simp only [if_true] at hd); (try simp only [if_false] at hd); (try simp only [and_true] at hd); (try simp only [true_and] at hd); have hc' := hw.cell; go_simp; exact rfl))) | ((with_reducible refine flow_skipg (j := ?_) (b := ?_) ?_ ?_ ?_); rotate_left 2; (focus (with_reducible rfl)); (focus (intro u w1 hw hd; (try simp only [depH] at hd); (try simp only [ext] at hd); (try simp only [extU] at hd); (try simp only [Nat.reduceAdd] at hd); (try simp only [Nat.reduceEqDiff] at hd); (try simp only [reduceIte] at hd); (try simp only [if_true] at hd); (try simp only [if_false] at hd); (try simp only [and_true] at hd); (try simp only [true_and] at hd); simp [yielded, hd]; done))) | ((with_reducible refine flow_pureg (v := ?_) (j := ?_) (b := ?_) ?_ ?_ ?_ ?_); rotate_left 3; (focus (with_reducible rfl)); (focus (intro u w1 hw hd; (try simp only [depH] at hd); (try simp only [ext] at hd); (try simp only [extU] at hd); (try simp only [Nat.reduceAdd] at hd); (try simp only [Nat.reduceEqDiff] at hd); (try simp only [reduceIte] at hd); (try simp only [if_true] at hd); (try simp only [if_false] at hd); (try simp only [and_true] at hd); (try simp only [true_and] at hd); simp [yielded, hd]; done)); (focus (intro u w1 hw hd; (try simp only [depH] at hd); (try simp only [ext] at hd); (try simp only [extU] at hd); (try simp only [Nat.reduceAdd] at hd); (try simp only [Nat.reduceEqDiff] at hd); (try simp only [reduceIte] at hd); (try simp only [if_true] at hd); (try simp only [if_false] at hd); (try simp only [and_true] at hd); (try simp only [true_and] at hd); have hc' := hw.cell; go_simp; exact rfl))) | ((with_reducible refine flow_alloc (t := ?_) (zs := ?_) ?_ ?_ ?_ ?_); rotate_left 2; (focus (with_reducible rfl)); (focus rfl); (focus (intro u w1; go_simp; exact rfl)))))
    (with_reducible refine flow_rel (Vi := VcQ (vl n (mEl qs))) false ?_ ?_ ?_ ?_ ?_ ?_); (focus rfl); (focus rfl); (focus exact stable_vcq _); (focus exact placed_false _); (focus (intro u w1 hw hd; (try simp only [depH] at hd); (try simp only [ext] at hd); (try simp only [extU] at hd); (try simp only [Nat.reduceAdd] at hd); (try simp only [Nat.reduceEqDiff] at hd); (try simp only [reduceIte] at hd); (try simp only [if_true] at hd); (try simp only [if_false] at hd); (try simp only [and_true] at hd); (try simp only [true_and] at hd); have hc' := hw.cell; go_simp; (try simp only [okUpon]); go_at_call 15; ((with_reducible refine (cv2 _ hw.ins).mono ?_)); rintro e w'' ⟨⟨v, rfl, hv⟩, hb⟩; exact ⟨v, rfl, ⟨hv, fun h => by cases h⟩, hb⟩))
    (((try clear hc hf h); intro u w' h ha hdi; replace h := h.ins; (try simp only [World.size_alloc] at h); (try dsimp only at ha); (repeat rw [World.size_alloc] at ha); (try simp only [allH] at ha); (try simp only [ext] at ha); (try simp only [extU] at ha); (try simp only [Nat.reduceAdd] at ha); (try simp only [Nat.reduceEqDiff] at ha); (try simp only [reduceIte] at ha); (try simp only [if_true] at ha); (try simp only [if_false] at ha); (try simp only [and_true] at ha); (try simp only [true_and] at ha); have hc := h.cell; have hf := h.frozen; have hb := h.bel; clear hdi hc hf; clear s0 s1 s2 sl hqb hqs cv1 cv2; replace hin := hin.call hb; replace hS := hS.call hb; replace bSb := bSb.call hb; clear hb h; rename World => wv); (obtain ⟨⟨⟨⟨⟨⟨⟨h0, h1⟩, h2⟩, hvb⟩, h4⟩, h5⟩, h6⟩, hvx⟩ := ha); (replace hvb := hvb.v); (replace hvx := hvx.v); (obtain ⟨va, vk, hvbe⟩ := hvb.shape); (obtain ⟨xa, xk, hvxe⟩ := hvx.shape); (rw [vl_length] at hvbe hvxe); (rw [hvbe] at hvb); (rw [hvxe] at hvx); ((try dsimp only)); (simp only [hvbe, hvxe]); (clear h0 h1 h2 h4 h5 h6 hvbe hvxe); (obtain ⟨s0, hs0⟩ : ∃ s, s = startC n (symA n l) (mEl qb) (mEl qs) := ⟨_, rfl⟩); (have hs0x : s0.x = mEl qs := by rw [hs0]; rfl); (have hs0r : ∀ i, i < n → s0.r i = mEl qb i - mv n (symA n l) s0.x i := fun i _ => by rw [hs0]; rfl); (have hs0p : s0.p = s0.r := by rw [hs0]; rfl); (rw [← hs0] at hRS); (clear hs0); (have c3 := from_vl wv _ _ _ hS hsy hvb (by rw [hs0x]; exact hvx) hs0r hs0p hRS); (((have y0 := bSb.c0); (have y1 := bSb.c1); (have y2 := bSb.c2); (have yl := bSb.lt))); (((go_wp2_with fail); (((with_reducible refine (c3).mono ?_))); (rintro e wr ⟨⟨v, rfl, hP⟩, hb⟩); (clear y0 y1 y2 yl c3); (replace hin := hin.call hb); (replace hS := hS.call hb); (replace hvb := hvb.call hb); (replace hvx := hvx.call hb); (replace bSb := bSb.call hb); (clear hb))))
    skip
    rcases hP with ⟨j, d, hF, rfl, hst⟩ | ⟨hF, rfl⟩
    · obtain ⟨b, off, cap, he, hall⟩ := hst.open
      subst he
      clear hst
      have hjn := hF.1
      have HNN : Hid (n * n ≤ 5 * 5) := Lib.hid (Nat.mul_le_mul hn5 hn5)
      go_wp2_with fail
      go_loopw [12] (fun v12 wq => ∃ i : Nat, i ≤ j + 1 ∧ v12 = .int .i64 i ∧ In wr.heap.size wr wq) (fun v12 _ => j + 1 - (RowKit.intOf v12).toNat)
      case atStart => exact ⟨0, Nat.zero_le _, rfl, In.self _⟩
      case round =>
        rename World => wq
        obtain ⟨i, hi, rfl, hq⟩ := hrel
        by_cases hij : i < j + 1
        · have hiI : (i : Int) < ((j + 1 : Nat) : Int) := by omega
          have hi0 : (0 : Int) ≤ i := by omega
          obtain ⟨xai, rai, pai, xki, rki, pki, K⟩ := hall i hij
          replace K := K.call hq.bel
          have hSq := hS.call hq.bel
          have hvq := hvb.call hq.bel
          have bq := bSb.call hq.bel
          skip
          go_upto_region 11 with fail
          ((have y0 := bq.c0); (have y1 := bq.c1); (have y2 := bq.c2); (have yl := bq.lt))
          have k0 := K.c0
          have kl := K.lt
          skip
          have c4 := fun W (h : In wq.heap.size wq W) => (left_vl W _ _ _ (hSq.call h.bel) hsy (hvq.call h.bel) (K.x.call h.bel) (hRS.one (k := i) (by omega))).mono fun _ _ h => tupv_mk h
          have h := In.self wq; have hc := h.cell; have hf := h.frozen; refine wp_region_flow 11 (by kernel_rfl) (by kernel_rfl) (fun _ _ d _ _ h => by cases d <;> exact h) ?_; simp only [List.take_succ_cons, List.take_zero, List.drop_succ_cons, List.drop_zero]; simp only [putAll, Act.put, List.setIfInBounds_toArray, List.set]; (try simp only [Nat.reduceAdd]); (try simp only [Nat.zero_add]); (repeat (first | ((with_reducible refine flow_float (v := ?_) ?_ ?_ ?_); rotate_left 1; (focus (with_reducible rfl)); (focus (intro u w1 hw hd w2; (try simp only [depH] at hd); (try simp only [ext] at hd); (try simp only [extU] at hd); (try simp only [Nat.reduceAdd] at hd); (try simp only [Nat.reduceEqDiff] at hd); (try simp only [reduceIte] at hd); (try simp only [if_true] at hd); (try simp only [if_false] at hd); (try simp only [and_true] at hd); (try simp only [true_and] at hd); go_simp; exact rfl))) | ((with_reducible refine flow_pure0 (v := ?_) ?_ ?_ ?_ ?_); rotate_left 1; (focus (with_reducible rfl)); (focus rfl); (focus (intro u w1 hw hd; (try simp only [depH] at hd); (try simp only [ext] at hd); (try simp only [extU] at hd); (try simp only [Nat.reduceAdd] at hd); (try simp only [Nat.reduceEqDiff] at hd); (try simp only [reduceIte] at hd); (try simp only [if_true] at hd); (try simp only [if_false] at hd); (try simp only [and_true] at hd); (try simp only [true_and] at hd); have hc' := hw.cell; go_simp; exact rfl))) | ((with_reducible refine flow_skipg (j := ?_) (b := ?_) ?_ ?_ ?_); rotate_left 2; (focus (with_reducible rfl)); (focus (intro u w1 hw hd; (try simp only [depH] at hd); (try simp only [ext] at hd); (try simp only [extU] at hd); (try simp only [Nat.reduceAdd] at hd); (try simp only [Nat.reduceEqDiff] at hd); (try simp only [reduceIte] at hd); (try simp only [if_true] at hd); (try simp only [if_false] at hd); (try simp only [and_true] at hd); (try simp only [true_and] at hd); simp [yielded, hd]; done))) | ((with_reducible refine flow_pureg (v := ?_) (j := ?_) (b := ?_) ?_ ?_ ?_ ?_); rotate_left 3; (focus (with_reducible rfl)); (focus (intro u w1 hw hd; (try simp only [depH] at hd); (try simp only [ext] at hd); (try simp only [extU] at hd); (try simp only [Nat.reduceAdd] at hd); (try simp only [Nat.reduceEqDiff] at hd); (try simp only [reduceIte] at hd); (try simp only [if_true] at hd); (try simp only [if_false] at hd); (try simp only [and_true] at hd); (try simp only [true_and] at hd); simp [yielded, hd]; done)); (focus (intro u w1 hw hd; (try simp only [depH] at hd); (try simp only [ext] at hd); (try simp only [extU] at hd); (try simp only [Nat.reduceAdd] at hd); (try simp only [Nat.reduceEqDiff] at hd); (try simp only [reduceIte] at hd); (try simp only [if_true] at hd); (try simp only [if_false] at hd); (try simp only [and_true] at hd); (try simp only [true_and] at hd); have hc' := hw.cell; go_simp; exact rfl))) | ((with_reducible refine flow_alloc (t := ?_) (zs := ?_) ?_ ?_ ?_ ?_); rotate_left 2; (focus (with_reducible rfl)); (focus rfl); (focus (intro u w1; go_simp; exact rfl)))))
          (with_reducible refine flow_rel (Vi := TupV (vl n fun k => mEl qb k - mv n (symA n l) (s0.at n (symA n l) i).x k)) false ?_ ?_ ?_ ?_ ?_ ?_); (focus rfl); (focus rfl); (focus exact stable_tupv _); (focus exact placed_false _); (focus (intro u w1 hw hd; (try simp only [depH] at hd); (try simp only [ext] at hd); (try simp only [extU] at hd); (try simp only [Nat.reduceAdd] at hd); (try simp only [Nat.reduceEqDiff] at hd); (try simp only [reduceIte] at hd); (try simp only [if_true] at hd); (try simp only [if_false] at hd); (try simp only [and_true] at hd); (try simp only [true_and] at hd); have hc' := hw.cell; go_simp; (try simp only [okUpon]); go_at_call 17; ((with_reducible refine (c4 _ hw.ins).mono ?_)); rintro e w'' ⟨⟨v, rfl, hv⟩, hb⟩; exact ⟨v, rfl, ⟨hv, fun h => by cases h⟩, hb⟩))
          (((with_reducible refine flow_link (k := 7) (R := MvS) ?_ ?_ ?_ ?_); (focus rfl); (focus rfl); (focus (intro u w1 hw hd; (try simp only [depH] at hd); (try simp only [ext] at hd); (try simp only [extU] at hd); (try simp only [Nat.reduceAdd] at hd); (try simp only [Nat.reduceEqDiff] at hd); (try simp only [reduceIte] at hd); (try simp only [if_true] at hd); (try simp only [if_false] at hd); (try simp only [and_true] at hd); (try simp only [true_and] at hd); obtain ⟨⟨a, l, k, e, h3⟩, _⟩ := hd; exact ⟨u 7, fun w2 => (by go_simp), rfl, a, l, k, e, h3⟩))); ((with_reducible refine flow_link (k := 8) (R := FstS) ?_ ?_ ?_ ?_); (focus rfl); (focus rfl); (focus (intro u w1 hw hd; (try simp only [depH] at hd); (try simp only [ext] at hd); (try simp only [extU] at hd); (try simp only [Nat.reduceAdd] at hd); (try simp only [Nat.reduceEqDiff] at hd); (try simp only [reduceIte] at hd); (try simp only [if_true] at hd); (try simp only [if_false] at hd); (try simp only [and_true] at hd); (try simp only [true_and] at hd); obtain ⟨h4, a, l, k, e, h5⟩ := hd; exact ⟨.slice a l k, fun w2 => (by clear h4; go_simp), a, l, k, e, h5, rfl⟩))); ((with_reducible refine flow_link (k := 8) (R := SndS) ?_ ?_ ?_ ?_); (focus rfl); (focus rfl); (focus (intro u w1 hw hd; (try simp only [depH] at hd); (try simp only [ext] at hd); (try simp only [extU] at hd); (try simp only [Nat.reduceAdd] at hd); (try simp only [Nat.reduceEqDiff] at hd); (try simp only [reduceIte] at hd); (try simp only [if_true] at hd); (try simp only [if_false] at hd); (try simp only [and_true] at hd); (try simp only [true_and] at hd); obtain ⟨h4, a, l, k, e, h5⟩ := hd; exact ⟨.int .i64 e, fun w2 => (by clear h4; go_simp), a, l, k, e, h5, rfl⟩))))
          skip
          (try clear hc hf h); intro u w' h ha hdi; replace h := h.ins; (try simp only [World.size_alloc] at h); (try dsimp only at ha); (repeat rw [World.size_alloc] at ha); (try simp only [allH] at ha); (try simp only [ext] at ha); (try simp only [extU] at ha); (try simp only [Nat.reduceAdd] at ha); (try simp only [Nat.reduceEqDiff] at ha); (try simp only [reduceIte] at ha); (try simp only [if_true] at ha); (try simp only [if_false] at ha); (try simp only [and_true] at ha); (try simp only [true_and] at ha); have hc := h.cell; have hf := h.frozen; have hb := h.bel; clear hdi hc hf; clear y0 y1 y2 yl k0 kl c4; replace hq := hq.call hb; replace K := K.call hb; replace hSq := hSq.call hb; replace hvq := hvq.call hb; replace bq := bq.call hb; clear hb h; rename World => wl
          obtain ⟨⟨⟨⟨⟨⟨⟨⟨⟨⟨h0, h1⟩, h2⟩, h3⟩, h4⟩, h5⟩, h6⟩, h7⟩, h8⟩, h9⟩, h10⟩ := ha
          obtain ⟨_, dl, g7, hl⟩ := h7
          obtain ⟨g8, g9, g10⟩ := tups_out g7 h8 h9 h10
          obtain ⟨la', lk', he⟩ := hl.shape
          rw [vl_length] at he
          subst he
          replace hl : VecAt wl (.slice la' n lk') (vl n (runD n (symA n l) (mEl qb) s0 j i).r) := by
            rw [show vl n (runD n (symA n l) (mEl qb) s0 j i).r = vl n fun k => mEl qb k - mv n (symA n l) (s0.at n (symA n l) i).x k from vl_congr fun k hk => at_left s0 hs0r i k hk]
            exact hl
          (try dsimp only)
          simp only [g9, g10]
          clear h0 h1 h2 h3 h4 h5 h6 h8 h9 h10 g7 g8 g9 g10
          have k1 := K.c1
          have kl := K.lt
          skip
          have c5 := vsame_any wl _ _ _ _ hl K.r (by rw [vl_length]; omega)
          rw [decide_eq_true rfl] at c5
          skip
          ((go_wp2_with fail); (((with_reducible refine (c5).mono ?_))); (rintro e ws ⟨rfl, hb⟩); (clear k1 kl c5 hl); (replace hq := hq.call hb); (replace K := K.call hb); (replace hSq := hSq.call hb); (replace hvq := hvq.call hb); (replace bq := bq.call hb); (clear hb))
          go_wp2_with fail
          go_loopw [15] (fun v15 wz => ∃ k : Nat, k ≤ i ∧ v15 = .int .i64 k ∧ In ws.heap.size ws wz) (fun v15 _ => i - (RowKit.intOf v15).toNat)
          case atStart => exact ⟨0, Nat.zero_le _, rfl, In.self _⟩
          case round =>
            rename World => wz
            obtain ⟨k, hk, rfl, hz⟩ := hrel
            by_cases hki : k < i
            · have hkI : (k : Int) < (i : Int) := by omega
              have hk0 : (0 : Int) ≤ k := by omega
              have hkI2 : (k : Int) < (j : Int) + 1 := by omega
              obtain ⟨xak, rak, pak, xkk, rkk, pkk, Kk⟩ := hall k (by omega)
              replace Kk := Kk.call (hq.call hz.bel).bel
              have Ki := K.call hz.bel
              have hSz := hSq.call hz.bel
              have bz := bq.call hz.bel
              obtain ⟨d1, d2, d3⟩ := conj_dots (b := mEl qb) hsy hs0p hF hki (by omega)
              have sz1 := hRS.hs i (by omega)
              have sz2 := hRS.hs k (by omega)
              have sz3 := hRS.dp (j := j) (i := i) (by omega) hjn
              have sz4 := hRS.dp (j := j) (i := k) (by omega) hjn
              have e1 := fun W (h : In wz.heap.size wz W) => ldot_vl (j := 150000000000) (l := 150000000000) W _ _ _ _ (Ki.r.call h.bel) (Kk.r.call h.bel) (by omega) (sz1.r.szk (Nat.le_refl _) (Nat.le_refl _)) (sz2.r.szk (Nat.le_refl _) (Nat.le_refl _)) (by decide) (by decide) (by omega)
              have e2 := fun W (h : In wz.heap.size wz W) => ldot_vl (j := 150000000000) (l := 150000000000) W _ _ _ _ (Ki.r.call h.bel) (Kk.p.call h.bel) (by omega) (sz1.r.szk (Nat.le_refl _) (Nat.le_refl _)) (sz4.szk (Nat.le_refl _) (Nat.le_refl _)) (by decide) (by decide) (by omega)
              have e3 := fun W (h : In wz.heap.size wz W) => lapply_vl (j := 150000000000) (l := 150000000000) W _ _ _ _ (hSz.call h.bel) (Kk.p.call h.bel) (by omega) hRS.hA.szk (sz4.szk (Nat.le_refl _) (Nat.le_refl _)) (by decide) (by decide) (by have := HNN.out; omega)
              have e4 := fun W v (h : In wz.heap.size wz W) (hv : VcQ (vl n (mv n (symA n l) (runD n (symA n l) (mEl qb) s0 j k).p)) v W) => ldot_vl (j := 150000000000) (l := 3 * 150000000000) W _ v _ _ (Ki.p.call h.bel) hv (by omega) (sz3.szk (Nat.le_refl _) (Nat.le_refl _)) ((hRS.mv3 sz4).szk (Nat.le_refl _) (Nat.le_refl _)) (by decide) (by decide) (by omega)
              rw [d1, frac_zero] at e1
              rw [d2, frac_zero] at e2
              simp only [d3, frac_zero] at e4
              clear d1 d2 d3 sz1 sz2 sz3 sz4
              skip
              go_upto_region 17 with fail
              ((have y0 := bz.c0); (have y1 := bz.c1); (have y2 := bz.c2); (have yl := bz.lt))
              have k1 := Ki.c1
              have k2 := Ki.c2
              have k3 := Kk.c1
              have k4 := Kk.c2
              have kl := Ki.lt
              skip
              have h := In.self wz; have hc := h.cell; have hf := h.frozen; refine wp_region_flowE 44 (by kernel_rfl) (by kernel_rfl) (fun _ _ d _ _ h => by cases d <;> exact h) ?_; simp only [List.take_succ_cons, List.take_zero, List.drop_succ_cons, List.drop_zero]; simp only [putAll, Act.put, List.setIfInBounds_toArray, List.set]; (try simp only [Nat.reduceAdd]); (try simp only [Nat.zero_add]); (repeat (first | ((with_reducible refine flow_float (v := ?_) ?_ ?_ ?_); rotate_left 1; (focus (with_reducible rfl)); (focus (intro u w1 hw hd w2; (try simp only [depH] at hd); (try simp only [ext] at hd); (try simp only [extU] at hd); (try simp only [Nat.reduceAdd] at hd); (try simp only [Nat.reduceEqDiff] at hd); (try simp only [reduceIte] at hd); (try simp only [if_true] at hd); (try simp only [if_false] at hd); (try simp only [and_true] at hd); (try simp only [true_and] at hd); go_simp; exact rfl))) | ((with_reducible refine flow_pure0 (v := ?_) ?_ ?_ ?_ ?_); rotate_left 1; (focus (with_reducible rfl)); (focus rfl); (focus (intro u w1 hw hd; (try simp only [depH] at hd); (try simp only [ext] at hd); (try simp only [extU] at hd); (try simp only [Nat.reduceAdd] at hd); (try simp only [Nat.reduceEqDiff] at hd); (try simp only [reduceIte] at hd); (try simp only [if_true] at hd); (try simp only [if_false] at hd); (try simp only [and_true] at hd); (try simp only [true_and] at hd); have hc' := hw.cell; go_simp; exact rfl))) | ((with_reducible refine flow_skipg (j := ?_) (b := ?_) ?_ ?_ ?_); rotate_left 2; (focus (with_reducible rfl)); (focus (intro u w1 hw hd; (try simp only [depH] at hd); (try simp only [ext] at hd); (try simp only [extU] at hd); (try simp only [Nat.reduceAdd] at hd); (try simp only [Nat.reduceEqDiff] at hd); (try simp only [reduceIte] at hd); (try simp only [if_true] at hd); (try simp only [if_false] at hd); (try simp only [and_true] at hd); (try simp only [true_and] at hd); simp [yielded, hd]; done))) | ((with_reducible refine flow_pureg (v := ?_) (j := ?_) (b := ?_) ?_ ?_ ?_ ?_); rotate_left 3; (focus (with_reducible rfl)); (focus (intro u w1 hw hd; (try simp only [depH] at hd); (try simp only [ext] at hd); (try simp only [extU] at hd); (try simp only [Nat.reduceAdd] at hd); (try simp only [Nat.reduceEqDiff] at hd); (try simp only [reduceIte] at hd); (try simp only [if_true] at hd); (try simp only [if_false] at hd); (try simp only [and_true] at hd); (try simp only [true_and] at hd); simp [yielded, hd]; done)); (focus (intro u w1 hw hd; (try simp only [depH] at hd); (try simp only [ext] at hd); (try simp only [extU] at hd); (try simp only [Nat.reduceAdd] at hd); (try simp only [Nat.reduceEqDiff] at hd); (try simp only [reduceIte] at hd); (try simp only [if_true] at hd); (try simp only [if_false] at hd); (try simp only [and_true] at hd); (try simp only [true_and] at hd); have hc' := hw.cell; go_simp; exact rfl))) | ((with_reducible refine flow_alloc (t := ?_) (zs := ?_) ?_ ?_ ?_ ?_); rotate_left 2; (focus (with_reducible rfl)); (focus rfl); (focus (intro u w1; go_simp; exact rfl))) | ((with_reducible refine flow_pure0 (v := ?_) ?_ ?_ ?_ ?_); rotate_left 1; (focus (with_reducible rfl)); (focus rfl); (focus (intro u w1 hw hd; (try simp only [depH] at hd); (try simp only [ext] at hd); (try simp only [extU] at hd); (try simp only [Nat.reduceAdd] at hd); (try simp only [Nat.reduceEqDiff] at hd); (try simp only [reduceIte] at hd); (try simp only [if_true] at hd); (try simp only [if_false] at hd); (try simp only [and_true] at hd); (try simp only [true_and] at hd); have hc' := hw.cell; go_simp; go_at_call 26; ((with_reducible refine (e1 _ hw.ins).mono ?_)); rintro e w'' ⟨rfl, hb⟩; refine ⟨?_, hb⟩; exact rfl))) | ((with_reducible refine flow_pureg (v := ?_) (j := ?_) (b := ?_) ?_ ?_ ?_ ?_); rotate_left 3; (focus (with_reducible rfl)); (focus (intro u w1 hw hd; (try simp only [depH] at hd); (try simp only [ext] at hd); (try simp only [extU] at hd); (try simp only [Nat.reduceAdd] at hd); (try simp only [Nat.reduceEqDiff] at hd); (try simp only [reduceIte] at hd); (try simp only [if_true] at hd); (try simp only [if_false] at hd); (try simp only [and_true] at hd); (try simp only [true_and] at hd); simp [yielded, hd]; done)); (focus (intro u w1 hw hd; (try simp only [depH] at hd); (try simp only [ext] at hd); (try simp only [extU] at hd); (try simp only [Nat.reduceAdd] at hd); (try simp only [Nat.reduceEqDiff] at hd); (try simp only [reduceIte] at hd); (try simp only [if_true] at hd); (try simp only [if_false] at hd); (try simp only [and_true] at hd); (try simp only [true_and] at hd); have hc' := hw.cell; go_simp; go_at_call 26; ((with_reducible refine (e1 _ hw.ins).mono ?_)); rintro e w'' ⟨rfl, hb⟩; refine ⟨?_, hb⟩; exact rfl))) | ((with_reducible refine flow_pure0 (v := ?_) ?_ ?_ ?_ ?_); rotate_left 1; (focus (with_reducible rfl)); (focus rfl); (focus (intro u w1 hw hd; (try simp only [depH] at hd); (try simp only [ext] at hd); (try simp only [extU] at hd); (try simp only [Nat.reduceAdd] at hd); (try simp only [Nat.reduceEqDiff] at hd); (try simp only [reduceIte] at hd); (try simp only [if_true] at hd); (try simp only [if_false] at hd); (try simp only [and_true] at hd); (try simp only [true_and] at hd); have hc' := hw.cell; go_simp; go_at_call 26; ((with_reducible refine (e2 _ hw.ins).mono ?_)); rintro e w'' ⟨rfl, hb⟩; refine ⟨?_, hb⟩; exact rfl))) | ((with_reducible refine flow_pureg (v := ?_) (j := ?_) (b := ?_) ?_ ?_ ?_ ?_); rotate_left 3; (focus (with_reducible rfl)); (focus (intro u w1 hw hd; (try simp only [depH] at hd); (try simp only [ext] at hd); (try simp only [extU] at hd); (try simp only [Nat.reduceAdd] at hd); (try simp only [Nat.reduceEqDiff] at hd); (try simp only [reduceIte] at hd); (try simp only [if_true] at hd); (try simp only [if_false] at hd); (try simp only [and_true] at hd); (try simp only [true_and] at hd); simp [yielded, hd]; done)); (focus (intro u w1 hw hd; (try simp only [depH] at hd); (try simp only [ext] at hd); (try simp only [extU] at hd); (try simp only [Nat.reduceAdd] at hd); (try simp only [Nat.reduceEqDiff] at hd); (try simp only [reduceIte] at hd); (try simp only [if_true] at hd); (try simp only [if_false] at hd); (try simp only [and_true] at hd); (try simp only [true_and] at hd); have hc' := hw.cell; go_simp; go_at_call 26; ((with_reducible refine (e2 _ hw.ins).mono ?_)); rintro e w'' ⟨rfl, hb⟩; refine ⟨?_, hb⟩; exact rfl)))))
              (with_reducible refine flow_relg (Vi := VcQ (vl n (mv n (symA n l) (runD n (symA n l) (mEl qb) s0 j k).p))) (j := ?_) (b := ?_) ?_ ?_ ?_ ?_ ?_); rotate_left 2; (focus (with_reducible rfl)); (focus (intro u w1 hw hd; (try simp only [depH] at hd); (try simp only [ext] at hd); (try simp only [extU] at hd); (try simp only [Nat.reduceAdd] at hd); (try simp only [Nat.reduceEqDiff] at hd); (try simp only [reduceIte] at hd); (try simp only [if_true] at hd); (try simp only [if_false] at hd); (try simp only [and_true] at hd); (try simp only [true_and] at hd); simp [yielded, hd]; done)); (focus exact stable_vcq _); (focus (intro u w1 hw hd; (try simp only [depH] at hd); (try simp only [ext] at hd); (try simp only [extU] at hd); (try simp only [Nat.reduceAdd] at hd); (try simp only [Nat.reduceEqDiff] at hd); (try simp only [reduceIte] at hd); (try simp only [if_true] at hd); (try simp only [if_false] at hd); (try simp only [and_true] at hd); (try simp only [true_and] at hd); have hc' := hw.cell; go_simp; (try simp only [okUpon]); go_at_call 19; ((with_reducible refine (e3 _ hw.ins).mono ?_)); rintro e w'' ⟨⟨v, rfl, hv⟩, hb⟩; exact ⟨v, rfl, ⟨hv, fun h => by cases h⟩, hb⟩))
              ((with_reducible refine flow_pureg (v := .agg #[.int .u64 0, .string ⟨#[]⟩, .bool false, .int .u64 0, .string ⟨#[]⟩]) (j := ?_) (b := ?_) ?_ ?_ ?_ ?_); rotate_left 2; (focus (with_reducible rfl)); (focus (intro u w1 hw hd; (try simp only [depH] at hd); (try simp only [ext] at hd); (try simp only [extU] at hd); (try simp only [Nat.reduceAdd] at hd); (try simp only [Nat.reduceEqDiff] at hd); (try simp only [reduceIte] at hd); (try simp only [if_true] at hd); (try simp only [if_false] at hd); (try simp only [and_true] at hd); (try simp only [true_and] at hd); simp [yielded, hd]; done)); (focus (intro u w1 hw hd; (try simp only [depH] at hd); (try simp only [ext] at hd); (try simp only [extU] at hd); (try simp only [Nat.reduceAdd] at hd); (try simp only [Nat.reduceEqDiff] at hd); (try simp only [reduceIte] at hd); (try simp only [if_true] at hd); (try simp only [if_false] at hd); (try simp only [and_true] at hd); (try simp only [true_and] at hd); obtain ⟨hd1, hd2, _⟩ := hd; have hc' := hw.cell; go_simp; go_at_call 26; ((with_reducible refine (e4 _ _ hw.ins hd2).mono ?_)); rintro e w'' ⟨rfl, hb⟩; exact ⟨rfl, hb⟩)))
              (repeat (first | ((with_reducible refine flow_float (v := ?_) ?_ ?_ ?_); rotate_left 1; (focus (with_reducible rfl)); (focus (intro u w1 hw hd w2; (try simp only [depH] at hd); (try simp only [ext] at hd); (try simp only [extU] at hd); (try simp only [Nat.reduceAdd] at hd); (try simp only [Nat.reduceEqDiff] at hd); (try simp only [reduceIte] at hd); (try simp only [if_true] at hd); (try simp only [if_false] at hd); (try simp only [and_true] at hd); (try simp only [true_and] at hd); go_simp; exact rfl))) | ((with_reducible refine flow_pure0 (v := ?_) ?_ ?_ ?_ ?_); rotate_left 1; (focus (with_reducible rfl)); (focus rfl); (focus (intro u w1 hw hd; (try simp only [depH] at hd); (try simp only [ext] at hd); (try simp only [extU] at hd); (try simp only [Nat.reduceAdd] at hd); (try simp only [Nat.reduceEqDiff] at hd); (try simp only [reduceIte] at hd); (try simp only [if_true] at hd); (try simp only [if_false] at hd); (try simp only [and_true] at hd); (try simp only [true_and] at hd); have hc' := hw.cell; go_simp; exact rfl))) | ((with_reducible refine flow_skipg (j := ?_) (b := ?_) ?_ ?_ ?_); rotate_left 2; (focus (with_reducible rfl)); (focus (intro u w1 hw hd; (try simp only [depH] at hd); (try simp only [ext] at hd); (try simp only [extU] at hd); (try simp only [Nat.reduceAdd] at hd); (try simp only [Nat.reduceEqDiff] at hd); (try simp only [reduceIte] at hd); (try simp only [if_true] at hd); (try simp only [if_false] at hd); (try simp only [and_true] at hd); (try simp only [true_and] at hd); simp [yielded, hd]; done))) | ((with_reducible refine flow_pureg (v := ?_) (j := ?_) (b := ?_) ?_ ?_ ?_ ?_); rotate_left 3; (focus (with_reducible rfl)); (focus (intro u w1 hw hd; (try simp only [depH] at hd); (try simp only [ext] at hd); (try simp only [extU] at hd); (try simp only [Nat.reduceAdd] at hd); (try simp only [Nat.reduceEqDiff] at hd); (try simp only [reduceIte] at hd); (try simp only [if_true] at hd); (try simp only [if_false] at hd); (try simp only [and_true] at hd); (try simp only [true_and] at hd); simp [yielded, hd]; done)); (focus (intro u w1 hw hd; (try simp only [depH] at hd); (try simp only [ext] at hd); (try simp only [extU] at hd); (try simp only [Nat.reduceAdd] at hd); (try simp only [Nat.reduceEqDiff] at hd); (try simp only [reduceIte] at hd); (try simp only [if_true] at hd); (try simp only [if_false] at hd); (try simp only [and_true] at hd); (try simp only [true_and] at hd); have hc' := hw.cell; go_simp; exact rfl))) | ((with_reducible refine flow_alloc (t := ?_) (zs := ?_) ?_ ?_ ?_ ?_); rotate_left 2; (focus (with_reducible rfl)); (focus rfl); (focus (intro u w1; go_simp; exact rfl)))))
              skip
              (try clear hc hf h); intro u w' h ha hdi; replace h := h.ins; (try simp only [World.size_alloc] at h); (try dsimp only at ha); (repeat rw [World.size_alloc] at ha); (try simp only [allH] at ha); (try simp only [ext] at ha); (try simp only [extU] at ha); (try simp only [Nat.reduceAdd] at ha); (try simp only [Nat.reduceEqDiff] at ha); (try simp only [reduceIte] at ha); (try simp only [if_true] at ha); (try simp only [if_false] at ha); (try simp only [and_true] at ha); (try simp only [true_and] at ha); have hc := h.cell; have hf := h.frozen; have hb := h.bel; clear hdi hc hf; clear y0 y1 y2 yl k1 k2 k3 k4 kl e1 e2 e3 e4; replace hz := hz.call hb; replace bz := bz.call hb; clear hb h; rename World => wy
              (try dsimp only)
              simp only [ha]
              clear ha
              go_wp2_with fail
              exact ⟨⟨k + 1, by omega, by go_num, hz⟩, by simp [RowKit.intOf]; omega⟩
            · obtain rfl : k = i := by omega
              have hkI : ¬ (k : Int) < (k : Int) := by omega
              go_wp2_with fail
              exact ⟨⟨k + 1, by omega, by go_num, hq.call hz.bel⟩, by simp [RowKit.intOf]; omega⟩
        · obtain rfl : i = j + 1 := by omega
          have hiI : ¬ ((j : Int) + 1) < (j : Int) + 1 := by omega
          skip
          ((go_wp2_with fail); (((with_reducible refine (cz _).mono ?_))); (rintro e wc1 ⟨rfl, hb⟩); (skip); (replace hq := hq.call hb); (clear hb))
          go_wp2_with fail
          go_ret
          exact ⟨rfl, (hin.call hq.bel).bel⟩
    · skip
      ((go_wp2_with fail); (((with_reducible refine (cz _).mono ?_))); (rintro e wc7 ⟨rfl, hb⟩); (skip); (replace hin := hin.call hb); (replace hS := hS.call hb); (replace hvb := hvb.call hb); (replace hvx := hvx.call hb); (replace bSb := bSb.call hb); (clear hb))
      go_wp2_with fail
      go_ret
      exact ⟨rfl, hin.bel⟩
end Gus
end
section
/- Proved: whatever the symmetric matrix, the right-hand side and the start, gussetlaw19.CgsConjugate returns true, and the arguments read as before. Conditions: the three listed tables hold what the program's text lays (the card ties them). -/
namespace Go.Proofs.YtjbclomfocnplaaGreatDoor
open Go Go.RowKit Go.ChangeShapes Go.WideShapes Go.ChangeAt Gus
namespace Cnj
theorem params_ok : ∀ t ∈ Tryz.f4.params.toList, Tryz.prog.readableRec t = true ∧ t < Tryz.prog.types.size := by
  rw [Tryz.params4]
  intro t ht
  simp only [List.mem_cons, List.not_mem_nil, or_false] at ht
  rcases ht with rfl | rfl | rfl <;> exact ⟨by kernel_rfl, of_decide_eq_true (by kernel_rfl)⟩
set_option maxRecDepth 100000 in
theorem contract (H : Type) (enc : TypeId × Value → H) (W : World) (base : Nat) (args : Array Value) (ds gs : List (DataW H)) (before : List MemPlace)
    (hval : ∀ (j : Nat) t v, Tryz.f4.params[j]? = some t → args[j]? = some v → Value.okWide Tryz.prog W .any base t v)
    (hW : DataW.Whole enc Tryz.prog Tryz.f4.params.toList Rows.cgsConjugateSpec.vars false W args.toList ds gs before) :
    Calls Tryz.prog 4 args W fun e W' => ∃ v, e = .returned v ∧ Rows.cgsConjugateSpec.post enc Tryz.prog Tryz.f4 false true false false W args v W' := by
  have hW' := hW
  have hlt := hW.lt
  obtain ⟨p, q, hA0, hV, rfl, hfz, hnd⟩ := hW
  have hA1 : DataW.TrodAll enc Tryz.prog W 0 (fun _ => true) true Tryz.f4.params.toList args.toList ds p := hA0
  have hA := hA1
  rw [Tryz.params4] at hA hval
  obtain ⟨v0, vs0, d0, ds0, p0, q0, hargs, rfl, rfl, h0, r0⟩ := trodAll_cons hA
  obtain ⟨v1, vs1, d1, ds1, p1, q1, rfl, rfl, rfl, h1, r1⟩ := trodAll_cons r0
  obtain ⟨v2, vs2, d2, ds2, p2, q2, rfl, rfl, rfl, h2, r2⟩ := trodAll_cons r1
  obtain ⟨rfl, rfl, rfl⟩ := trodAll_nil r2
  obtain rfl : args = #[v0, v1, v2] := by cases args; simp_all
  obtain ⟨rfl, rfl⟩ := trodVars_none hV
  obtain ⟨N0, a0, l0, k0, rfl, hN0, hq0, ho0, hl0⟩ := open_s (hval 0 24 v0 (by rfl) (by rfl)) h0
  obtain ⟨a1, q1, k1, rfl, hq1, ho1, hl1⟩ := open_vec (hval 1 25 v1 (by rfl) (by rfl)) h1
  obtain ⟨a2, q2, k2, rfl, hq2, ho2, hl2⟩ := open_vec (hval 2 25 v2 (by rfl) (by rfl)) h2
  refine (conj_any W N0 hN0 a0 k0 l0 hq0 ho0 hl0 a1 a2 k1 k2 q1 q2 hq1 hq2 ho1 ho2 hl1 hl2).mono fun e W' ⟨he, hb⟩ => ?_
  subst he
  exact ⟨_, rfl, row_end (pv := []) hb hW' rfl (fun sp hsp => args_stay hb params_ok hA1 (fun x hx => hlt x (List.mem_append.2 (.inl hx))) (fun x hx => hsp x (List.mem_append.2 (.inl hx)))) (fun _ _ => rfl)
    (fun _ _ _ => trodAll_cons_mk (shut_bool Tryz.underlying4 _) trodAll_mk0) (ok_one (by kernel_rfl) rfl (okWide_bool_mk Tryz.underlying4 _))⟩
abbrev input : Array Value := #[.agg #[.int .u8 0, .slice none 0 0], .slice none 0 0, .slice none 0 0]
theorem laid_met (os : Os) : laidMet Tryz.prog Rows.cgsConjugateRow.laid ((laidW os).forCall (fun _ _ => 0) ⟨#[], input, []⟩).memory :=
  laidMet_of_run' 8 (by kernel_rfl) (by kernel_rfl)
theorem reads (os : Os) {H : Type} (enc : TypeId × Value → H) : ∃ places, DataW.whole enc Tryz.prog ((laidW os).forCall (fun _ _ => 0) ⟨#[], input, []⟩).memory Tryz.f4.params.toList Rows.cgsConjugateSpec.vars false input.toList 8 = some ([.agg [.lit (.int .u8 0), .nil], .nil, .nil], [], places) :=
  ⟨[], by kernel_rfl⟩
set_option maxRecDepth 100000 in
theorem lifted (os : Os) (started : os.Started) (H : Type) (enc : TypeId × Value → H) (F : Stop.Interp) :
    ReturnsInHanded {} Tryz.checked os 4 .any ((OpenSpec.ofChange Rows.cgsConjugateSpec).preRow enc Tryz.prog Tryz.f4 Rows.cgsConjugateRow.domain false Rows.cgsConjugateRow.laid) (((OpenSpec.ofChange Rows.cgsConjugateSpec).at F).post enc Tryz.prog Tryz.f4 false true false false) := by
  obtain ⟨places, hx⟩ := reads os enc
  refine returnsInHanded_of_row (C := Tryz.checked) (s := OpenSpec.ofChange Rows.cgsConjugateSpec) ownK started (by kernel_rfl) Tryz.func4
    (witness_row_at (enc := enc) (C := Tryz.checked) false (laidW os) input rfl (by kernel_rfl) (by kernel_rfl) (by kernel_rfl)
      (OpenSpec.preRow_of_cond 8 hx (by kernel_rfl) (fun k hk => by cases hk) (by kernel_rfl) (laid_met os))) ?_
  intro W base args ds gs before hval hW _ _ _ _ _ _
  exact contract H enc W base args ds gs before hval hW
theorem h_named : Tryz.pinned.checked.prog.funcNamed Rows.cgsConjugateRow.func = some 4 := by kernel_rfl
theorem h_closed : joinedFacts Tryz.pinned.checked.prog 4 Tryz.f4 (OpenSpec.ofChange Rows.cgsConjugateSpec).bare Rows.cgsConjugateRow = true := by kernel_rfl
theorem h_inst : Tryz.f4.isInstance Tryz.pinned.checked.prog Rows.cgsConjugateRow.origin Rows.cgsConjugateRow.targs := of_decide_eq_true (by kernel_rfl)
theorem h_wrap : Tryz.f4.isWrapper Tryz.pinned.checked.prog Rows.cgsConjugateRow.wrapper Rows.cgsConjugateRow.mainSum := by unfold Func.isWrapper; first | (rw [if_pos (by decide +kernel)]; kernel_rfl) | (rw [if_neg (by decide +kernel)]; exact ⟨rfl, rfl⟩)
theorem said : Rows.CgsConjugateSaid :=
  OpenClaim.holds_of_cond 4 Tryz.f4 rfl rfl rfl rfl rfl rfl rfl ⟨rfl, rfl, rfl, rfl, rfl⟩ rfl rfl rfl rfl rfl h_named Tryz.func4 h_closed h_inst h_wrap
    (fun os started H enc _ F => by rw [OpenClaim.pre_eq_preRow]; exact lifted os started H enc F)
theorem plain (f : FuncId) (fn : Func) (hf : Tryz.pinned.checked.prog.funcNamed "gusset/gussetlaw19.CgsConjugate" = some f) (hfn : Tryz.pinned.checked.prog.funcs[f]? = some fn) :
    false = Tryz.pinned.checked.prog.looks [] ∧ ∀ (j : Nat) t, fn.params[j]? = some t → Tryz.pinned.checked.prog.wantsStandIn t = false := by
  obtain rfl : f = 4 := Option.some.inj ((show Tryz.prog.funcNamed "gusset/gussetlaw19.CgsConjugate" = some 4 by kernel_rfl).symm.trans hf) |>.symm
  obtain rfl : fn = Tryz.f4 := (Option.some.inj (Tryz.func4.symm.trans hfn)).symm
  refine ⟨by kernel_rfl, fun j t ht => ?_⟩
  have hm := Array.mem_of_getElem? ht
  rw [Tryz.params4] at hm
  simp only [List.mem_toArray, List.mem_cons, List.not_mem_nil, or_false] at hm
  rcases hm with rfl | rfl | rfl
  · exact (show Tryz.prog.wantsStandIn 24 = false by kernel_rfl)
  · exact (show Tryz.prog.wantsStandIn 25 = false by kernel_rfl)
  · exact (show Tryz.prog.wantsStandIn 25 = false by kernel_rfl)
end Cnj
/-- the card -/
theorem conjugate_card : Rows.CgsConjugateCardSaid :=
  Claim7.holds_tied_plain_at .later [] _ _ _ _ Cnj.said (fun _ h => by cases h) (by kernel_rfl) (fun _ h => by cases h) cgsConjugate_row_tie rfl ⟨rfl, rfl⟩ (by kernel_rfl) rfl Cnj.plain (by kernel_rfl)
end Go.Proofs.YtjbclomfocnplaaGreatDoor
end
