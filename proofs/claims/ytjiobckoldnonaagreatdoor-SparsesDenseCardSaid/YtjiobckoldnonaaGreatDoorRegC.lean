import Derived.Test.YtjiobckoldnonaaGreatDoorRegB
/- A drawn region by a plan, whose last operations (from number n on) wait for all others: S is asked for behind the others alone. -/
namespace Gus
open Go Go.RowKit
section
variable {P : Program} {ops : Array Oper} {Q : Exit → Act → World → Prop} {md : Region.Mode} {S : World → Prop} {n : Nat}
def wpAnyL (P : Program) (md : Region.Mode) (ops : Array Oper) (Q : Exit → Act → World → Prop) (S : World → Prop) (n : Nat) : Nat → Array Bool → Act → World → Prop
  | 0, listed, a, w => Region.ready md ops listed = [] ∧ Q .normal a w
  | fuel + 1, listed, a, w =>
    (Region.ready md ops listed = [] → Q .normal a w) ∧
    ∀ i ∈ Region.ready md ops listed, wpOp P ops Q i (fun a' w' => (i < n → S w') ∧ wpAnyL P md ops Q S n fuel (listed.setIfInBounds i true) a' w') a w
theorem wpAny_of_L : ∀ (fuel : Nat) (listed : Array Bool) (a : Act) (w : World), wpAnyL P md ops Q S n fuel listed a w → wpAny P md ops Q fuel listed a w
  | 0, _, _, _, h => h
  | fuel + 1, _, _, _, h => ⟨h.1, fun i hi => wpOp_mono (fun a' w' h' => wpAny_of_L fuel _ a' w' h'.2) (h.2 i hi)⟩
theorem wpAnyL_first {i : Nat} {oi : Oper} {v : Value} (hi : ops[i]? = some oi) (hsel : ∀ (j : Nat) (o : Oper) cs b, ops[j]? = some o → o.op ≠ .select cs b)
    (hs : Region.sinkB md ops n = true) (hc : Region.chainB md ops n = true) (hn : n < ops.size) (hin : i < n)
    (hQ : ∀ c a w, Q (.panic c) (a.put oi.dst v) w → Q (.panic c) a w) :
    ∀ (fuel : Nat) (listed : Array Bool) (a : Act) (w : World), HeadInv md ops n listed →
      (∀ j oj, ops[j]? = some oj → j ≠ i → listed.getD j true = false → (∀ e ∈ oj.after, Region.binds md e = true → e.on ≠ i) → oi.apart ops oj = true) →
      i ∈ Region.ready md ops listed → YieldsIf P ops S oi v a → S w →
      wpAnyL P md ops Q S n fuel (listed.setIfInBounds i true) (a.put oi.dst v) w → wpAnyL P md ops Q S n (fuel + 1) listed a w := by
  intro fuel
  induction fuel with
  | zero =>
    intro listed a w inv _ hr hy hS H
    refine ⟨fun h => (by rw [h] at hr; cases hr), fun j hj => ?_⟩
    by_cases hji : j = i
    · subst hji; exact hy.wpOp hi hS ⟨fun _ => hS, H⟩
    · have := ready_mono hj hji
      rw [H.1] at this
      cases this
  | succ fuel ih =>
    intro listed a w inv hfree hr hy hS H
    have hun := (mem_ready.1 hr).1
    refine ⟨fun h => (by rw [h] at hr; cases hr), fun j hj => ?_⟩
    have hjn : j < n := by
      rcases Nat.lt_or_ge j n with h | h
      · exact h
      · exact absurd hj (tail_waits hs hc hn inv _ i rfl hin hun j h)
    by_cases hji : j = i
    · subst hji; exact hy.wpOp hi hS ⟨fun _ => hS, H⟩
    · have h1 := H.2 j (ready_mono hj hji)
      obtain ⟨hjun, oj, hoj, hall⟩ := mem_ready.1 hj
      have hnot : ∀ e ∈ oj.after, Region.binds md e = true → e.on ≠ i := fun e he hb heq => by
        have h1 := hall e he hb
        rw [heq, getD_both hun] at h1
        cases h1
      have h2 := wpOp_putIf hoj (hfree j oj hoj hji hjun hnot) (fun cs b => hsel i oi cs b hi) (fun cs b => hsel j oj cs b hoj) hQ hy h1
      have hfree' : ∀ k ok, ops[k]? = some ok → k ≠ i → (listed.setIfInBounds j true).getD k true = false →
          (∀ e ∈ ok.after, Region.binds md e = true → e.on ≠ i) → oi.apart ops ok = true := fun k ok hk hki hun hno => by
        refine hfree k ok hk hki ?_ hno
        by_cases hjk : j = k
        · subst hjk; exact hjun
        · rw [getD_set_ne true hjk] at hun; exact hun
      refine wpOp_mono (fun a' w' h3 => ⟨h3.2.1, ih (listed.setIfInBounds j true) a' w' (inv.set hj hjn) hfree' (ready_mono hr (Ne.symm hji)) h3.1 (h3.2.1 hjn) ?_⟩) h2
      rw [Array.setIfInBounds_comm _ _ hji]
      exact h3.2.2
/-- the plan: quiet operations (true), loud ones (false); the last ones need no S -/
def wpMixL (P : Program) (ops : Array Oper) (Q : Exit → Act → World → Prop) (S : World → Prop) (n : Nat) : List (Nat × Bool) → Act → World → Prop
  | [], a, w => Q .normal a w
  | (i, true) :: r, a, w => ∃ o v, ops[i]? = some o ∧ YieldsIf P ops S o v a ∧ wpMixL P ops Q S n r (a.put o.dst v) w
  | (i, false) :: r, a, w => wpOp P ops Q i (fun a' w' => (i < n → S w') ∧ wpMixL P ops Q S n r a' w') a w
def mixLB (md : Region.Mode) (ops : Array Oper) (n : Nat) : List (Nat × Bool) → Array Bool → Bool
  | [], listed => (Region.ready md ops listed).isEmpty
  | (i, true) :: r, listed => decide (i < n) && (Region.ready md ops listed).contains i && Region.free md ops listed i && mixLB md ops n r (listed.setIfInBounds i true)
  | (i, false) :: r, listed => decide (Region.ready md ops listed = [i]) && mixLB md ops n r (listed.setIfInBounds i true)
/-- quiet operations stand ahead of the last ones -/
def mixOrd (n : Nat) : List (Nat × Bool) → Bool
  | [] => true
  | (i, b) :: r => (decide (i < n) || (!b && r.all fun p => !p.2)) && mixOrd n r
theorem wpAnyL_of_loud (hs : Region.noSelect ops = true) : ∀ (plan : List (Nat × Bool)) (listed : Array Bool) (a : Act) (w : World), plan.all (fun p => !p.2) = true → mixLB md ops n plan listed = true → wpMixL P ops Q S n plan a w → wpAnyL P md ops Q S n plan.length listed a w
  | [], listed, a, w, _, hB, h => by
    simp only [mixLB, List.isEmpty_iff] at hB
    exact ⟨hB, h⟩
  | (i, true) :: r, listed, a, w, hl, _, _ => by simp at hl
  | (i, false) :: r, listed, a, w, hl, hB, h => by
    simp only [mixLB, Bool.and_eq_true, decide_eq_true_eq] at hB
    simp only [List.all_cons, Bool.and_eq_true] at hl
    refine ⟨fun h0 => absurd (hB.1 ▸ h0) (by simp), fun j hj => ?_⟩
    rw [hB.1] at hj
    obtain rfl : j = i := by simpa using hj
    exact wpOp_mono (fun a' w' h' => ⟨h'.1, wpAnyL_of_loud hs r _ _ _ hl.2 hB.2 h'.2⟩) h
theorem wpAnyL_of_mix (hs : Region.noSelect ops = true) (hk : Region.sinkB md ops n = true) (hc : Region.chainB md ops n = true) (hn : n < ops.size) (hQ : ∀ c a d v w, Q (.panic c) (Act.put a d v) w → Q (.panic c) a w) :
    ∀ (plan : List (Nat × Bool)) (listed : Array Bool) (a : Act) (w : World), HeadInv md ops n listed → mixOrd n plan = true → mixLB md ops n plan listed = true → S w → wpMixL P ops Q S n plan a w → wpAnyL P md ops Q S n plan.length listed a w
  | [], listed, a, w, _, _, hB, _, h => by
    simp only [mixLB, List.isEmpty_iff] at hB
    exact ⟨hB, h⟩
  | (i, true) :: r, listed, a, w, inv, ho, hB, hS, h => by
    simp only [mixLB, Bool.and_eq_true, decide_eq_true_eq] at hB
    simp only [mixOrd, Bool.and_eq_true] at ho
    obtain ⟨o, v, hoi, hy, hk'⟩ := h
    have hr : i ∈ Region.ready md ops listed := by simpa using hB.1.1.2
    exact wpAnyL_first hoi (Region.noSelect_spec hs) hk hc hn hB.1.1.1 (fun c a w h => hQ c a o.dst v w h) _ listed a w inv (Region.free_spec hoi hB.1.2) hr hy hS (wpAnyL_of_mix hs hk hc hn hQ r _ _ _ (inv.set hr hB.1.1.1) ho.2 hB.2 hS hk')
  | (i, false) :: r, listed, a, w, inv, ho, hB, hS, h => by
    simp only [mixLB, Bool.and_eq_true, decide_eq_true_eq] at hB
    simp only [mixOrd, Bool.and_eq_true, Bool.or_eq_true, decide_eq_true_eq] at ho
    refine ⟨fun h0 => absurd (hB.1 ▸ h0) (by simp), fun j hj => ?_⟩
    have hj0 := hj
    rw [hB.1] at hj
    obtain rfl : j = i := by simpa using hj
    refine wpOp_mono (fun a' w' h' => ⟨h'.1, ?_⟩) h
    rcases Nat.lt_or_ge j n with hlt | hge
    · exact wpAnyL_of_mix hs hk hc hn hQ r _ _ _ (inv.set hj0 hlt) ho.2 hB.2 (h'.1 hlt) h'.2
    · rcases ho.1 with h1 | h1
      · omega
      · exact wpAnyL_of_loud hs r _ _ _ h1.2 hB.2 h'.2
theorem mixL_take {i : Nat} {r : List (Nat × Bool)} {o : Oper} {a : Act} {w : World} {v : Value} (ho : ops.toList[i]? = some o) (hw : Region.wanted o (yielded ops a.tmps) = true)
    (h : ∀ w, S w → (execOp a.eval o).run P w = .ok (.value v) w) (hk : wpMixL P ops Q S n r (a.put o.dst v) w) : wpMixL P ops Q S n ((i, true) :: r) a w := ⟨o, v, by rw [← Array.getElem?_toList]; exact ho, .inl ⟨hw, h⟩, hk⟩
theorem mixL_run {i : Nat} {r : List (Nat × Bool)} {o : Oper} {a : Act} {w : World} (ho : ops.toList[i]? = some o) (hw : Region.wanted o (yielded ops a.tmps) = true)
    (h : ∀ K : Act → World → Prop, (∀ a w, (i < n → S w) → wpMixL P ops Q S n r a w → K a w) → o.wp P a w K Q) : wpMixL P ops Q S n ((i, false) :: r) a w := by
  rw [Array.getElem?_toList] at ho
  unfold wpMixL wpOp
  simp only [ho, hw, if_true]
  exact .inl (h _ fun a w hS hk => ⟨hS, hk⟩)
/-- the exits of a loud operation that is walked as a list of one -/
def mixQ (Q : Exit → Act → World → Prop) (K : Act → World → Prop) : Exit → Act → World → Prop
  | .normal, a, w => K a w
  | e, a, w => Q e a w
theorem upon_mixQ {K : Act → World → Prop} {o : Oper} {a : Act} : ∀ (r : Result Next), o.upon P a K (mixQ Q K) r → o.upon P a K Q r
  | .ok (.value _) _, h => h
  | .ok .skip _, h => h
  | .ok (.defer _) _, h => h
  | .ok (.enter _ _) _, h => Calls.mono h fun e _ he => by
    cases e with
    | returned u => exact he
    | panicked c => exact he
    | outgrown => exact he
  | .ok (.row _ _) _, h => h
  | .halt (.panic _) _, h => h
  | .halt (.exit _) _, h => h
  | .ok (.round ..) _, h => h
  | .halt (.unsupported _) _, h => h
  | .halt (.stuck _) _, h => h
/-- a loud operation by a law for lists of operations -/
theorem mixL_list {i : Nat} {r : List (Nat × Bool)} {o : Oper} {a : Act} {w : World} (ho : ops.toList[i]? = some o)
    (h : wpList P ops (mixQ Q fun a' w' => (i < n → S w') ∧ wpMixL P ops Q S n r a' w') [o] a w) : wpMixL P ops Q S n ((i, false) :: r) a w := by
  rw [Array.getElem?_toList] at ho
  unfold wpMixL wpOp
  unfold wpList at h
  simp only [ho]
  split
  · rename_i hw
    rw [if_pos hw] at h
    rcases h with h | ⟨h1, h2⟩
    · exact .inl (upon_mixQ _ h)
    · exact .inr ⟨h1, h2⟩
  · rename_i hw
    rw [if_neg hw] at h
    exact h
theorem mixL_done {a : Act} {w : World} (h : Q .normal a w) : wpMixL P ops Q S n [] a w := h
theorem wp_region_mixL {id : Nat} {a : Act} {w : World} {l : List Oper} (S : World → Prop) (n : Nat) (plan : List (Nat × Bool)) (hm : P.follows .mixedOrders = true) (hs : Region.noSelect l.toArray = true) (hl : plan.length = l.toArray.size)
    (hn : decide (n < l.toArray.size) = true) (hk : Region.sinkB .any l.toArray n = true) (hc : Region.chainB .any l.toArray n = true) (ho : mixOrd n plan = true)
    (hB : mixLB .any l.toArray n plan (Array.replicate l.toArray.size false) = true) (hQ : ∀ c a d v w, Q (.panic c) (Act.put a d v) w → Q (.panic c) a w) (hS : S w.drew) (h : wpMixL P l.toArray Q S n plan a w.drew) : (Code.region id l.toArray true).wp P Q a w := by
  refine wp_region_any hm ?_
  have key := wpAnyL_of_mix (P := P) (Q := Q) (S := S) hs hk hc (by simpa using hn) hQ plan (Array.replicate l.toArray.size false) a w.drew ⟨by simp, fun j oj _ hl => (by rw [getD_replicate_false] at hl; cases hl), fun t _ ht => getD_in (by rw [Array.size_replicate]; exact ht) (getD_replicate_false _ _)⟩ ho hB hS h
  rw [hl] at key
  exact wpAny_of_L (S := S) (n := n) _ _ _ _ key
end
end Gus
