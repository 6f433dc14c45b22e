import Derived.Test.YtjiobckoldnonaaGreatDoorFlow
import Derived.Test.YtjiobckoldnonaaGreatDoorBox
/- Steps of a flow. -/
namespace Gus
open Go Go.RowKit
section
variable {P : Program} {ops : Array Oper} {w0 : World} {A : (Nat → Value) → Act} {T : Act → World → Prop} {i : Nat} {o : Oper} {os : List Oper} {V : Nat → Value → World → Prop}
theorem okUpon_of_quiet {w : World} {v : Value} {r : Result Next} (h : Oper.quietUpon P (St w) w v r) : okUpon P (fun x _ => x = v) w r := by
  cases r with
  | ok n w' =>
    cases n <;> simp only [Oper.quietUpon] at h <;> simp only [okUpon]
    case value u => obtain ⟨rfl, rfl⟩ := h; exact ⟨rfl, St.refl _⟩
    case skip => obtain ⟨rfl, rfl⟩ := h; exact ⟨rfl, St.refl _⟩
    case enter f args =>
      obtain ⟨rfl, hc⟩ := h
      exact hc.mono fun e w'' ⟨he, hs⟩ => ⟨v, he, rfl, hs⟩
  | halt x w' => simp only [Oper.quietUpon] at h
theorem stable_eq (v : Value) : Stable (fun x _ => x = v) := fun _ _ _ h _ => h
theorem okFresh {w : World} {v : Value} {r : Result Next} (h : okUpon P (fun x _ => x = v) w r) : okUpon P (Fresh false (fun x _ => x = v) w) w r := by
  cases r with
  | ok n w' =>
    cases n <;> simp only [okUpon] at h ⊢
    case value u => exact ⟨⟨h.1, fun h => by cases h⟩, h.2⟩
    case skip => exact ⟨⟨h.1, fun h => by cases h⟩, h.2⟩
    case enter f args => exact h.mono fun e w'' ⟨v, he, hv, hs⟩ => ⟨v, he, ⟨hv, fun h => by cases h⟩, hs⟩
  | halt x w' => simp only [okUpon] at h
theorem placed_false (V : Value → World → Prop) : Placed false V := fun h => by cases h
variable {Φ : Nat → Bool}
theorem flow_pure0 {v : Value} (hg : o.guard = none) (hf : fl o = false) (h : ∀ u w, St w0 w → depH V u w o.after.toList → o.quietAt P (A u) (St w) w v)
    (k : flow P ops w0 A T (i + 1) os (ext V i fun x _ => x = v) (extB Φ i false)) : flow P ops w0 A T i (o :: os) V Φ :=
  ⟨_, false, stable_eq v, placed_false _, fun u w hw hd => by
    unfold okOp
    rw [if_pos (by unfold Region.wanted; rw [hg])]
    exact okFresh (okUpon_of_quiet (h u w hw hd)), fun h0 => absurd h0 (by rw [hf]; exact Bool.false_ne_true), k⟩
/-- an operation that looks at no world -/
theorem flow_float {v : Value} (hg : o.guard = none) (h : ∀ u w, St w0 w → depH V u w o.after.toList → ∀ w2, (execOp (A u).eval o).run P w2 = .ok (.value v) w2)
    (k : flow P ops w0 A T (i + 1) os (ext V i fun x _ => x = v) (extB Φ i false)) : flow P ops w0 A T i (o :: os) V Φ :=
  ⟨_, false, stable_eq v, placed_false _, fun u w hw hd => by
    unfold okOp
    rw [if_pos (by unfold Region.wanted; rw [hg]), h u w hw hd w]
    exact ⟨⟨rfl, fun h => by cases h⟩, St.refl _⟩, fun _ => ⟨rfl, fun u w hw hd => ⟨v, h u w hw hd, fun _ => rfl⟩⟩, k⟩
theorem flow_pureg {v : Value} {j : Nat} {b : Bool} (hg : o.guard = some (j, b)) (hy : ∀ u w, St w0 w → depH V u w o.after.toList → yielded ops (A u).tmps j = some b) (h : ∀ u w, St w0 w → depH V u w o.after.toList → o.quietAt P (A u) (St w) w v)
    (k : flow P ops w0 A T (i + 1) os (ext V i fun x _ => x = v) (extB Φ i false)) : flow P ops w0 A T i (o :: os) V Φ :=
  ⟨_, false, stable_eq v, placed_false _, fun u w hw hd => by
    unfold okOp
    rw [if_pos (by unfold Region.wanted; rw [hg]; simp [hy u w hw hd])]
    exact okFresh (okUpon_of_quiet (h u w hw hd)), fun h0 => absurd h0 (by unfold fl; rw [hg]; simp), k⟩
theorem flow_skipg {j : Nat} {b : Bool} (hg : o.guard = some (j, b)) (hy : ∀ u w, St w0 w → depH V u w o.after.toList → yielded ops (A u).tmps j = some (!b))
    (k : flow P ops w0 A T (i + 1) os (ext V i fun x _ => x = undef) (extB Φ i false)) : flow P ops w0 A T i (o :: os) V Φ :=
  ⟨_, false, stable_eq undef, placed_false _, fun u w hw hd => by
    unfold okOp
    rw [if_neg (by unfold Region.wanted; rw [hg]; cases b <;> simp [hy u w hw hd])]
    exact ⟨rfl, fun h => by cases h⟩, fun h0 => absurd h0 (by unfold fl; rw [hg]; simp), k⟩
/-- a new variable -/
def NewB (N : Nat) (T : TypeId) (zs : List Value) (x : Value) (w : World) : Prop := ∃ b, x = .pointer (some ⟨b, 0, none⟩) ∧ N ≤ b ∧ Bx w b T zs
theorem stable_new (N : Nat) (T : TypeId) (zs : List Value) : Stable (NewB N T zs) := fun _ _ _ ⟨b, h1, h2, h3⟩ hs => ⟨b, h1, h2, h3.call hs⟩
theorem placed_new (φ : Bool) (N : Nat) (T : TypeId) (zs : List Value) : Placed φ (NewB N T zs) := fun _ x w ⟨b, h1, h2, h3⟩ c hc => by
  subst h1; cases hc; exact h3.lt
theorem flow_alloc {t : TypeId} {zs : Array Value} (hg : o.guard = none) (hf : fl o = false) (h : ∀ u w, (execOp (A u).eval o).run P w = .ok (.value (.pointer (some ⟨w.heap.size, 0, none⟩))) (w.alloc (.cells zs t)))
    (k : flow P ops w0 A T (i + 1) os (ext V i (NewB w0.heap.size t zs.toList)) (extB Φ i true)) : flow P ops w0 A T i (o :: os) V Φ :=
  ⟨_, true, stable_new _ _ _, placed_new _ _ _ _, fun u w hw hd => by
    unfold okOp
    rw [if_pos (by unfold Region.wanted; rw [hg]), h u w]
    exact ⟨⟨⟨w.heap.size, rfl, hw.size, Bx.new _ _ _⟩, fun _ b hb => by cases hb; exact Nat.le_refl _⟩, (Below.refl _ _).alloc (Nat.le_refl _) _⟩, fun h0 => absurd h0 (by rw [hf]; exact Bool.false_ne_true), k⟩
/-- a value of which a relation is known -/
theorem flow_rel {Vi : Value → World → Prop} (φ : Bool) (hg : o.guard = none) (hf : fl o = false) (hs : Stable Vi) (hp : Placed φ Vi) (h : ∀ u w, St w0 w → depH V u w o.after.toList → okUpon P (Fresh φ Vi w) w ((execOp (A u).eval o).run P w))
    (k : flow P ops w0 A T (i + 1) os (ext V i Vi) (extB Φ i φ)) : flow P ops w0 A T i (o :: os) V Φ :=
  ⟨_, φ, hs, hp, fun u w hw hd => by
    unfold okOp
    rw [if_pos (by unfold Region.wanted; rw [hg])]
    exact h u w hw hd, fun h0 => absurd h0 (by rw [hf]; exact Bool.false_ne_true), k⟩
theorem St.cell {w w' : World} (h : St w w') : ∀ b o, b < w.heap.size → w'.cell? ⟨b, o, none⟩ = w.cell? ⟨b, o, none⟩ := fun b o hb => Below.cell h (p := ⟨b, o, none⟩) hb
theorem St.frozen {w w' : World} (h : St w w') : ∀ b o, b < w.heap.size → w'.frozen? ⟨b, o, none⟩ = w.frozen? ⟨b, o, none⟩ := fun b o hb => Below.frozen h (p := ⟨b, o, none⟩) hb
theorem St.ins {w w' : World} (h : St w w') : In w.heap.size w w' := ⟨h, h.size⟩
end
end Gus
