import Derived.Test.YtjbclomfocnplaaGreatDoorFlow
import Derived.Test.YtjbclomfocnplaaGreatDoorBox
/- Steps of a flow. -/
namespace Gus
open Go Go.RowKit
section
variable {P : Program} {ops : Array Oper} {w0 : World} {A : (Nat → Value) → Act} {T : Act → World → Prop} {i : Nat} {o : Oper} {os : List Oper} {V : Nat → (Nat → Value) → Value → World → Prop}
theorem okUpon_of_quiet {w : World} {v : Value} {r : Result Next} (h : Oper.quietUpon P (St w) w v r) : okUpon P (fun x _ => x = v) w r := by
  cases r with
  | ok n w' =>
    cases n <;> simp only [Oper.quietUpon] at h <;> simp only [okUpon]
    case value u => obtain ⟨rfl, rfl⟩ := h; exact ⟨rfl, St.refl _⟩
    case skip => obtain ⟨rfl, rfl⟩ := h; exact ⟨rfl, St.refl _⟩
    case enter f args =>
      obtain ⟨rfl, hc⟩ := h
      exact hc.mono fun e w'' ⟨he, hs⟩ => ⟨v, he, rfl, hs⟩
  | halt x w' => simp only [Oper.quietUpon] at h
theorem stable_eq (v : Value) : Stable (fun x _ => x = v) := fun _ _ _ h _ => h
theorem okFresh {w : World} {v : Value} {r : Result Next} (h : okUpon P (fun x _ => x = v) w r) : okUpon P (Fresh false (fun x _ => x = v) w) w r := by
  cases r with
  | ok n w' =>
    cases n <;> simp only [okUpon] at h ⊢
    case value u => exact ⟨⟨h.1, fun h => by cases h⟩, h.2⟩
    case skip => exact ⟨⟨h.1, fun h => by cases h⟩, h.2⟩
    case enter f args => exact h.mono fun e w'' ⟨v, he, hv, hs⟩ => ⟨v, he, ⟨hv, fun h => by cases h⟩, hs⟩
  | halt x w' => simp only [okUpon] at h
theorem placed_false (V : Value → World → Prop) : Placed false V := fun h => by cases h
variable {Φ : Nat → Bool}
theorem flow_pure0 {v : Value} (hg : o.guard = none) (hf : fl o = false) (h : ∀ u w, St w0 w → depH V u w o.after.toList → o.quietAt P (A u) (St w) w v)
    (k : flow P ops w0 A T (i + 1) os (ext V i fun x _ => x = v) (extB Φ i false)) : flow P ops w0 A T i (o :: os) V Φ :=
  ⟨fun _ => _, false, fun _ => stable_eq v, fun _ => placed_false _, local_const _ _, fun u w hw hd => by
    unfold okOp
    rw [if_pos (by unfold Region.wanted; rw [hg])]
    exact okFresh (okUpon_of_quiet (h u w hw hd)), fun h0 => absurd h0 (by rw [hf]; exact Bool.false_ne_true), k⟩
/-- an operation that looks at no world -/
theorem flow_float {v : Value} (hg : o.guard = none) (h : ∀ u w, St w0 w → depH V u w o.after.toList → ∀ w2, (execOp (A u).eval o).run P w2 = .ok (.value v) w2)
    (k : flow P ops w0 A T (i + 1) os (ext V i fun x _ => x = v) (extB Φ i false)) : flow P ops w0 A T i (o :: os) V Φ :=
  ⟨fun _ => _, false, fun _ => stable_eq v, fun _ => placed_false _, local_const _ _, fun u w hw hd => by
    unfold okOp
    rw [if_pos (by unfold Region.wanted; rw [hg]), h u w hw hd w]
    exact ⟨⟨rfl, fun h => by cases h⟩, St.refl _⟩, fun _ => ⟨rfl, fun u w hw hd => ⟨v, h u w hw hd, fun _ => rfl⟩⟩, k⟩
theorem flow_pureg {v : Value} {j : Nat} {b : Bool} (hg : o.guard = some (j, b)) (hy : ∀ u w, St w0 w → depH V u w o.after.toList → yielded ops (A u).tmps j = some b) (h : ∀ u w, St w0 w → depH V u w o.after.toList → o.quietAt P (A u) (St w) w v)
    (k : flow P ops w0 A T (i + 1) os (ext V i fun x _ => x = v) (extB Φ i false)) : flow P ops w0 A T i (o :: os) V Φ :=
  ⟨fun _ => _, false, fun _ => stable_eq v, fun _ => placed_false _, local_const _ _, fun u w hw hd => by
    unfold okOp
    rw [if_pos (by unfold Region.wanted; rw [hg]; simp [hy u w hw hd])]
    exact okFresh (okUpon_of_quiet (h u w hw hd)), fun h0 => absurd h0 (by unfold fl; rw [hg]; simp), k⟩
theorem flow_skipg {j : Nat} {b : Bool} (hg : o.guard = some (j, b)) (hy : ∀ u w, St w0 w → depH V u w o.after.toList → yielded ops (A u).tmps j = some (!b))
    (k : flow P ops w0 A T (i + 1) os (ext V i fun x _ => x = undef) (extB Φ i false)) : flow P ops w0 A T i (o :: os) V Φ :=
  ⟨fun _ => _, false, fun _ => stable_eq undef, fun _ => placed_false _, local_const _ _, fun u w hw hd => by
    unfold okOp
    rw [if_neg (by unfold Region.wanted; rw [hg]; cases b <;> simp [hy u w hw hd])]
    exact ⟨rfl, fun h => by cases h⟩, fun h0 => absurd h0 (by unfold fl; rw [hg]; simp), k⟩
/-- a new variable -/
def NewB (N : Nat) (T : TypeId) (zs : List Value) (x : Value) (w : World) : Prop := ∃ b, x = .pointer (some ⟨b, 0, none⟩) ∧ N ≤ b ∧ Bx w b T zs
theorem stable_new (N : Nat) (T : TypeId) (zs : List Value) : Stable (NewB N T zs) := fun _ _ _ ⟨b, h1, h2, h3⟩ hs => ⟨b, h1, h2, h3.call hs⟩
theorem placed_new (φ : Bool) (N : Nat) (T : TypeId) (zs : List Value) : Placed φ (NewB N T zs) := fun _ x w ⟨b, h1, h2, h3⟩ c hc => by
  subst h1; cases hc; exact h3.lt
theorem flow_alloc {t : TypeId} {zs : Array Value} (hg : o.guard = none) (hf : fl o = false) (h : ∀ u w, (execOp (A u).eval o).run P w = .ok (.value (.pointer (some ⟨w.heap.size, 0, none⟩))) (w.alloc (.cells zs t)))
    (k : flow P ops w0 A T (i + 1) os (ext V i (NewB w0.heap.size t zs.toList)) (extB Φ i true)) : flow P ops w0 A T i (o :: os) V Φ :=
  ⟨fun _ => _, true, fun _ => stable_new _ _ _, fun _ => placed_new _ _ _ _, local_const _ _, fun u w hw hd => by
    unfold okOp
    rw [if_pos (by unfold Region.wanted; rw [hg]), h u w]
    exact ⟨⟨⟨w.heap.size, rfl, hw.size, Bx.new _ _ _⟩, fun _ b hb => by cases hb; exact Nat.le_refl _⟩, (Below.refl _ _).alloc (Nat.le_refl _) _⟩, fun h0 => absurd h0 (by rw [hf]; exact Bool.false_ne_true), k⟩
/-- a value of which a relation is known -/
theorem flow_rel {Vi : Value → World → Prop} (φ : Bool) (hg : o.guard = none) (hf : fl o = false) (hs : Stable Vi) (hp : Placed φ Vi) (h : ∀ u w, St w0 w → depH V u w o.after.toList → okUpon P (Fresh φ Vi w) w ((execOp (A u).eval o).run P w))
    (k : flow P ops w0 A T (i + 1) os (ext V i Vi) (extB Φ i φ)) : flow P ops w0 A T i (o :: os) V Φ :=
  ⟨fun _ => _, φ, fun _ => hs, fun _ => hp, local_const _ _, fun u w hw hd => by
    unfold okOp
    rw [if_pos (by unfold Region.wanted; rw [hg])]
    exact h u w hw hd, fun h0 => absurd h0 (by rw [hf]; exact Bool.false_ne_true), k⟩
/-- an operation that looks at no world, of whose value a relation to an earlier value is known -/
theorem flow_link {R : Value → Value → Prop} {k : Nat} (hg : o.guard = none) (hk : o.after.toList.any (fun e => Region.binds .any e && e.on == k) = true) (h : ∀ u w, St w0 w → depH V u w o.after.toList → ∃ v, (∀ w2, (execOp (A u).eval o).run P w2 = .ok (.value v) w2) ∧ R (u k) v)
    (c : flow P ops w0 A T (i + 1) os (extU V i fun u x _ => R (u k) x) (extB Φ i false)) : flow P ops w0 A T i (o :: os) V Φ :=
  ⟨fun u x _ => R (u k) x, false, fun _ _ _ _ h _ => h, fun _ => placed_false _, fun u u' x w hu hR => by
    obtain ⟨e, he, h2⟩ := List.any_eq_true.1 hk
    rw [Bool.and_eq_true, beq_iff_eq] at h2
    have := hu e he h2.1
    rw [h2.2] at this
    show R (u' k) x
    rw [← this]; exact hR, fun u w hw hd => by
    obtain ⟨v, h1, h2⟩ := h u w hw hd
    unfold okOp
    rw [if_pos (by unfold Region.wanted; rw [hg]), h1 w]
    exact ⟨⟨h2, fun h => by cases h⟩, St.refl _⟩, fun _ => ⟨rfl, fun u w hw hd => by
      obtain ⟨v, h1, h2⟩ := h u w hw hd
      exact ⟨v, h1, fun _ => h2⟩⟩, c⟩
theorem St.cell {w w' : World} (h : St w w') : ∀ b o, b < w.heap.size → w'.cell? ⟨b, o, none⟩ = w.cell? ⟨b, o, none⟩ := fun b o hb => Below.cell h (p := ⟨b, o, none⟩) hb
theorem St.frozen {w w' : World} (h : St w w') : ∀ b o, b < w.heap.size → w'.frozen? ⟨b, o, none⟩ = w.frozen? ⟨b, o, none⟩ := fun b o hb => Below.frozen h (p := ⟨b, o, none⟩) hb
theorem St.ins {w w' : World} (h : St w w') : In w.heap.size w w' := ⟨h, h.size⟩
end
/-- a result of two values, taken apart -/
def TupSp (x : Value) : Prop := ∃ n m a l k e, x = .tuple #[.agg #[.int .i64 n, .int .i64 m, .slice a l k], .int .i64 e]
def MvR (y x : Value) : Prop := x = y ∧ TupSp x
def FstR (y x : Value) : Prop := ∃ n m a l k e, y = .tuple #[.agg #[.int .i64 n, .int .i64 m, .slice a l k], .int .i64 e] ∧ x = .agg #[.int .i64 n, .int .i64 m, .slice a l k]
def SndR (y x : Value) : Prop := ∃ n m a l k e, y = .tuple #[.agg #[.int .i64 n, .int .i64 m, .slice a l k], .int .i64 e] ∧ x = .int .i64 e
def TupR (Q : Value → Int → World → Prop) (x : Value) (w : World) : Prop := TupSp x ∧ ∃ d e, x = .tuple #[d, .int .i64 e] ∧ Q d e w
theorem stable_tup {Q : Value → Int → World → Prop} (h : ∀ d e w w', Q d e w → St w w' → Q d e w') : Stable (TupR Q) := fun _ _ _ ⟨h1, d, e, h2, h3⟩ hs => ⟨h1, d, e, h2, h _ _ _ _ h3 hs⟩
theorem tup_out {Q : Value → Int → World → Prop} {w : World} {x y z t : Value} (h3 : TupR Q x w) (h4 : MvR x y) (h5 : FstR y z) (h6 : SndR y t) :
    ∃ n m a l k e, x = .tuple #[.agg #[.int .i64 n, .int .i64 m, .slice a l k], .int .i64 e] ∧ y = .tuple #[.agg #[.int .i64 n, .int .i64 m, .slice a l k], .int .i64 e] ∧ z = .agg #[.int .i64 n, .int .i64 m, .slice a l k] ∧ t = .int .i64 e ∧ Q (.agg #[.int .i64 n, .int .i64 m, .slice a l k]) e w := by
  obtain ⟨_, d, e, rfl, hq⟩ := h3
  obtain ⟨rfl, _⟩ := h4
  obtain ⟨n, m, a, l, k, e1, h7, rfl⟩ := h5
  obtain ⟨n2, m2, a2, l2, k2, e2, h8, rfl⟩ := h6
  simp only [Value.tuple.injEq] at h7 h8
  have h9 := congrArg Array.toList h7
  have h10 := congrArg Array.toList h8
  simp only [List.cons.injEq, and_true, Value.int.injEq, true_and] at h9 h10
  obtain ⟨rfl, rfl⟩ := h9
  obtain ⟨_, rfl⟩ := h10
  exact ⟨n, m, a, l, k, _, rfl, rfl, rfl, rfl, hq⟩
end Gus
