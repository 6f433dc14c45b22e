import Derived.Test.YtjiobckoldnonaaGreatDoorRowB
import Derived.Test.YtjiobckoldnonaaGreatDoorShelfA
import Derived.Test.YtjiobckoldnonaaGreatDoorShelfS
import Derived.Test.YtjiobckoldnonaaGreatDoorShelfT
import Derived.Shelf.SlSortCmp.WholeK
import Derived.Shelf.Small.Bits
/- The library's sort of a row of entries; slices.Clip. -/
namespace Gus
open Go Go.RowKit Go.Proofs Go.Sort Go.Shelf
set_option maxHeartbeats 1000000 in
theorem sparse1_any (x y : Ent) (W : World) : Calls Tryz.prog 69 #[.agg (ecs x).toArray, .agg (ecs y).toArray] W fun e w' => e = .returned (.int .i64 (Lib.compareInt x.1 y.1)) ∧ ∃ q os', w' = grow (W.drewN q) os' := by
  have hcon := fun W' => Tryz.cmp_Compare_int x.1 y.1 W'
  generalize Lib.compareInt x.1 y.1 = r at hcon ⊢
  unfold ecs fcs
  go_enter Tryz.func69, Tryz.ntmps69
  go_wp2_with (go_at_call 70; refine (hcon _).mono ?_; rintro e w' ⟨rfl, rfl⟩)
  go_ret
  exact ⟨rfl, 0, _, by rw [alloc_eq_grow, alloc_eq_grow, grow_grow]; rfl⟩
theorem cmpLays1 (blk off size : Nat) (w : World) : CmpLays Tryz.prog 69 #[] ecs 6 (fun x y => Lib.compareInt x.1 y.1) blk off size w :=
  fun _ _ _ _ x y => sparse1_any x y _
theorem ltCol (x y : Ent) : ltOf (fun x y : Ent => Lib.compareInt x.1 y.1) x y = decide (x.1 < y.1) := by
  unfold ltOf Lib.compareInt
  by_cases h1 : x.1 < y.1
  · simp [h1]
  · by_cases h2 : y.1 < x.1 <;> simp [h1, h2]
theorem swoCol : SWO (ltOf fun x y : Ent => Lib.compareInt x.1 y.1) where
  irrefl x := by rw [ltCol]; simp
  trans x y z h1 h2 := by rw [ltCol] at *; simp at *; omega
  ntrans x y z h1 h2 := by rw [ltCol] at *; simp at *; omega
theorem ins_nil (fv : Value) (w : World) : Calls Tryz.prog 179 #[.slice none 0 0, .int .i64 0, .int .i64 0, fv] w fun e w' => e = .returned (.tuple #[]) ∧ w' = w := by
  go_enter Tryz.func179, Tryz.ntmps179
  go_wp2_with fail
  go_loop [8] (fun v8 => v8 = .int .i64 1) (fun _ => 0)
  case atStart => rfl
  case round =>
    subst hrel
    go_wp2_with fail
    go_end0
    exact ⟨rfl, rfl⟩
theorem pdq_nil (fv : Value) (lim : Int) (w : World) : Calls Tryz.prog 136 #[.slice none 0 0, .int .i64 0, .int .i64 0, .int .i64 lim, fv] w fun e w' => e = .returned (.tuple #[]) ∧ w' = w := by
  have h1 := ins_nil fv
  go_enter Tryz.func136, Tryz.ntmps136
  go_wp2_with fail
  go_loop [1, 2] (fun v1 v2 => v1 = .int .i64 0 ∧ v2 = .int .i64 0) (fun _ _ => 0)
  case atStart => exact ⟨rfl, rfl⟩
  case round =>
    obtain ⟨rfl, rfl⟩ := hrel
    go_wp2_with (go_at_call 179; refine (h1 _).mono ?_; rintro e w' ⟨rfl, rfl⟩)
    ((try simp only [Exit.inBlock, Exit.then]); refine bodyPost_ret (results_none rfl _ _ _) rfl ?_)
    exact ⟨rfl, rfl⟩
theorem sortE_nil (g : Nat) (w : World) : Calls Tryz.prog 68 #[.slice none 0 0, .func (.func g) #[] #[]] w fun e w' => e = .returned (.tuple #[]) ∧ w' = w := by
  have h1 := fun l W => pdq_nil (.func (.func g) #[] #[]) l W
  have h2 := fun W => Tryz.bits_Len 0 W (by decide) (by decide)
  go_enter Tryz.func68, Tryz.ntmps68
  go_wp2_with fail
  refine (h2 _).mono ?_
  rintro e w' ⟨rfl, rfl⟩
  go_wp2_with fail
  refine (h1 _ _).mono ?_
  rintro e w' ⟨rfl, rfl⟩
  go_wp2_with fail
  go_end0
  exact ⟨rfl, rfl⟩
/-- the row is sorted -/
theorem sortE_any (w : World) (lo : Nat) (ti : Bool) (v : Value) (es : List Ent) (h : RowIs w lo ti v es) (hl : es.length ≤ 2048) :
    Calls Tryz.prog 68 #[v, .func (.func 69) #[] #[]] w fun e w' => e = .returned (.tuple #[]) ∧ ∃ es' : List Ent, es'.Perm es ∧ (es'.Pairwise fun a b => ¬ b.1 < a.1) ∧ RowIs w' lo ti v es' ∧ w.grownBy w' v.ownBlock := by
  rcases h with ⟨rfl, rfl⟩ | ⟨g, cap, cur, rfl, hx⟩
  · refine (sortE_nil _ w).mono ?_
    rintro e w' ⟨rfl, rfl⟩
    exact ⟨rfl, [], .nil, .nil, .inl ⟨rfl, rfl⟩, ⟨rfl, rfl, rfl, Nat.le_refl _, fun _ _ _ => rfl⟩⟩
  · have h : RowIs w lo ti (.slice (some ⟨g, 0, none⟩) es.length cap) es := .inr ⟨g, cap, cur, rfl, hx⟩
    have eg : ∀ args w, (callFunc 69 args).run Tryz.prog w = .ok (.enter 69 args) w := enters_of Tryz.func69 (by kernel_rfl) rfl
    have hcon := AnyQ.slices_SortFunc Tryz.sortE 6 Tryz.isAgg111 Tryz.sizeOf111 ecs (fun _ => rfl) (fun x v hv => by simp [ecs, fcs] at hv; rcases hv with rfl | rfl | rfl | rfl | rfl | rfl <;> rfl) (fun x y => Lib.compareInt x.1 y.1) swoCol 69 #[] g 0 cap es.toArray w eg (cmpLays1 g 0 es.toArray.size w) (h.holds rfl) (Array.getElem?_eq_some_iff.1 hx.2.1).1 (by simp; omega)
    change Calls Tryz.prog 68 _ _ _ at hcon
    rw [show es.toArray.size = es.length by simp] at hcon
    refine hcon.mono ?_
    rintro e w' ⟨rfl, d, n, os, hp, hs, rfl⟩
    have hp' := permIn_all (d := es.toArray) (by rw [show es.toArray.size = es.length by simp]; exact hp)
    have hd : d.size = es.length := by rw [hp'.1]; simp
    refine ⟨rfl, d.toList, by simpa using hp'.2, sortedIn_all ltCol (by rw [hd]; exact hs), h.sorted rfl n d os hd, sortWorld_grown w g n d os⟩
theorem clip_some (a : Addr) (n cap : Nat) (h : n ≤ cap) (w : World) : Calls Tryz.prog 71 #[.slice (some a) n cap] w fun e w' => e = .returned (.slice (some a) n n) ∧ w' = w := by
  go_enter Tryz.func71, Tryz.ntmps71
  go_wp2_with fail
  go_ret
  exact ⟨rfl, rfl⟩
theorem clip_nil (w : World) : Calls Tryz.prog 71 #[.slice none 0 0] w fun e w' => e = .returned (.slice none 0 0) ∧ w' = w := by
  go_enter Tryz.func71, Tryz.ntmps71
  go_wp2_with fail
  go_ret
  exact ⟨rfl, rfl⟩
end Gus
