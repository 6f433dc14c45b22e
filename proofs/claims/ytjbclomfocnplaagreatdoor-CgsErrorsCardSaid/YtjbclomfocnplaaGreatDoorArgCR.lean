/- Proved: whatever the raw matrix and the vectors, gussetlaw19.CgsErrors returns true, and the arguments read as before. Conditions: the three listed tables hold what the program's text lays (the card ties them). -/
import Derived.Test.YtjbclomfocnplaaGreatDoorSameR
import Derived.Test.YtjbclomfocnplaaGreatDoorIvaR
import Derived.Deep.Slices
import Derived.Deep.Strs
import Derived.Test.YtjbclomfocnplaaGreatDoorCgoR
import Derived.Test.YtjbclomfocnplaaGreatDoorErpR
section
/- Arguments: raw matrices of the statements. -/
namespace Gus
open Go Go.RowKit Go.Proofs Go.ChangeShapes Go.WideShapes Go.ChangeAt Go.Deep
section
variable {H : Type} {enc : TypeId × Value → H} {W : World} {base : Nat} {sp : Nat → Bool} {held : Bool}
set_option maxRecDepth 100000 in
theorem open_es {fuel : Nat} {cs : List Value} {x : DataW H × List MemPlace} (h : DataW.trod enc Tryz.prog W base sp held fuel 77 cs = some x) :
    ∃ v l, cs = [v] ∧ EAt W v l ∧ EOk l ∧ l.length ≤ maxLen := by
  rcases open_slice Tryz.underlying77 h with ⟨rfl, _⟩ | ⟨a, len, cap, m, n, D, Pl, rfl, hb, hlc, hcm, hm, _, hx⟩
  · exact ⟨_, [], rfl, ⟨none, 0, rfl, fun i hi => absurd hi (Nat.not_lt_zero _)⟩, fun p hp => by (cases hp), Nat.zero_le _⟩
  · have hlm : len ≤ m := by rw [hm]; split <;> omega
    have each : ∀ i, i < len → ∃ q : EQ, W.cell? (a.add (i * 3)) = some (.int .i64 q.1) ∧ W.cell? (a.add (i * 3 + 1)) = some (.int .i64 q.2.1) ∧ W.cell? (a.add (i * 3 + 2)) = some (.int .u32 q.2.2) ∧
        -9223372036854775808 ≤ q.2.1 ∧ q.2.1 < 9223372036854775808 ∧ 0 ≤ q.2.2 ∧ q.2.2 < 4294967296 := by
      intro i hi
      obtain ⟨cs', h1, h2⟩ := hx i (by omega)
      rw [show Tryz.prog.cellsOf 84 = 3 by kernel_rfl] at h1
      obtain ⟨_, hlen, hcell⟩ := World.cells?_some h1
      obtain ⟨y0, y1, k, _, _, g0, g1⟩ := trod_struct2 Tryz.underlying84 h2
      match cs', hlen with
      | [v0, v1, v2], _ =>
        obtain ⟨z0, e0, _, w0⟩ := DataW.trod_int Tryz.underlying3 g0
        obtain ⟨u0, u1, _, _, _, g2, g3⟩ := trod_struct2 Tryz.underlying82 g1
        obtain ⟨z1, e1, _, w1⟩ := DataW.trod_int Tryz.underlying2 g2
        obtain ⟨z2, e2, _, w2⟩ := DataW.trod_int Tryz.underlying80 g3
        simp [show Tryz.prog.cellsOf 3 = 1 by kernel_rfl, show Tryz.prog.cellsOf 2 = 1 by kernel_rfl, show Tryz.prog.cellsOf 80 = 1 by kernel_rfl, show Tryz.prog.cellsOf 82 = 2 by kernel_rfl] at e0 e1 e2
        subst e0 e1 e2
        have b1 := bounds_i64 w1
        have b2 := bounds_u32 w2
        have f0 := hcell 0 (by omega)
        have f1 := hcell 1 (by omega)
        have f2 := hcell 2 (by omega)
        rw [add_add] at f0 f1 f2
        exact ⟨(z0, z1, z2), by simpa using f0, by simpa using f1, by simpa using f2, b1.1, (by show z1 < _; omega), b2.1, (by show z2 < _; omega)⟩
    obtain ⟨q, hq⟩ := choose_lt each
    have hlen : ((List.range len).map q).length = len := by simp
    refine ⟨_, (List.range len).map q, rfl, ⟨some a, cap, by rw [hlen], fun k hk => ?_⟩, fun p hp => ?_, by rw [hlen]; omega⟩
    · rw [hlen] at hk
      obtain ⟨c0, c1, c2, _⟩ := hq k hk
      obtain ⟨b, off, spot⟩ := a
      obtain rfl : spot = none := by
        have hs := World.cell?_spot (hq 0 (by omega)).1
        simpa [Addr.add] using hs
      rw [add_plain] at c0 c1 c2
      have e : ((List.range len).map q).getD k (0, 0, 0) = q k := by simp [hk]
      rw [e]
      exact ⟨b, off, rfl, cell_in c0, c0, by rw [Nat.add_assoc]; exact c1, by rw [Nat.add_assoc]; exact c2⟩
    · obtain ⟨i, hi, rfl⟩ := List.mem_map.1 hp
      exact (hq i (List.mem_range.1 hi)).2.2.2
set_option maxRecDepth 100000 in
theorem open_ess {fuel : Nat} {cs : List Value} {x : DataW H × List MemPlace} (h : DataW.trod enc Tryz.prog W base sp held fuel 74 cs = some x) :
    ∃ a es cap, cs = [.slice a (List.length es) cap] ∧ RawAt W a es ∧ (∀ l ∈ es, EOk l) ∧ (∀ l ∈ es, l.length ≤ maxLen) ∧ es.length ≤ maxLen := by
  rcases open_slice1 Tryz.underlying74 (by kernel_rfl) h with ⟨rfl, _⟩ | ⟨a, len, cap, m, n, V, D, Pl, rfl, hb, hlc, hcm, hm, _, hx⟩
  · exact ⟨none, [], 0, rfl, fun i hi => absurd hi (Nat.not_lt_zero _), fun p hp => by (cases hp), fun p hp => by (cases hp), Nat.zero_le _⟩
  · have hlm : len ≤ m := by rw [hm]; split <;> omega
    have each : ∀ i, i < len → ∃ l : List EQ, W.cell? (a.add i) = some (V i) ∧ EAt W (V i) l ∧ EOk l ∧ l.length ≤ maxLen := by
      intro i hi
      obtain ⟨h1, h2⟩ := hx i (by omega)
      obtain ⟨v, l, e, k1, k2, k3⟩ := open_es h2
      simp only [List.cons.injEq, and_true] at e
      subst e
      exact ⟨l, h1, k1, k2, k3⟩
    obtain ⟨q, hq⟩ := choose_lt each
    have hlen : ((List.range len).map q).length = len := by simp
    refine ⟨some a, (List.range len).map q, cap, by rw [hlen], fun k hk => ?_, fun p hp => ?_, fun p hp => ?_, by rw [hlen]; omega⟩
    · rw [hlen] at hk
      obtain ⟨c0, c1, _⟩ := hq k hk
      obtain ⟨b, off, spot⟩ := a
      obtain rfl : spot = none := by
        have hs := World.cell?_spot (hq 0 (by omega)).1
        simpa [Addr.add] using hs
      rw [add_plain] at c0
      have e : ((List.range len).map q).getD k [] = q k := by simp [hk]
      rw [e]
      exact ⟨b, off, V k, rfl, cell_in c0, c0, c1⟩
    · obtain ⟨i, hi, rfl⟩ := List.mem_map.1 hp
      exact (hq i (List.mem_range.1 hi)).2.2.1
    · obtain ⟨i, hi, rfl⟩ := List.mem_map.1 hp
      exact (hq i (List.mem_range.1 hi)).2.2.2
set_option maxRecDepth 100000 in
theorem open_raw {b0 : Nat} {v : Value} {d : DataW H} {ps : List MemPlace} (hval : Value.okWide Tryz.prog W .any b0 76 v) (hd : DataW.Trod enc Tryz.prog W base sp held 76 v d ps) :
    ∃ (n m : Int) (a : Option Addr) (es : List (List EQ)) (cap : Nat), v = .agg #[.int .i64 n, .int .i64 m, .slice a es.length cap] ∧ RawAt W a es ∧ (∀ l ∈ es, EOk l) ∧ (∀ l ∈ es, l.length ≤ maxLen) ∧ es.length ≤ maxLen := by
  obtain ⟨cs, rfl, hs⟩ := okWide_struct Tryz.underlying76 hval
  obtain ⟨fuel, hf⟩ := hd
  rw [show Tryz.prog.cellsOf 76 = 3 by kernel_rfl] at hs
  obtain ⟨x, y, z, rfl⟩ : ∃ x y z, cs = #[x, y, z] := by
    rcases cs with ⟨l⟩
    match l, hs with
    | [x, y, z], _ => exact ⟨x, y, z, rfl⟩
  obtain ⟨xs, m, _, _, _, hxl, hf⟩ := DataW.trod_struct Tryz.underlying76 hf
  match xs, hxl with
  | [y0, y1, y2], _ =>
    have h0 := hf 0 _ rfl
    have h1 := hf 1 _ rfl
    have h2 := hf 2 _ rfl
    obtain ⟨n, g0, _, w0⟩ := DataW.trod_int Tryz.underlying3 h0
    obtain ⟨e, g1, _, w1⟩ := DataW.trod_int Tryz.underlying3 h1
    obtain ⟨a, es, cap, g2, k1, k2, k3, k4⟩ := open_ess h2
    simp [Value.cells, show Tryz.prog.cellsOf 3 = 1 by kernel_rfl, show Tryz.prog.cellsOf 74 = 1 by kernel_rfl] at g0 g1 g2
    subst g0 g1 g2
    exact ⟨n, e, a, es, cap, rfl, k1, k2, k3, k4⟩
end
end Gus
end
section
/- Proved: whatever the raw matrix and the vectors, gussetlaw19.CgsErrors returns true, and the arguments read as before. Conditions: the three listed tables hold what the program's text lays (the card ties them). -/
namespace Go.Proofs.YtjbclomfocnplaaGreatDoor
open Go Go.RowKit Go.ChangeShapes Go.WideShapes Go.ChangeAt Gus
namespace Err
theorem params_ok : ∀ t ∈ Tryz.f6.params.toList, Tryz.prog.readableRec t = true ∧ t < Tryz.prog.types.size := by
  rw [Tryz.params6]
  intro t ht
  simp only [List.mem_cons, List.not_mem_nil, or_false] at ht
  rcases ht with rfl | rfl | rfl <;> exact ⟨by kernel_rfl, of_decide_eq_true (by kernel_rfl)⟩
set_option maxRecDepth 100000 in
theorem contract (H : Type) (enc : TypeId × Value → H) (W : World) (base : Nat) (args : Array Value) (ds gs : List (DataW H)) (before : List MemPlace)
    (hval : ∀ (j : Nat) t v, Tryz.f6.params[j]? = some t → args[j]? = some v → Value.okWide Tryz.prog W .any base t v)
    (hW : DataW.Whole enc Tryz.prog Tryz.f6.params.toList Rows.cgsErrorsSpec.vars false W args.toList ds gs before) :
    Calls Tryz.prog 6 args W fun e W' => ∃ v, e = .returned v ∧ Rows.cgsErrorsSpec.post enc Tryz.prog Tryz.f6 false true false false W args v W' := by
  have hW' := hW
  have hlt := hW.lt
  obtain ⟨p, q, hA0, hV, rfl, hfz, hnd⟩ := hW
  have hA1 : DataW.TrodAll enc Tryz.prog W 0 (fun _ => true) true Tryz.f6.params.toList args.toList ds p := hA0
  have hA := hA1
  rw [Tryz.params6] at hA hval
  obtain ⟨v0, vs0, d0, ds0, p0, q0, hargs, rfl, rfl, h0, r0⟩ := trodAll_cons hA
  obtain ⟨v1, vs1, d1, ds1, p1, q1, rfl, rfl, rfl, h1, r1⟩ := trodAll_cons r0
  obtain ⟨v2, vs2, d2, ds2, p2, q2, rfl, rfl, rfl, h2, r2⟩ := trodAll_cons r1
  obtain ⟨rfl, rfl, rfl⟩ := trodAll_nil r2
  obtain rfl : args = #[v0, v1, v2] := by cases args; simp_all
  obtain ⟨rfl, rfl⟩ := trodVars_none hV
  obtain ⟨n0, m0, a0, es0, k0, rfl, hq0, ho0, hll0, hl0⟩ := open_raw (hval 0 76 v0 (by rfl) (by rfl)) h0
  obtain ⟨a1, q1, k1, rfl, hq1, ho1, hl1⟩ := open_vec (hval 1 25 v1 (by rfl) (by rfl)) h1
  obtain ⟨a2, q2, k2, rfl, hq2, ho2, hl2⟩ := open_vec (hval 2 25 v2 (by rfl) (by rfl)) h2
  refine (errors_any W n0 m0 a0 k0 es0 hq0 ho0 hl0 hll0 a1 a2 k1 k2 q1 q2 hq1 hq2 ho1 ho2 hl1 hl2).mono fun e W' ⟨he, hb⟩ => ?_
  subst he
  exact ⟨_, rfl, row_end (pv := []) hb hW' rfl (fun sp hsp => args_stay hb params_ok hA1 (fun x hx => hlt x (List.mem_append.2 (.inl hx))) (fun x hx => hsp x (List.mem_append.2 (.inl hx)))) (fun _ _ => rfl)
    (fun _ _ _ => trodAll_cons_mk (shut_bool Tryz.underlying4 _) trodAll_mk0) (ok_one (by kernel_rfl) rfl (okWide_bool_mk Tryz.underlying4 _))⟩
abbrev input : Array Value := #[.agg #[.int .i64 0, .int .i64 0, .slice none 0 0], .slice none 0 0, .slice none 0 0]
theorem laid_met (os : Os) : laidMet Tryz.prog Rows.cgsErrorsRow.laid ((laidW os).forCall (fun _ _ => 0) ⟨#[], input, []⟩).memory :=
  laidMet_of_run' 8 (by kernel_rfl) (by kernel_rfl)
theorem reads (os : Os) {H : Type} (enc : TypeId × Value → H) : ∃ places, DataW.whole enc Tryz.prog ((laidW os).forCall (fun _ _ => 0) ⟨#[], input, []⟩).memory Tryz.f6.params.toList Rows.cgsErrorsSpec.vars false input.toList 8 = some ([.agg [.lit (.int .i64 0), .lit (.int .i64 0), .nil], .nil, .nil], [], places) :=
  ⟨[], by kernel_rfl⟩
set_option maxRecDepth 100000 in
theorem lifted (os : Os) (started : os.Started) (H : Type) (enc : TypeId × Value → H) (F : Stop.Interp) :
    ReturnsInHanded {} Tryz.checked os 6 .any ((OpenSpec.ofChange Rows.cgsErrorsSpec).preRow enc Tryz.prog Tryz.f6 Rows.cgsErrorsRow.domain false Rows.cgsErrorsRow.laid) (((OpenSpec.ofChange Rows.cgsErrorsSpec).at F).post enc Tryz.prog Tryz.f6 false true false false) := by
  obtain ⟨places, hx⟩ := reads os enc
  refine returnsInHanded_of_row (C := Tryz.checked) (s := OpenSpec.ofChange Rows.cgsErrorsSpec) ownK started (by kernel_rfl) Tryz.func6
    (witness_row_at (enc := enc) (C := Tryz.checked) false (laidW os) input rfl (by kernel_rfl) (by kernel_rfl) (by kernel_rfl)
      (OpenSpec.preRow_of_cond 8 hx (by kernel_rfl) (fun k hk => by cases hk) (by kernel_rfl) (laid_met os))) ?_
  intro W base args ds gs before hval hW _ _ _ _ _ _
  exact contract H enc W base args ds gs before hval hW
theorem h_named : Tryz.pinned.checked.prog.funcNamed Rows.cgsErrorsRow.func = some 6 := by kernel_rfl
theorem h_closed : joinedFacts Tryz.pinned.checked.prog 6 Tryz.f6 (OpenSpec.ofChange Rows.cgsErrorsSpec).bare Rows.cgsErrorsRow = true := by kernel_rfl
theorem h_inst : Tryz.f6.isInstance Tryz.pinned.checked.prog Rows.cgsErrorsRow.origin Rows.cgsErrorsRow.targs := of_decide_eq_true (by kernel_rfl)
theorem h_wrap : Tryz.f6.isWrapper Tryz.pinned.checked.prog Rows.cgsErrorsRow.wrapper Rows.cgsErrorsRow.mainSum := by unfold Func.isWrapper; first | (rw [if_pos (by decide +kernel)]; kernel_rfl) | (rw [if_neg (by decide +kernel)]; exact ⟨rfl, rfl⟩)
theorem said : Rows.CgsErrorsSaid :=
  OpenClaim.holds_of_cond 6 Tryz.f6 rfl rfl rfl rfl rfl rfl rfl ⟨rfl, rfl, rfl, rfl, rfl⟩ rfl rfl rfl rfl rfl h_named Tryz.func6 h_closed h_inst h_wrap
    (fun os started H enc _ F => by rw [OpenClaim.pre_eq_preRow]; exact lifted os started H enc F)
theorem plain (f : FuncId) (fn : Func) (hf : Tryz.pinned.checked.prog.funcNamed "gusset/gussetlaw19.CgsErrors" = some f) (hfn : Tryz.pinned.checked.prog.funcs[f]? = some fn) :
    false = Tryz.pinned.checked.prog.looks [] ∧ ∀ (j : Nat) t, fn.params[j]? = some t → Tryz.pinned.checked.prog.wantsStandIn t = false := by
  obtain rfl : f = 6 := Option.some.inj ((show Tryz.prog.funcNamed "gusset/gussetlaw19.CgsErrors" = some 6 by kernel_rfl).symm.trans hf) |>.symm
  obtain rfl : fn = Tryz.f6 := (Option.some.inj (Tryz.func6.symm.trans hfn)).symm
  refine ⟨by kernel_rfl, fun j t ht => ?_⟩
  have hm := Array.mem_of_getElem? ht
  rw [Tryz.params6] at hm
  simp only [List.mem_toArray, List.mem_cons, List.not_mem_nil, or_false] at hm
  rcases hm with rfl | rfl | rfl
  · exact (show Tryz.prog.wantsStandIn 76 = false by kernel_rfl)
  · exact (show Tryz.prog.wantsStandIn 25 = false by kernel_rfl)
  · exact (show Tryz.prog.wantsStandIn 25 = false by kernel_rfl)
end Err
/-- the card -/
theorem errors_card : Rows.CgsErrorsCardSaid :=
  Claim7.holds_tied_plain_at .later [] _ _ _ _ Err.said (fun _ h => by cases h) (by kernel_rfl) (fun _ h => by cases h) cgsErrors_row_tie rfl ⟨rfl, rfl⟩ (by kernel_rfl) rfl Err.plain (by kernel_rfl)
end Go.Proofs.YtjbclomfocnplaaGreatDoor
end
