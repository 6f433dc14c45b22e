/- Proved: whatever the sides, the additions and the turn, gussetlaw16.SparsesBuild returns true, and the arguments read as before. Conditions: the three listed tables hold what the program's text lays (the card ties them). -/
import Derived.Test.YtakblfhmllgepaaGreatDoorFlsQ
import Derived.Test.YtakblfhmllgepaaGreatDoorSmaQ
import Derived.Test.YtakblfhmllgepaaGreatDoorMroQ
import Derived.Stop.LaidErr
section
/- gussetlaw16.SparsesBuild, whatever its arguments. -/
namespace Gus
open Go Go.RowKit Go.Proofs
set_option maxRecDepth 100000 in
set_option maxHeartbeats 4000000 in
theorem build_large (w : World) (N M T : Int) (la : Option Addr) (lc L : Nat) (hL : 30 < L) :
    Calls Tryz.prog 3 #[.int .u8 N, .int .u8 M, .slice la L lc, .int .u8 T] w fun e w' => e = .returned (.bool true) ∧ Below w.heap.size w w' := by
  have cz := works_any
  have hin := In.self w
  have hLI : (30 : Int) < L := by omega
  go_enter Tryz.func3, Tryz.ntmps3
  skip
  ((go_wp2_with fail); (((with_reducible refine (cz _).mono ?_))); (rintro e wc1 ⟨rfl, hb⟩); (skip); (replace hin := hin.call hb); (clear hb))
  go_wp2_with fail
  go_ret
  exact ⟨rfl, hin.bel⟩
theorem wf8 {z : Int} (h : (Lit.int .u8 z).wf = true) : 0 ≤ z ∧ z < 256 := by
  simp [Lit.wf, IntKind.min, IntKind.max, IntKind.signed, IntKind.bits] at h; omega
theorem build_any (w : World) (N M T : Int) (hN : 0 ≤ N ∧ N < 256) (hM : 0 ≤ M ∧ M < 256) (hT : 0 ≤ T ∧ T < 256) (la : Option Addr) (lc : Nat) (l : List TQ) (hl : TAt w la l) (hok : TOk l) (htab : TabW w) :
    Calls Tryz.prog 3 #[.int .u8 N, .int .u8 M, .slice la l.length lc, .int .u8 T] w fun e w' => e = .returned (.bool true) ∧ Below w.heap.size w w' := by
  obtain ⟨N', rfl⟩ := Int.eq_ofNat_of_zero_le hN.1
  obtain ⟨M', rfl⟩ := Int.eq_ofNat_of_zero_le hM.1
  obtain ⟨T', rfl⟩ := Int.eq_ofNat_of_zero_le hT.1
  by_cases hL : l.length ≤ 30
  · exact build_small w N' M' T' (by omega) (by omega) (by omega) la lc l hl hok hL htab
  · exact build_large w N' M' T' la lc l.length (by omega)
end Gus
end
section
/- Proved: whatever the sides, the additions and the turn, gussetlaw16.SparsesBuild returns true, and the arguments read as before. Conditions: the three listed tables hold what the program's text lays (the card ties them). -/
namespace Go.Proofs.YtakblfhmllgepaaGreatDoor
open Go Go.RowKit Go.ChangeShapes Go.WideShapes Go.ChangeAt Gus
namespace Bld
theorem params_ok : ∀ t ∈ Tryz.f3.params.toList, Tryz.prog.readableRec t = true ∧ t < Tryz.prog.types.size := by
  rw [Tryz.params3]
  intro t ht
  simp only [List.mem_cons, List.not_mem_nil, or_false] at ht
  rcases ht with rfl | rfl | rfl | rfl <;> exact ⟨by kernel_rfl, of_decide_eq_true (by kernel_rfl)⟩
set_option maxRecDepth 100000 in
theorem contract (H : Type) (enc : TypeId × Value → H) (W : World) (base : Nat) (args : Array Value) (ds gs : List (DataW H)) (before : List MemPlace)
    (hval : ∀ (j : Nat) t v, Tryz.f3.params[j]? = some t → args[j]? = some v → Value.okWide Tryz.prog W .any base t v)
    (hW : DataW.Whole enc Tryz.prog Tryz.f3.params.toList Rows.sparsesBuildSpec.vars false W args.toList ds gs before) (htab : TabW W) :
    Calls Tryz.prog 3 args W fun e W' => ∃ v, e = .returned v ∧ Rows.sparsesBuildSpec.post enc Tryz.prog Tryz.f3 false true false false W args v W' := by
  have hW' := hW
  have hlt := hW.lt
  obtain ⟨p, q, hA0, hV, rfl, hfz, hnd⟩ := hW
  have hA1 : DataW.TrodAll enc Tryz.prog W 0 (fun _ => true) true Tryz.f3.params.toList args.toList ds p := hA0
  have hA := hA1
  rw [Tryz.params3] at hA hval
  obtain ⟨v0, vs0, d0, ds0, p0, q0, hargs, rfl, rfl, h0, r0⟩ := trodAll_cons hA
  obtain ⟨v1, vs1, d1, ds1, p1, q1, rfl, rfl, rfl, h1, r1⟩ := trodAll_cons r0
  obtain ⟨v2, vs2, d2, ds2, p2, q2, rfl, rfl, rfl, h2, r2⟩ := trodAll_cons r1
  obtain ⟨v3, vs3, d3, ds3, p3, q3, rfl, rfl, rfl, h3, r3⟩ := trodAll_cons r2
  obtain ⟨rfl, rfl, rfl⟩ := trodAll_nil r3
  obtain rfl : args = #[v0, v1, v2, v3] := by cases args; simp_all
  obtain ⟨rfl, rfl⟩ := trodVars_none hV
  obtain ⟨z0, rfl, _, _, w0⟩ := open_int Tryz.underlying5 (hval 0 5 v0 (by rfl) (by rfl)) h0
  obtain ⟨z1, rfl, _, _, w1⟩ := open_int Tryz.underlying5 (hval 1 5 v1 (by rfl) (by rfl)) h1
  obtain ⟨a2, l2, k2, rfl, hq2, ho2, hl2⟩ := open_tl (hval 2 22 v2 (by rfl) (by rfl)) h2
  obtain ⟨z3, rfl, _, _, w3⟩ := open_int Tryz.underlying5 (hval 3 5 v3 (by rfl) (by rfl)) h3
  refine (build_any W z0 z1 z3 (wf8 w0) (wf8 w1) (wf8 w3) a2 k2 l2 hq2 ho2 htab).mono fun e W' ⟨he, hb⟩ => ?_
  subst he
  exact ⟨_, rfl, row_end (pv := []) hb hW' rfl (fun sp hsp => args_stay hb params_ok hA1 (fun x hx => hlt x (List.mem_append.2 (.inl hx))) (fun x hx => hsp x (List.mem_append.2 (.inl hx)))) (fun _ _ => rfl)
    (fun _ _ _ => trodAll_cons_mk (shut_bool Tryz.underlying4 _) trodAll_mk0) (ok_one (by kernel_rfl) rfl (okWide_bool_mk Tryz.underlying4 _))⟩
abbrev input : Array Value := #[.int .u8 0, .int .u8 0, .slice none 0 0, .int .u8 0]
theorem laid_met (os : Os) : laidMet Tryz.prog Rows.sparsesBuildRow.laid ((laidW os).forCall (fun _ _ => 0) ⟨#[], input, []⟩).memory :=
  laidMet_of_run' 8 (by kernel_rfl) (by kernel_rfl)
theorem reads (os : Os) {H : Type} (enc : TypeId × Value → H) : ∃ places, DataW.whole enc Tryz.prog ((laidW os).forCall (fun _ _ => 0) ⟨#[], input, []⟩).memory Tryz.f3.params.toList Rows.sparsesBuildSpec.vars false input.toList 8 = some ([.lit (.int .u8 0), .lit (.int .u8 0), .nil, .lit (.int .u8 0)], [], places) :=
  ⟨[], by kernel_rfl⟩
set_option maxRecDepth 100000 in
theorem tab_of {W : World} (h : laidMet Tryz.prog Rows.sparsesBuildRow.laid W) : TabW W :=
  Lib.tabIs_of_head (g := 0) (t := 223) (e := 48) (n := 20) (by kernel_rfl) (by kernel_rfl) (by kernel_rfl) (by kernel_rfl) (by kernel_rfl) (by kernel_rfl) (rest := []) (laidMet.tail (laidMet.tail h))
set_option maxRecDepth 100000 in
theorem lifted (os : Os) (started : os.Started) (H : Type) (enc : TypeId × Value → H) (F : Stop.Interp) :
    ReturnsInHanded {} Tryz.checked os 3 .any ((OpenSpec.ofChange Rows.sparsesBuildSpec).preRow enc Tryz.prog Tryz.f3 Rows.sparsesBuildRow.domain false Rows.sparsesBuildRow.laid) (((OpenSpec.ofChange Rows.sparsesBuildSpec).at F).post enc Tryz.prog Tryz.f3 false true false false) := by
  obtain ⟨places, hx⟩ := reads os enc
  refine returnsInHanded_of_row (C := Tryz.checked) (s := OpenSpec.ofChange Rows.sparsesBuildSpec) ownK started (by kernel_rfl) Tryz.func3
    (witness_row_at (enc := enc) (C := Tryz.checked) false (laidW os) input rfl (by kernel_rfl) (by kernel_rfl) (by kernel_rfl)
      (OpenSpec.preRow_of_cond 8 hx (by kernel_rfl) (fun k hk => by cases hk) (by kernel_rfl) (laid_met os))) ?_
  intro W base args ds gs before hval hW l1 l2 l3 l4 l5 l6
  exact contract H enc W base args ds gs before hval hW (by first | exact tab_of l1 | exact tab_of l2 | exact tab_of l3 | exact tab_of l4 | exact tab_of l5 | exact tab_of l6)
theorem h_named : Tryz.pinned.checked.prog.funcNamed Rows.sparsesBuildRow.func = some 3 := by kernel_rfl
theorem h_closed : joinedFacts Tryz.pinned.checked.prog 3 Tryz.f3 (OpenSpec.ofChange Rows.sparsesBuildSpec).bare Rows.sparsesBuildRow = true := by kernel_rfl
theorem h_inst : Tryz.f3.isInstance Tryz.pinned.checked.prog Rows.sparsesBuildRow.origin Rows.sparsesBuildRow.targs := of_decide_eq_true (by kernel_rfl)
theorem h_wrap : Tryz.f3.isWrapper Tryz.pinned.checked.prog Rows.sparsesBuildRow.wrapper Rows.sparsesBuildRow.mainSum := by unfold Func.isWrapper; first | (rw [if_pos (by decide +kernel)]; kernel_rfl) | (rw [if_neg (by decide +kernel)]; exact ⟨rfl, rfl⟩)
theorem said : Rows.SparsesBuildSaid :=
  OpenClaim.holds_of_cond 3 Tryz.f3 rfl rfl rfl rfl rfl rfl rfl ⟨rfl, rfl, rfl, rfl, rfl⟩ rfl rfl rfl rfl rfl h_named Tryz.func3 h_closed h_inst h_wrap
    (fun os started H enc _ F => by rw [OpenClaim.pre_eq_preRow]; exact lifted os started H enc F)
theorem plain (f : FuncId) (fn : Func) (hf : Tryz.pinned.checked.prog.funcNamed "gusset/gussetlaw16.SparsesBuild" = some f) (hfn : Tryz.pinned.checked.prog.funcs[f]? = some fn) :
    false = Tryz.pinned.checked.prog.looks [] ∧ ∀ (j : Nat) t, fn.params[j]? = some t → Tryz.pinned.checked.prog.wantsStandIn t = false := by
  obtain rfl : f = 3 := Option.some.inj ((show Tryz.prog.funcNamed "gusset/gussetlaw16.SparsesBuild" = some 3 by kernel_rfl).symm.trans hf) |>.symm
  obtain rfl : fn = Tryz.f3 := (Option.some.inj (Tryz.func3.symm.trans hfn)).symm
  refine ⟨by kernel_rfl, fun j t ht => ?_⟩
  have hm := Array.mem_of_getElem? ht
  rw [Tryz.params3] at hm
  simp only [List.mem_toArray, List.mem_cons, List.not_mem_nil, or_false] at hm
  rcases hm with rfl | rfl | rfl | rfl
  · exact (show Tryz.prog.wantsStandIn 5 = false by kernel_rfl)
  · exact (show Tryz.prog.wantsStandIn 5 = false by kernel_rfl)
  · exact (show Tryz.prog.wantsStandIn 22 = false by kernel_rfl)
  · exact (show Tryz.prog.wantsStandIn 5 = false by kernel_rfl)
end Bld
/-- the card -/
theorem build_card : Rows.SparsesBuildCardSaid :=
  Claim7.holds_tied_plain_at .later [] _ _ _ _ Bld.said (fun _ h => by cases h) (by kernel_rfl) (fun _ h => by cases h) sparsesBuild_row_tie rfl ⟨rfl, rfl⟩ (by kernel_rfl) rfl Bld.plain (by kernel_rfl)
end Go.Proofs.YtakblfhmllgepaaGreatDoor
end
