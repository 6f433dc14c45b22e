/- Proved: whatever the matrix, the keys, the two numbers and the right-hand side, gussetlaw21.SchursSolves returns true, and the arguments read as before. Conditions: the listed tables hold what the program's text lays (the card ties them). -/
import Derived.Test.YthblojaeoiemmaaGreatDoorKSrsQ
section
namespace Go.Proofs.YthblojaeoiemmaaGreatDoor
open Go Go.RowKit Go.ChangeShapes Go.WideShapes Go.ChangeAt Gus
namespace Sol
theorem params_ok:∀ t∈Tryz.f6.params.toList,Tryz.prog.readableRec t=true∧t<Tryz.prog.types.size:=by
 rw[Tryz.params6]
 intro t ht
 simp only[List.mem_cons,List.not_mem_nil,or_false] at ht
 rcases ht with rfl | rfl | rfl | rfl | rfl <;> exact⟨by kernel_rfl,of_decide_eq_true (by kernel_rfl)⟩
set_option maxRecDepth 100000 in
theorem contract (H:Type) (enc:TypeId×Value→H) (W:World) (base:Nat) (args:Array Value) (ds gs:List (DataW H)) (before:List MemPlace)
  (hval:∀ (j:Nat) t v,Tryz.f6.params[j]?=some t→args[j]?=some v→Value.okWide Tryz.prog W .any base t v)
  (hW:DataW.Whole enc Tryz.prog Tryz.f6.params.toList Rows.schursSolvesSpec.vars false W args.toList ds gs before) :
  Calls Tryz.prog 6 args W fun e W'=>∃ v,e=.returned v∧Rows.schursSolvesSpec.post enc Tryz.prog Tryz.f6 false true false false W args v W':=by
 have hW':=hW
 have hlt:=hW.lt
 obtain⟨p,q,hA0,hV,rfl,hfz,hnd⟩:=hW
 have hA1:DataW.TrodAll enc Tryz.prog W 0 (fun _=>true) true Tryz.f6.params.toList args.toList ds p:=hA0
 have hA:=hA1
 rw[Tryz.params6] at hA hval
 obtain⟨v0,vs0,d0,ds0,p0,q0,hargs,rfl,rfl,h0,r0⟩:=trodAll_cons hA
 obtain⟨v1,vs1,d1,ds1,p1,q1,rfl,rfl,rfl,h1,r1⟩:=trodAll_cons r0
 obtain⟨v2,vs2,d2,ds2,p2,q2,rfl,rfl,rfl,h2,r2⟩:=trodAll_cons r1
 obtain⟨v3,vs3,d3,ds3,p3,q3,rfl,rfl,rfl,h3,r3⟩:=trodAll_cons r2
 obtain⟨v4,vs4,d4,ds4,p4,q4,rfl,rfl,rfl,h4,r4⟩:=trodAll_cons r3
 obtain⟨rfl,rfl,rfl⟩:=trodAll_nil r4
 obtain rfl:args=#[v0,v1,v2,v3,v4]:=by cases args;simp_all
 obtain⟨rfl,rfl⟩:=trodVars_none hV
 obtain⟨N0,a0,l0,k0,rfl,hN0,hq0,ho0,hl0⟩:=open_s (hval 0 51 v0 (by rfl) (by rfl)) h0
 obtain⟨a1,x1,k1,rfl,hx1,hw1,hl1⟩:=open_us (hval 1 52 v1 (by rfl) (by rfl)) h1
 obtain⟨z2,rfl,_,_,w2⟩:=open_int Tryz.underlying5 (hval 2 5 v2 (by rfl) (by rfl)) h2
 obtain⟨z3,rfl,_,_,w3⟩:=open_int Tryz.underlying5 (hval 3 5 v3 (by rfl) (by rfl)) h3
 obtain⟨a4,q4,k4,rfl,hq4,ho4,hl4⟩:=open_vec (hval 4 23 v4 (by rfl) (by rfl)) h4
 refine(solves21_any W N0 hN0 a0 k0 l0 hq0 ho0 hl0 a1 k1 x1 hx1 hw1 hl1 z2 z3 (wfU8 w2) (wfU8 w3) a4 k4 q4 hq4 ho4 hl4).mono fun e W' ⟨he,hb⟩=>?_
 subst he
 exact⟨_,rfl,row_end (pv:=[]) hb hW' rfl (fun sp hsp=>args_stay hb params_ok hA1 (fun x hx=>hlt x (List.mem_append.2 (.inl hx))) (fun x hx=>hsp x (List.mem_append.2 (.inl hx)))) (fun _ _=>rfl)
  (fun _ _ _=>trodAll_cons_mk (shut_bool Tryz.underlying4 _) trodAll_mk0) (ok_one (by kernel_rfl) rfl (okWide_bool_mk Tryz.underlying4 _))⟩
abbrev input:Array Value:=#[.agg #[.int .u8 0,.slice none 0 0],.slice none 0 0,.int .u8 0,.int .u8 0,.slice none 0 0]
theorem laid_met (os:Os):laidMet Tryz.prog Rows.schursSolvesRow.laid ((laidW os).forCall (fun _ _=>0) ⟨#[],input,[]⟩).memory:=
 laidMet_of_run' 8 (by kernel_rfl) (by kernel_rfl)
theorem reads (os:Os) {H:Type} (enc:TypeId×Value→H):∃ places,DataW.whole enc Tryz.prog ((laidW os).forCall (fun _ _=>0) ⟨#[],input,[]⟩).memory Tryz.f6.params.toList Rows.schursSolvesSpec.vars false input.toList 8=some ([.agg [.lit (.int .u8 0),.nil],.nil,.lit (.int .u8 0),.lit (.int .u8 0),.nil],[],places):=
 ⟨[],by kernel_rfl⟩
set_option maxRecDepth 100000 in
theorem lifted (os:Os) (started:os.Started) (H:Type) (enc:TypeId×Value→H) (F:Stop.Interp) :
  ReturnsInHanded {} Tryz.checked os 6 .any ((OpenSpec.ofChange Rows.schursSolvesSpec).preRow enc Tryz.prog Tryz.f6 Rows.schursSolvesRow.domain false Rows.schursSolvesRow.laid) (((OpenSpec.ofChange Rows.schursSolvesSpec).at F).post enc Tryz.prog Tryz.f6 false true false false):=by
 obtain⟨places,hx⟩:=reads os enc
 refine returnsInHanded_of_row (C:=Tryz.checked) (s:=OpenSpec.ofChange Rows.schursSolvesSpec) ownK started (by kernel_rfl) Tryz.func6
  (witness_row_at (enc:=enc) (C:=Tryz.checked) false (laidW os) input rfl (by kernel_rfl) (by kernel_rfl) (by kernel_rfl)
   (OpenSpec.preRow_of_cond 8 hx (by kernel_rfl) (fun k hk=>by cases hk) (by kernel_rfl) (laid_met os))) ?_
 intro W base args ds gs before hval hW _ _ _ _ _ _
 exact contract H enc W base args ds gs before hval hW
theorem h_named:Tryz.pinned.checked.prog.funcNamed Rows.schursSolvesRow.func=some 6:=by kernel_rfl
theorem h_closed:joinedFacts Tryz.pinned.checked.prog 6 Tryz.f6 (OpenSpec.ofChange Rows.schursSolvesSpec).bare Rows.schursSolvesRow=true:=by kernel_rfl
theorem h_inst:Tryz.f6.isInstance Tryz.pinned.checked.prog Rows.schursSolvesRow.origin Rows.schursSolvesRow.targs:=of_decide_eq_true (by kernel_rfl)
theorem h_wrap:Tryz.f6.isWrapper Tryz.pinned.checked.prog Rows.schursSolvesRow.wrapper Rows.schursSolvesRow.mainSum:=by unfold Func.isWrapper;first |(rw[if_pos (by decide +kernel)];kernel_rfl)|(rw[if_neg (by decide +kernel)];exact⟨rfl,rfl⟩)
theorem said:Rows.SchursSolvesSaid:=
 OpenClaim.holds_of_cond 6 Tryz.f6 rfl rfl rfl rfl rfl rfl rfl ⟨rfl,rfl,rfl,rfl,rfl⟩ rfl rfl rfl rfl rfl h_named Tryz.func6 h_closed h_inst h_wrap
  (fun os started H enc _ F=>by rw[OpenClaim.pre_eq_preRow];exact lifted os started H enc F)
theorem plain (f : FuncId) (fn : Func) (hf : Tryz.pinned.checked.prog.funcNamed "gusset/gussetlaw21.SchursSolves" = some f) (hfn : Tryz.pinned.checked.prog.funcs[f]? = some fn) :
  false=Tryz.pinned.checked.prog.looks []∧∀ (j:Nat) t,fn.params[j]?=some t→Tryz.pinned.checked.prog.wantsStandIn t=false:=by
 obtain rfl : f = 6 := Option.some.inj ((show Tryz.prog.funcNamed "gusset/gussetlaw21.SchursSolves" = some 6 by kernel_rfl).symm.trans hf) |>.symm
 obtain rfl:fn=Tryz.f6:=(Option.some.inj (Tryz.func6.symm.trans hfn)).symm
 refine⟨by kernel_rfl,fun j t ht=>?_⟩
 have hm:=Array.mem_of_getElem? ht
 rw[Tryz.params6] at hm
 simp only[List.mem_toArray,List.mem_cons,List.not_mem_nil,or_false] at hm
 rcases hm with rfl | rfl | rfl | rfl | rfl
 ·exact(show Tryz.prog.wantsStandIn 51=false by kernel_rfl)
 ·exact(show Tryz.prog.wantsStandIn 52=false by kernel_rfl)
 ·exact(show Tryz.prog.wantsStandIn 5=false by kernel_rfl)
 ·exact(show Tryz.prog.wantsStandIn 5=false by kernel_rfl)
 ·exact(show Tryz.prog.wantsStandIn 23=false by kernel_rfl)
end Sol
theorem solves_card:Rows.SchursSolvesCardSaid:=
 Claim7.holds_tied_plain_at .later [] _ _ _ _ Sol.said (fun _ h=>by cases h) (by kernel_rfl) (fun _ h=>by cases h) schursSolves_row_tie rfl ⟨rfl,rfl⟩ (by kernel_rfl) rfl Sol.plain (by kernel_rfl)
end Go.Proofs.YthblojaeoiemmaaGreatDoor
end
