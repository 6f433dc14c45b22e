/- Proved: whatever the sides, the groups and the vectors, gussetlaw21.SchursErrors returns true, and the arguments read as before. Conditions: the listed tables hold what the program's text lays (the card ties them). -/
import Derived.Test.YthblojaeoiemmaaGreatDoorKSrpQ
section
namespace Go.Proofs.YthblojaeoiemmaaGreatDoor
open Go Go.RowKit Go.ChangeShapes Go.WideShapes Go.ChangeAt Gus
namespace Er2
theorem params_ok:∀ t∈Tryz.f3.params.toList,Tryz.prog.readableRec t=true∧t<Tryz.prog.types.size:=by
 rw[Tryz.params3]
 intro t ht
 simp only[List.mem_cons,List.not_mem_nil,or_false] at ht
 rcases ht with rfl | rfl | rfl | rfl | rfl | rfl <;> exact⟨by kernel_rfl,of_decide_eq_true (by kernel_rfl)⟩
set_option maxRecDepth 100000 in
theorem contract (H:Type) (enc:TypeId×Value→H) (W:World) (base:Nat) (args:Array Value) (ds gs:List (DataW H)) (before:List MemPlace)
  (hval:∀ (j:Nat) t v,Tryz.f3.params[j]?=some t→args[j]?=some v→Value.okWide Tryz.prog W .any base t v)
  (hW:DataW.Whole enc Tryz.prog Tryz.f3.params.toList Rows.schursErrorsSpec.vars false W args.toList ds gs before) :
  Calls Tryz.prog 3 args W fun e W'=>∃ v,e=.returned v∧Rows.schursErrorsSpec.post enc Tryz.prog Tryz.f3 false true false false W args v W':=by
 have hW':=hW
 have hlt:=hW.lt
 obtain⟨p,q,hA0,hV,rfl,hfz,hnd⟩:=hW
 have hA1:DataW.TrodAll enc Tryz.prog W 0 (fun _=>true) true Tryz.f3.params.toList args.toList ds p:=hA0
 have hA:=hA1
 rw[Tryz.params3] at hA hval
 obtain⟨v0,vs0,d0,ds0,p0,q0,hargs,rfl,rfl,h0,r0⟩:=trodAll_cons hA
 obtain⟨v1,vs1,d1,ds1,p1,q1,rfl,rfl,rfl,h1,r1⟩:=trodAll_cons r0
 obtain⟨v2,vs2,d2,ds2,p2,q2,rfl,rfl,rfl,h2,r2⟩:=trodAll_cons r1
 obtain⟨v3,vs3,d3,ds3,p3,q3,rfl,rfl,rfl,h3,r3⟩:=trodAll_cons r2
 obtain⟨v4,vs4,d4,ds4,p4,q4,rfl,rfl,rfl,h4,r4⟩:=trodAll_cons r3
 obtain⟨v5,vs5,d5,ds5,p5,q5,rfl,rfl,rfl,h5,r5⟩:=trodAll_cons r4
 obtain⟨rfl,rfl,rfl⟩:=trodAll_nil r5
 obtain rfl:args=#[v0,v1,v2,v3,v4,v5]:=by cases args;simp_all
 obtain⟨rfl,rfl⟩:=trodVars_none hV
 obtain⟨z0,rfl,_,_,w0⟩:=open_int Tryz.underlying3 (hval 0 3 v0 (by rfl) (by rfl)) h0
 obtain⟨z1,rfl,_,_,w1⟩:=open_int Tryz.underlying3 (hval 1 3 v1 (by rfl) (by rfl)) h1
 obtain⟨a2,x2,k2,rfl,hx2,hw2,hl2⟩:=open_is (hval 2 22 v2 (by rfl) (by rfl)) h2
 obtain⟨a3,x3,k3,rfl,hx3,hw3,hl3⟩:=open_is (hval 3 22 v3 (by rfl) (by rfl)) h3
 obtain⟨a4,q4,k4,rfl,hq4,ho4,hl4⟩:=open_vec (hval 4 23 v4 (by rfl) (by rfl)) h4
 obtain⟨a5,q5,k5,rfl,hq5,ho5,hl5⟩:=open_vec (hval 5 23 v5 (by rfl) (by rfl)) h5
 refine(errors21_any W z0 z1 (wfI64 w0) (wfI64 w1) a2 a3 k2 k3 x2 x3 hx2 hx3 hw2 hw3 hl2 hl3 a4 a5 k4 k5 q4 q5 hq4 hq5 ho4 ho5 hl4 hl5).mono fun e W' ⟨he,hb⟩=>?_
 subst he
 exact⟨_,rfl,row_end (pv:=[]) hb hW' rfl (fun sp hsp=>args_stay hb params_ok hA1 (fun x hx=>hlt x (List.mem_append.2 (.inl hx))) (fun x hx=>hsp x (List.mem_append.2 (.inl hx)))) (fun _ _=>rfl)
  (fun _ _ _=>trodAll_cons_mk (shut_bool Tryz.underlying4 _) trodAll_mk0) (ok_one (by kernel_rfl) rfl (okWide_bool_mk Tryz.underlying4 _))⟩
abbrev input:Array Value:=#[.int .i64 0,.int .i64 0,.slice none 0 0,.slice none 0 0,.slice none 0 0,.slice none 0 0]
theorem laid_met (os:Os):laidMet Tryz.prog Rows.schursErrorsRow.laid ((laidW os).forCall (fun _ _=>0) ⟨#[],input,[]⟩).memory:=
 laidMet_of_run' 8 (by kernel_rfl) (by kernel_rfl)
theorem reads (os:Os) {H:Type} (enc:TypeId×Value→H):∃ places,DataW.whole enc Tryz.prog ((laidW os).forCall (fun _ _=>0) ⟨#[],input,[]⟩).memory Tryz.f3.params.toList Rows.schursErrorsSpec.vars false input.toList 8=some ([.lit (.int .i64 0),.lit (.int .i64 0),.nil,.nil,.nil,.nil],[],places):=
 ⟨[],by kernel_rfl⟩
set_option maxRecDepth 100000 in
theorem lifted (os:Os) (started:os.Started) (H:Type) (enc:TypeId×Value→H) (F:Stop.Interp) :
  ReturnsInHanded {} Tryz.checked os 3 .any ((OpenSpec.ofChange Rows.schursErrorsSpec).preRow enc Tryz.prog Tryz.f3 Rows.schursErrorsRow.domain false Rows.schursErrorsRow.laid) (((OpenSpec.ofChange Rows.schursErrorsSpec).at F).post enc Tryz.prog Tryz.f3 false true false false):=by
 obtain⟨places,hx⟩:=reads os enc
 refine returnsInHanded_of_row (C:=Tryz.checked) (s:=OpenSpec.ofChange Rows.schursErrorsSpec) ownK started (by kernel_rfl) Tryz.func3
  (witness_row_at (enc:=enc) (C:=Tryz.checked) false (laidW os) input rfl (by kernel_rfl) (by kernel_rfl) (by kernel_rfl)
   (OpenSpec.preRow_of_cond 8 hx (by kernel_rfl) (fun k hk=>by cases hk) (by kernel_rfl) (laid_met os))) ?_
 intro W base args ds gs before hval hW _ _ _ _ _ _
 exact contract H enc W base args ds gs before hval hW
theorem h_named:Tryz.pinned.checked.prog.funcNamed Rows.schursErrorsRow.func=some 3:=by kernel_rfl
theorem h_closed:joinedFacts Tryz.pinned.checked.prog 3 Tryz.f3 (OpenSpec.ofChange Rows.schursErrorsSpec).bare Rows.schursErrorsRow=true:=by kernel_rfl
theorem h_inst:Tryz.f3.isInstance Tryz.pinned.checked.prog Rows.schursErrorsRow.origin Rows.schursErrorsRow.targs:=of_decide_eq_true (by kernel_rfl)
theorem h_wrap:Tryz.f3.isWrapper Tryz.pinned.checked.prog Rows.schursErrorsRow.wrapper Rows.schursErrorsRow.mainSum:=by unfold Func.isWrapper;first |(rw[if_pos (by decide +kernel)];kernel_rfl)|(rw[if_neg (by decide +kernel)];exact⟨rfl,rfl⟩)
theorem said:Rows.SchursErrorsSaid:=
 OpenClaim.holds_of_cond 3 Tryz.f3 rfl rfl rfl rfl rfl rfl rfl ⟨rfl,rfl,rfl,rfl,rfl⟩ rfl rfl rfl rfl rfl h_named Tryz.func3 h_closed h_inst h_wrap
  (fun os started H enc _ F=>by rw[OpenClaim.pre_eq_preRow];exact lifted os started H enc F)
theorem plain (f : FuncId) (fn : Func) (hf : Tryz.pinned.checked.prog.funcNamed "gusset/gussetlaw21.SchursErrors" = some f) (hfn : Tryz.pinned.checked.prog.funcs[f]? = some fn) :
  false=Tryz.pinned.checked.prog.looks []∧∀ (j:Nat) t,fn.params[j]?=some t→Tryz.pinned.checked.prog.wantsStandIn t=false:=by
 obtain rfl : f = 3 := Option.some.inj ((show Tryz.prog.funcNamed "gusset/gussetlaw21.SchursErrors" = some 3 by kernel_rfl).symm.trans hf) |>.symm
 obtain rfl:fn=Tryz.f3:=(Option.some.inj (Tryz.func3.symm.trans hfn)).symm
 refine⟨by kernel_rfl,fun j t ht=>?_⟩
 have hm:=Array.mem_of_getElem? ht
 rw[Tryz.params3] at hm
 simp only[List.mem_toArray,List.mem_cons,List.not_mem_nil,or_false] at hm
 rcases hm with rfl | rfl | rfl | rfl | rfl | rfl
 ·exact(show Tryz.prog.wantsStandIn 3=false by kernel_rfl)
 ·exact(show Tryz.prog.wantsStandIn 3=false by kernel_rfl)
 ·exact(show Tryz.prog.wantsStandIn 22=false by kernel_rfl)
 ·exact(show Tryz.prog.wantsStandIn 22=false by kernel_rfl)
 ·exact(show Tryz.prog.wantsStandIn 23=false by kernel_rfl)
 ·exact(show Tryz.prog.wantsStandIn 23=false by kernel_rfl)
end Er2
theorem errors21_card:Rows.SchursErrorsCardSaid:=
 Claim7.holds_tied_plain_at .later [] _ _ _ _ Er2.said (fun _ h=>by cases h) (by kernel_rfl) (fun _ h=>by cases h) schursErrors_row_tie rfl ⟨rfl,rfl⟩ (by kernel_rfl) rfl Er2.plain (by kernel_rfl)
end Go.Proofs.YthblojaeoiemmaaGreatDoor
end
