/- Proved: whatever the matrix, the keys and the two numbers, gussetlaw21.SchursQuotient returns true, and the arguments read as before. Conditions: the listed tables hold what the program's text lays (the card ties them). -/
import Derived.Test.YthblojaeoiemmaaGreatDoorKSrnQ
section
namespace Go.Proofs.YthblojaeoiemmaaGreatDoor
open Go Go.RowKit Go.ChangeShapes Go.WideShapes Go.ChangeAt Gus
namespace Quo
theorem params_ok:∀ t∈Tryz.f4.params.toList,Tryz.prog.readableRec t=true∧t<Tryz.prog.types.size:=by
 rw[Tryz.params4]
 intro t ht
 simp only[List.mem_cons,List.not_mem_nil,or_false] at ht
 rcases ht with rfl | rfl | rfl | rfl <;> exact⟨by kernel_rfl,of_decide_eq_true (by kernel_rfl)⟩
set_option maxRecDepth 100000 in
theorem contract (H:Type) (enc:TypeId×Value→H) (W:World) (base:Nat) (args:Array Value) (ds gs:List (DataW H)) (before:List MemPlace)
  (hval:∀ (j:Nat) t v,Tryz.f4.params[j]?=some t→args[j]?=some v→Value.okWide Tryz.prog W .any base t v)
  (hW:DataW.Whole enc Tryz.prog Tryz.f4.params.toList Rows.schursQuotientSpec.vars false W args.toList ds gs before) :
  Calls Tryz.prog 4 args W fun e W'=>∃ v,e=.returned v∧Rows.schursQuotientSpec.post enc Tryz.prog Tryz.f4 false true false false W args v W':=by
 have hW':=hW
 have hlt:=hW.lt
 obtain⟨p,q,hA0,hV,rfl,hfz,hnd⟩:=hW
 have hA1:DataW.TrodAll enc Tryz.prog W 0 (fun _=>true) true Tryz.f4.params.toList args.toList ds p:=hA0
 have hA:=hA1
 rw[Tryz.params4] at hA hval
 obtain⟨v0,vs0,d0,ds0,p0,q0,hargs,rfl,rfl,h0,r0⟩:=trodAll_cons hA
 obtain⟨v1,vs1,d1,ds1,p1,q1,rfl,rfl,rfl,h1,r1⟩:=trodAll_cons r0
 obtain⟨v2,vs2,d2,ds2,p2,q2,rfl,rfl,rfl,h2,r2⟩:=trodAll_cons r1
 obtain⟨v3,vs3,d3,ds3,p3,q3,rfl,rfl,rfl,h3,r3⟩:=trodAll_cons r2
 obtain⟨rfl,rfl,rfl⟩:=trodAll_nil r3
 obtain rfl:args=#[v0,v1,v2,v3]:=by cases args;simp_all
 obtain⟨rfl,rfl⟩:=trodVars_none hV
 obtain⟨N0,a0,l0,k0,rfl,hN0,hq0,ho0,hl0⟩:=open_s (hval 0 51 v0 (by rfl) (by rfl)) h0
 obtain⟨a1,x1,k1,rfl,hx1,hw1,hl1⟩:=open_us (hval 1 52 v1 (by rfl) (by rfl)) h1
 obtain⟨z2,rfl,_,_,w2⟩:=open_int Tryz.underlying5 (hval 2 5 v2 (by rfl) (by rfl)) h2
 obtain⟨z3,rfl,_,_,w3⟩:=open_int Tryz.underlying5 (hval 3 5 v3 (by rfl) (by rfl)) h3
 refine(quotient21_any W N0 hN0 a0 k0 l0 hq0 ho0 hl0 a1 k1 x1 hx1 hw1 hl1 z2 z3 (wfU8 w2) (wfU8 w3)).mono fun e W' ⟨he,hb⟩=>?_
 subst he
 exact⟨_,rfl,row_end (pv:=[]) hb hW' rfl (fun sp hsp=>args_stay hb params_ok hA1 (fun x hx=>hlt x (List.mem_append.2 (.inl hx))) (fun x hx=>hsp x (List.mem_append.2 (.inl hx)))) (fun _ _=>rfl)
  (fun _ _ _=>trodAll_cons_mk (shut_bool Tryz.underlying4 _) trodAll_mk0) (ok_one (by kernel_rfl) rfl (okWide_bool_mk Tryz.underlying4 _))⟩
abbrev input:Array Value:=#[.agg #[.int .u8 0,.slice none 0 0],.slice none 0 0,.int .u8 0,.int .u8 0]
theorem laid_met (os:Os):laidMet Tryz.prog Rows.schursQuotientRow.laid ((laidW os).forCall (fun _ _=>0) ⟨#[],input,[]⟩).memory:=
 laidMet_of_run' 8 (by kernel_rfl) (by kernel_rfl)
theorem reads (os:Os) {H:Type} (enc:TypeId×Value→H):∃ places,DataW.whole enc Tryz.prog ((laidW os).forCall (fun _ _=>0) ⟨#[],input,[]⟩).memory Tryz.f4.params.toList Rows.schursQuotientSpec.vars false input.toList 8=some ([.agg [.lit (.int .u8 0),.nil],.nil,.lit (.int .u8 0),.lit (.int .u8 0)],[],places):=
 ⟨[],by kernel_rfl⟩
set_option maxRecDepth 100000 in
theorem lifted (os:Os) (started:os.Started) (H:Type) (enc:TypeId×Value→H) (F:Stop.Interp) :
  ReturnsInHanded {} Tryz.checked os 4 .any ((OpenSpec.ofChange Rows.schursQuotientSpec).preRow enc Tryz.prog Tryz.f4 Rows.schursQuotientRow.domain false Rows.schursQuotientRow.laid) (((OpenSpec.ofChange Rows.schursQuotientSpec).at F).post enc Tryz.prog Tryz.f4 false true false false):=by
 obtain⟨places,hx⟩:=reads os enc
 refine returnsInHanded_of_row (C:=Tryz.checked) (s:=OpenSpec.ofChange Rows.schursQuotientSpec) ownK started (by kernel_rfl) Tryz.func4
  (witness_row_at (enc:=enc) (C:=Tryz.checked) false (laidW os) input rfl (by kernel_rfl) (by kernel_rfl) (by kernel_rfl)
   (OpenSpec.preRow_of_cond 8 hx (by kernel_rfl) (fun k hk=>by cases hk) (by kernel_rfl) (laid_met os))) ?_
 intro W base args ds gs before hval hW _ _ _ _ _ _
 exact contract H enc W base args ds gs before hval hW
theorem h_named:Tryz.pinned.checked.prog.funcNamed Rows.schursQuotientRow.func=some 4:=by kernel_rfl
theorem h_closed:joinedFacts Tryz.pinned.checked.prog 4 Tryz.f4 (OpenSpec.ofChange Rows.schursQuotientSpec).bare Rows.schursQuotientRow=true:=by kernel_rfl
theorem h_inst:Tryz.f4.isInstance Tryz.pinned.checked.prog Rows.schursQuotientRow.origin Rows.schursQuotientRow.targs:=of_decide_eq_true (by kernel_rfl)
theorem h_wrap:Tryz.f4.isWrapper Tryz.pinned.checked.prog Rows.schursQuotientRow.wrapper Rows.schursQuotientRow.mainSum:=by unfold Func.isWrapper;first |(rw[if_pos (by decide +kernel)];kernel_rfl)|(rw[if_neg (by decide +kernel)];exact⟨rfl,rfl⟩)
theorem said:Rows.SchursQuotientSaid:=
 OpenClaim.holds_of_cond 4 Tryz.f4 rfl rfl rfl rfl rfl rfl rfl ⟨rfl,rfl,rfl,rfl,rfl⟩ rfl rfl rfl rfl rfl h_named Tryz.func4 h_closed h_inst h_wrap
  (fun os started H enc _ F=>by rw[OpenClaim.pre_eq_preRow];exact lifted os started H enc F)
theorem plain (f : FuncId) (fn : Func) (hf : Tryz.pinned.checked.prog.funcNamed "gusset/gussetlaw21.SchursQuotient" = some f) (hfn : Tryz.pinned.checked.prog.funcs[f]? = some fn) :
  false=Tryz.pinned.checked.prog.looks []∧∀ (j:Nat) t,fn.params[j]?=some t→Tryz.pinned.checked.prog.wantsStandIn t=false:=by
 obtain rfl : f = 4 := Option.some.inj ((show Tryz.prog.funcNamed "gusset/gussetlaw21.SchursQuotient" = some 4 by kernel_rfl).symm.trans hf) |>.symm
 obtain rfl:fn=Tryz.f4:=(Option.some.inj (Tryz.func4.symm.trans hfn)).symm
 refine⟨by kernel_rfl,fun j t ht=>?_⟩
 have hm:=Array.mem_of_getElem? ht
 rw[Tryz.params4] at hm
 simp only[List.mem_toArray,List.mem_cons,List.not_mem_nil,or_false] at hm
 rcases hm with rfl | rfl | rfl | rfl
 ·exact(show Tryz.prog.wantsStandIn 51=false by kernel_rfl)
 ·exact(show Tryz.prog.wantsStandIn 52=false by kernel_rfl)
 ·exact(show Tryz.prog.wantsStandIn 5=false by kernel_rfl)
 ·exact(show Tryz.prog.wantsStandIn 5=false by kernel_rfl)
end Quo
theorem quotient_card:Rows.SchursQuotientCardSaid:=
 Claim7.holds_tied_plain_at .later [] _ _ _ _ Quo.said (fun _ h=>by cases h) (by kernel_rfl) (fun _ h=>by cases h) schursQuotient_row_tie rfl ⟨rfl,rfl⟩ (by kernel_rfl) rfl Quo.plain (by kernel_rfl)
end Go.Proofs.YthblojaeoiemmaaGreatDoor
end
