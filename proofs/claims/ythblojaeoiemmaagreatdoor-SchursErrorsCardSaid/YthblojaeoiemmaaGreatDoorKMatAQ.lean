/- Proved here: parts of the proof: KMatA KSome KSpB KRegC KLst KRow KRowB. Conditions: those that each theorem states. -/
import Derived.Test.YthblojaeoiemmaaGreatDoorKSpAQ
import Derived.IntWalk
import Derived.Deep.CutBlock
import Derived.WalkMore
import Derived.Maps.AppendAt
import Derived.Shelf.GgSortFunc.RowK
import Derived.Shelf.GgSortFunc.InsertionK
section
namespace Gus
open Go Go.RowKit Go.Proofs
set_option maxRecDepth 100000 in
set_option maxHeartbeats 1000000 in
theorem msides_any (n m:Int) (w:World) :
  Calls Tryz.prog 115 #[.int .i64 n,.int .i64 m] w fun e w'=>e=.returned (.int .i64 (sidesE n m))∧Below w.heap.size w w':=by
 unfold sidesE
 by_cases h1:n<0 <;> by_cases h2:m<0 <;> by_cases h3:2048<n <;> by_cases h4:2048<m <;> simp only[h1,h2,h3,h4,or_true,or_false,if_true,if_false,or_self]
 all_goals
  go_enter Tryz.func115,Tryz.ntmps115
  go_wp2_with fail
  go_ret
  exact⟨rfl,by exact tfin⟩
theorem sidesE_zero {n m:Int} (h:sidesE n m=0):0≤n∧n≤2048∧0≤m∧m≤2048:=by
 unfold sidesE at h
 split at h
 ·omega
 ·split at h <;> omega
def checkM (n m:Int) (len:Nat):Int:=if sidesE n m=0 then (if (len:Int)=n*m then 0 else 1) else sidesE n m
set_option maxRecDepth 100000 in
set_option maxHeartbeats 1000000 in
theorem mcheck_any (n m:Int) (a:Option Addr) (len cap:Nat) (w:World) :
  Calls Tryz.prog 95 #[.agg #[.int .i64 n,.int .i64 m,.slice a len cap]] w fun e w'=>e=.returned (.int .i64 (checkM n m len))∧Below w.heap.size w w':=by
 have h1:=msides_any n m
 unfold checkM
 by_cases hs:sidesE n m=0
 ·rw[if_pos hs]
  obtain⟨a1,a2,a3,a4⟩:=sidesE_zero hs
  rw[hs] at h1
  obtain⟨x,hx⟩:∃ x,x=n*m:=⟨_,rfl⟩
  have hx0:0≤x:=by rw[hx];exact Int.mul_nonneg a1 a3
  have hx1:x≤4194304:=by rw[hx];exact Int.mul_le_mul a2 a4 a3 (by decide)
  have hw:IntKind.i64.wrap (n*m)=x:=by rw[←hx];exact IntWalk.i64_in _ (by omega)
  rw[←hx]
  by_cases hl:(len:Int)=x
  ·rw[if_pos hl]
   have hb:((len:Int) != x)=false:=by simp[hl]
   clear hl hx hx0 hx1 a1 a2 a3 a4 hs
   go_enter Tryz.func95,Tryz.ntmps95
   go_wp2_with fail
   (((with_reducible refine(h1 _).mono ?_));rintro e w' ⟨rfl,hb⟩;have h:=tsz ((In.self _).call hb);clear hb;have hc:=h.cell;have hf:=h.frozen)
   go_wp2_with fail
   go_ret
   exact⟨rfl,by exact tfin⟩
  ·rw[if_neg hl]
   have hb:((len:Int) != x)=true:=by simp[hl]
   clear hl hx hx0 hx1 a1 a2 a3 a4 hs
   go_enter Tryz.func95,Tryz.ntmps95
   go_wp2_with fail
   (((with_reducible refine(h1 _).mono ?_));rintro e w' ⟨rfl,hb⟩;have h:=tsz ((In.self _).call hb);clear hb;have hc:=h.cell;have hf:=h.frozen)
   go_wp2_with fail
   go_ret
   exact⟨rfl,by exact tfin⟩
 ·rw[if_neg hs]
  obtain⟨s,hs1⟩:∃ s,s=sidesE n m:=⟨_,rfl⟩
  rw[←hs1] at h1 hs ⊢
  have hb:(s != 0)=true:=by simpa using hs
  clear hs hs1
  go_enter Tryz.func95,Tryz.ntmps95
  go_wp2_with fail
  (((with_reducible refine(h1 _).mono ?_));rintro e w' ⟨rfl,hb⟩;have h:=tsz ((In.self _).call hb);clear hb;have hc:=h.cell;have hf:=h.frozen)
  go_wp2_with fail
  go_ret
  exact⟨rfl,by exact tfin⟩
end Gus
end
section
namespace Gus
open Go Go.RowKit Go.Proofs
def fcs (q:Rat):List Value:=[.int .u64 (lo q.num.natAbs),.string (bg q.num.natAbs),.bool (decide (q.num<0)),.int .u64 (lo (q.den - 1)),.string (bg (q.den - 1))]
def fcl (qs:List Rat):List Value:=qs.flatMap fcs
theorem fcl_length (qs:List Rat):(fcl qs).length=qs.length*5:=by
 unfold fcl
 induction qs with
 | nil=>rfl
 | cons q qs ih=>rw[List.flatMap_cons,List.length_append,ih,List.length_cons];simp[fcs];omega
def QAt (w:World) (a:Option Addr) (qs:List (Int×Int)):Prop:=
 ∀ i,i<qs.length→∃ b off,a=some ⟨b,off,none⟩∧b<w.heap.size∧w.cell? ⟨b,off+2*i,none⟩=some (.int .i64 (qs.getD i (0,0)).1)∧w.cell? ⟨b,off+2*i+1,none⟩=some (.int .u32 (qs.getD i (0,0)).2)
def QOk (qs:List (Int×Int)):Prop:=∀ p∈qs,-9223372036854775808≤p.1∧p.1<9223372036854775808∧0≤p.2∧p.2<4294967296
def mEl (qs:List (Int×Int)) (i:Nat):Rat:=qOf (qs.getD i (0,0)).1 (qs.getD i (0,0)).2
def mList (qs:List (Int×Int)) (k:Nat):List Rat:=(List.range k).map (mEl qs)
theorem mList_length (qs:List (Int×Int)) (k:Nat):(mList qs k).length=k:=by simp[mList]
section
variable {P:Program} {ops:Array Oper} {w0:World} {A:(Nat→Value)→Act} {T:Act→World→Prop} {i:Nat} {o:Oper} {os:List Oper} {V:Nat→(Nat→Value)→Value→World→Prop} {Φ:Nat→Bool}
def NewS (N:Nat) (T:TypeId) (zs:List Value) (n:Nat) (x:Value) (w:World):Prop:=∃ b,x=.slice (some ⟨b,0,none⟩) n n∧N≤b∧Bx w b T zs
theorem stable_newS (N:Nat) (T:TypeId) (zs:List Value) (n:Nat):Stable (NewS N T zs n):=fun _ _ _ ⟨b,h1,h2,h3⟩ hs=>⟨b,h1,h2,h3.call hs⟩
theorem placed_newS (φ:Bool) (N:Nat) (T:TypeId) (zs:List Value) (n:Nat):Placed φ (NewS N T zs n):=fun _ x w ⟨b,h1,h2,h3⟩ c hc=>by
 subst h1;cases hc;exact h3.lt
theorem flow_slice {t:TypeId} {zs:Array Value} {n:Nat} (hg:o.guard=none) (hf:fl o=false) (h:∀ u w,St w0 w→depH V u w o.after.toList→(execOp (A u).eval o).run P w=.ok (.value (.slice (some ⟨w.heap.size,0,none⟩) n n)) (w.alloc (.cells zs t)))
  (k:flow P ops w0 A T (i+1) os (ext V i (NewS w0.heap.size t zs.toList n)) (extB Φ i true)):flow P ops w0 A T i (o :: os) V Φ:=
 ⟨fun _=>_,true,fun _=>stable_newS _ _ _ _,fun _=>placed_newS _ _ _ _ _,local_const _ _,fun u w hw hd=>by
  unfold okOp
  rw[if_pos (by unfold Region.wanted;rw[hg]),h u w hw hd]
  exact⟨⟨⟨w.heap.size,rfl,hw.size,Bx.new _ _ _⟩,fun _ b hb=>by cases hb;exact Nat.le_refl _⟩,(Below.refl _ _).alloc (Nat.le_refl _) _⟩,fun h0=>absurd h0 (by rw[hf];exact Bool.false_ne_true),k⟩
end
end Gus
end
section
namespace Gus
open Go Go.RowKit Go.Proofs
def ecs (e:Nat×Rat):List Value:=.int .i64 (e.1:Nat) :: fcs e.2
theorem ecs_length (e:Nat×Rat):(ecs e).length=6:=rfl
def RowAt (w:World) (v:Value) (es:List (Nat×Rat)):Prop:=
 ∃ a cap,v=.slice a es.length cap∧∀ i,i<es.length→∃ b off,a=some ⟨b,off,none⟩∧b<w.heap.size∧∀ j,j<6→w.cell? ⟨b,off+6*i+j,none⟩=(ecs (es.getD i (0,0)))[j]?
theorem RowAt.below {N:Nat} {w w':World} {v:Value} {es:List (Nat×Rat)} (h:RowAt w v es) (hN:w.heap.size≤N) (hb:Below N w w'):RowAt w' v es:=by
 obtain⟨a,cap,h1,h2⟩:=h
 refine⟨a,cap,h1,fun i hi=>?_⟩
 obtain⟨b,off,h3,h4,h5⟩:=h2 i hi
 refine⟨b,off,h3,Nat.lt_of_lt_of_le h4 hb.size,fun j hj=>?_⟩
 rw[hb.cell (p:=⟨b,off+6*i+j,none⟩) (Nat.lt_of_lt_of_le h4 hN)]
 exact h5 j hj
theorem RowAt.call {w w':World} {v:Value} {es:List (Nat×Rat)} (h:RowAt w v es) (hb:Below w.heap.size w w'):RowAt w' v es:=h.below (Nat.le_refl _) hb
theorem RowAt.nil (w:World) (a:Option Addr) (cap:Nat):RowAt w (.slice a 0 cap) []:=⟨a,cap,rfl,fun _ hi=>absurd hi (Nat.not_lt_zero _)⟩
theorem flat_at:∀ (es:List (Nat×Rat)) (i j:Nat),i<es.length→j<6→(es.flatMap ecs)[6*i+j]?=(ecs (es.getD i (0,0)))[j]?
 | [],i,j,h,_=>absurd h (Nat.not_lt_zero _)
 | e :: es,0,j,_,hj=>by
  rw[List.flatMap_cons,Nat.mul_zero,Nat.zero_add,List.getElem?_append_left (by rw[ecs_length];exact hj)];rfl
 | e :: es,i+1,j,h,hj=>by
  rw[List.flatMap_cons,List.getElem?_append_right (by rw[ecs_length];omega),ecs_length,show 6*(i+1)+j - 6=6*i+j by omega,flat_at es i j (Nat.lt_of_succ_lt_succ h) hj];rfl
def SpAt (w:World) (v:Value) (r c:Nat) (rows:List (List (Nat×Rat))):Prop:=
 ∃ a cap,v=.agg #[.int .i64 r,.int .i64 c,.slice a rows.length cap]∧∀ i,i<rows.length→∃ b off x,a=some ⟨b,off,none⟩∧b<w.heap.size∧w.cell? ⟨b,off+i,none⟩=some x∧RowAt w x (rows.getD i [])
theorem SpAt.call {w w':World} {v:Value} {r c:Nat} {rows:List (List (Nat×Rat))} (h:SpAt w v r c rows) (hb:Below w.heap.size w w'):SpAt w' v r c rows:=by
 obtain⟨a,cap,h1,h2⟩:=h
 refine⟨a,cap,h1,fun i hi=>?_⟩
 obtain⟨b,off,x,h3,h4,h5,h6⟩:=h2 i hi
 refine⟨b,off,x,h3,Nat.lt_of_lt_of_le h4 hb.size, ?_,h6.call hb⟩
 rw[hb.cell (p:=⟨b,off+i,none⟩) h4]
 exact h5
theorem RowAt.own {w:World} {base:Nat} {e:TypeId} {v:Value} {es:List (Nat×Rat)} (h:w.ownsRow base e 6 v es.length (es.flatMap ecs)):RowAt w v es:=by
 rcases h.2 with ⟨rfl,hn⟩|⟨g,cap,cur,rfl,hb,hg,hrest⟩
 ·rw[List.length_eq_zero_iff] at hn
  subst hn
  exact RowAt.nil w none 0
 ·refine⟨some ⟨g,0,none⟩,cap,rfl,fun i hi=>⟨g,0,rfl,(Array.getElem?_eq_some_iff.1 hg).1,fun j hj=>?_⟩⟩
  have hk:=flat_at es i j hi hj
  have hj6:j<(ecs (es.getD i (0,0))).length:=by rw[ecs_length];exact hj
  rw[List.getElem?_eq_getElem hj6] at hk ⊢
  have:=h.cells (g:=g) rfl (6*i+j) _ hk
  rw[Nat.zero_add,←this]
  unfold Addr.add
  split <;> simp_all
end Gus
end
section
namespace Gus
open Go Go.RowKit
section
variable {P:Program} {ops:Array Oper} {Q:Exit→Act→World→Prop} {md:Region.Mode} {S:World→Prop} {n:Nat}
def wpAnyL (P:Program) (md:Region.Mode) (ops:Array Oper) (Q:Exit→Act→World→Prop) (S:World→Prop) (n:Nat):Nat→Array Bool→Act→World→Prop
 | 0,listed,a,w=>Region.ready md ops listed=[]∧Q .normal a w
 | fuel+1,listed,a,w=>
  (Region.ready md ops listed=[]→Q .normal a w) ∧
  ∀ i∈Region.ready md ops listed,wpOp P ops Q i (fun a' w'=>(i<n→S w')∧wpAnyL P md ops Q S n fuel (listed.setIfInBounds i true) a' w') a w
theorem wpAny_of_L:∀ (fuel:Nat) (listed:Array Bool) (a:Act) (w:World),wpAnyL P md ops Q S n fuel listed a w→wpAny P md ops Q fuel listed a w
 | 0,_,_,_,h=>h
 | fuel+1,_,_,_,h=>⟨h.1,fun i hi=>wpOp_mono (fun a' w' h'=>wpAny_of_L fuel _ a' w' h'.2) (h.2 i hi)⟩
theorem wpAnyL_first {i:Nat} {oi:Oper} {v:Value} (hi:ops[i]?=some oi) (hsel:∀ (j:Nat) (o:Oper) cs b,ops[j]?=some o→o.op≠.select cs b)
  (hs:Region.sinkB md ops n=true) (hc:Region.chainB md ops n=true) (hn:n<ops.size) (hin:i<n)
  (hQ:∀ c a w,Q (.panic c) (a.put oi.dst v) w→Q (.panic c) a w) :
  ∀ (fuel:Nat) (listed:Array Bool) (a:Act) (w:World),HeadInv md ops n listed →
   (∀ j oj,ops[j]?=some oj→j≠i→listed.getD j true=false→(∀ e∈oj.after,Region.binds md e=true→e.on≠i)→oi.apart ops oj=true) →
   i∈Region.ready md ops listed→YieldsIf P ops S oi v a→S w →
   wpAnyL P md ops Q S n fuel (listed.setIfInBounds i true) (a.put oi.dst v) w→wpAnyL P md ops Q S n (fuel+1) listed a w:=by
 intro fuel
 induction fuel with
 | zero=>
  intro listed a w inv _ hr hy hS H
  refine⟨fun h=>(by rw[h] at hr;cases hr),fun j hj=>?_⟩
  by_cases hji:j=i
  ·subst hji;exact hy.wpOp hi hS ⟨fun _=>hS,H⟩
  ·have:=ready_mono hj hji
   rw[H.1] at this
   cases this
 | succ fuel ih=>
  intro listed a w inv hfree hr hy hS H
  have hun:=(mem_ready.1 hr).1
  refine⟨fun h=>(by rw[h] at hr;cases hr),fun j hj=>?_⟩
  have hjn:j<n:=by
   rcases Nat.lt_or_ge j n with h | h
   ·exact h
   ·exact absurd hj (tail_waits hs hc hn inv _ i rfl hin hun j h)
  by_cases hji:j=i
  ·subst hji;exact hy.wpOp hi hS ⟨fun _=>hS,H⟩
  ·have h1:=H.2 j (ready_mono hj hji)
   obtain⟨hjun,oj,hoj,hall⟩:=mem_ready.1 hj
   have hnot:∀ e∈oj.after,Region.binds md e=true→e.on≠i:=fun e he hb heq=>by
    have h1:=hall e he hb
    rw[heq,getD_both hun] at h1
    cases h1
   have h2:=wpOp_putIf hoj (hfree j oj hoj hji hjun hnot) (fun cs b=>hsel i oi cs b hi) (fun cs b=>hsel j oj cs b hoj) hQ hy h1
   have hfree':∀ k ok,ops[k]?=some ok→k≠i→(listed.setIfInBounds j true).getD k true=false →
     (∀ e∈ok.after,Region.binds md e=true→e.on≠i)→oi.apart ops ok=true:=fun k ok hk hki hun hno=>by
    refine hfree k ok hk hki ?_ hno
    by_cases hjk:j=k
    ·subst hjk;exact hjun
    ·rw[getD_set_ne true hjk] at hun;exact hun
   refine wpOp_mono (fun a' w' h3=>⟨h3.2.1,ih (listed.setIfInBounds j true) a' w' (inv.set hj hjn) hfree' (ready_mono hr (Ne.symm hji)) h3.1 (h3.2.1 hjn) ?_⟩) h2
   rw[Array.setIfInBounds_comm _ _ hji]
   exact h3.2.2
def wpMixL (P:Program) (ops:Array Oper) (Q:Exit→Act→World→Prop) (S:World→Prop) (n:Nat):List (Nat×Bool)→Act→World→Prop
 | [],a,w=>Q .normal a w
 |(i,true) :: r,a,w=>∃ o v,ops[i]?=some o∧YieldsIf P ops S o v a∧wpMixL P ops Q S n r (a.put o.dst v) w
 |(i,false) :: r,a,w=>wpOp P ops Q i (fun a' w'=>(i<n→S w')∧wpMixL P ops Q S n r a' w') a w
def mixLB (md:Region.Mode) (ops:Array Oper) (n:Nat):List (Nat×Bool)→Array Bool→Bool
 | [],listed=>(Region.ready md ops listed).isEmpty
 |(i,true) :: r,listed=>decide (i<n) && (Region.ready md ops listed).contains i && Region.free md ops listed i && mixLB md ops n r (listed.setIfInBounds i true)
 |(i,false) :: r,listed=>decide (Region.ready md ops listed=[i]) && mixLB md ops n r (listed.setIfInBounds i true)
def mixOrd (n:Nat):List (Nat×Bool)→Bool
 | []=>true
 |(i,b) :: r=>(decide (i<n)||(!b && r.all fun p=>!p.2)) && mixOrd n r
theorem wpAnyL_of_loud (hs:Region.noSelect ops=true):∀ (plan:List (Nat×Bool)) (listed:Array Bool) (a:Act) (w:World),plan.all (fun p=>!p.2)=true→mixLB md ops n plan listed=true→wpMixL P ops Q S n plan a w→wpAnyL P md ops Q S n plan.length listed a w
 | [],listed,a,w,_,hB,h=>by
  simp only[mixLB,List.isEmpty_iff] at hB
  exact⟨hB,h⟩
 |(i,true) :: r,listed,a,w,hl,_,_=>by simp at hl
 |(i,false) :: r,listed,a,w,hl,hB,h=>by
  simp only[mixLB,Bool.and_eq_true,decide_eq_true_eq] at hB
  simp only[List.all_cons,Bool.and_eq_true] at hl
  refine⟨fun h0=>absurd (hB.1 ▸ h0) (by simp),fun j hj=>?_⟩
  rw[hB.1] at hj
  obtain rfl:j=i:=by simpa using hj
  exact wpOp_mono (fun a' w' h'=>⟨h'.1,wpAnyL_of_loud hs r _ _ _ hl.2 hB.2 h'.2⟩) h
theorem wpAnyL_of_mix (hs:Region.noSelect ops=true) (hk:Region.sinkB md ops n=true) (hc:Region.chainB md ops n=true) (hn:n<ops.size) (hQ:∀ c a d v w,Q (.panic c) (Act.put a d v) w→Q (.panic c) a w) :
  ∀ (plan:List (Nat×Bool)) (listed:Array Bool) (a:Act) (w:World),HeadInv md ops n listed→mixOrd n plan=true→mixLB md ops n plan listed=true→S w→wpMixL P ops Q S n plan a w→wpAnyL P md ops Q S n plan.length listed a w
 | [],listed,a,w,_,_,hB,_,h=>by
  simp only[mixLB,List.isEmpty_iff] at hB
  exact⟨hB,h⟩
 |(i,true) :: r,listed,a,w,inv,ho,hB,hS,h=>by
  simp only[mixLB,Bool.and_eq_true,decide_eq_true_eq] at hB
  simp only[mixOrd,Bool.and_eq_true] at ho
  obtain⟨o,v,hoi,hy,hk'⟩:=h
  have hr:i∈Region.ready md ops listed:=by simpa using hB.1.1.2
  exact wpAnyL_first hoi (Region.noSelect_spec hs) hk hc hn hB.1.1.1 (fun c a w h=>hQ c a o.dst v w h) _ listed a w inv (Region.free_spec hoi hB.1.2) hr hy hS (wpAnyL_of_mix hs hk hc hn hQ r _ _ _ (inv.set hr hB.1.1.1) ho.2 hB.2 hS hk')
 |(i,false) :: r,listed,a,w,inv,ho,hB,hS,h=>by
  simp only[mixLB,Bool.and_eq_true,decide_eq_true_eq] at hB
  simp only[mixOrd,Bool.and_eq_true,Bool.or_eq_true,decide_eq_true_eq] at ho
  refine⟨fun h0=>absurd (hB.1 ▸ h0) (by simp),fun j hj=>?_⟩
  have hj0:=hj
  rw[hB.1] at hj
  obtain rfl:j=i:=by simpa using hj
  refine wpOp_mono (fun a' w' h'=>⟨h'.1, ?_⟩) h
  rcases Nat.lt_or_ge j n with hlt | hge
  ·exact wpAnyL_of_mix hs hk hc hn hQ r _ _ _ (inv.set hj0 hlt) ho.2 hB.2 (h'.1 hlt) h'.2
  ·rcases ho.1 with h1 | h1
   ·omega
   ·exact wpAnyL_of_loud hs r _ _ _ h1.2 hB.2 h'.2
theorem mixL_take {i:Nat} {r:List (Nat×Bool)} {o:Oper} {a:Act} {w:World} {v:Value} (ho:ops.toList[i]?=some o) (hw:Region.wanted o (yielded ops a.tmps)=true)
  (h:∀ w,S w→(execOp a.eval o).run P w=.ok (.value v) w) (hk:wpMixL P ops Q S n r (a.put o.dst v) w):wpMixL P ops Q S n ((i,true) :: r) a w:=⟨o,v,by rw[←Array.getElem?_toList];exact ho,.inl ⟨hw,h⟩,hk⟩
theorem mixL_run {i:Nat} {r:List (Nat×Bool)} {o:Oper} {a:Act} {w:World} (ho:ops.toList[i]?=some o) (hw:Region.wanted o (yielded ops a.tmps)=true)
  (h:∀ K:Act→World→Prop,(∀ a w,(i<n→S w)→wpMixL P ops Q S n r a w→K a w)→o.wp P a w K Q):wpMixL P ops Q S n ((i,false) :: r) a w:=by
 rw[Array.getElem?_toList] at ho
 unfold wpMixL wpOp
 simp only[ho,hw,if_true]
 exact .inl (h _ fun a w hS hk=>⟨hS,hk⟩)
def mixQ (Q:Exit→Act→World→Prop) (K:Act→World→Prop):Exit→Act→World→Prop
 | .normal,a,w=>K a w
 | e,a,w=>Q e a w
theorem upon_mixQ {K:Act→World→Prop} {o:Oper} {a:Act}:∀ (r:Result Next),o.upon P a K (mixQ Q K) r→o.upon P a K Q r
 | .ok (.value _) _,h=>h
 | .ok .skip _,h=>h
 | .ok (.defer _) _,h=>h
 | .ok (.enter _ _) _,h=>Calls.mono h fun e _ he=>by
  cases e with
  | returned u=>exact he
  | panicked c=>exact he
  | outgrown=>exact he
 | .ok (.row _ _) _,h=>h
 | .halt (.panic _) _,h=>h
 | .halt (.exit _) _,h=>h
 | .ok (.round ..) _,h=>h
 | .halt (.unsupported _) _,h=>h
 | .halt (.stuck _) _,h=>h
theorem mixL_list {i:Nat} {r:List (Nat×Bool)} {o:Oper} {a:Act} {w:World} (ho:ops.toList[i]?=some o)
  (h:wpList P ops (mixQ Q fun a' w'=>(i<n→S w')∧wpMixL P ops Q S n r a' w') [o] a w):wpMixL P ops Q S n ((i,false) :: r) a w:=by
 rw[Array.getElem?_toList] at ho
 unfold wpMixL wpOp
 unfold wpList at h
 simp only[ho]
 split
 ·rename_i hw
  rw[if_pos hw] at h
  rcases h with h |⟨h1,h2⟩
  ·exact .inl (upon_mixQ _ h)
  ·exact .inr ⟨h1,h2⟩
 ·rename_i hw
  rw[if_neg hw] at h
  exact h
theorem mixL_done {a:Act} {w:World} (h:Q .normal a w):wpMixL P ops Q S n [] a w:=h
theorem wp_region_mixL {id:Nat} {a:Act} {w:World} {l:List Oper} (S:World→Prop) (n:Nat) (plan:List (Nat×Bool)) (hm:P.follows .mixedOrders=true) (hs:Region.noSelect l.toArray=true) (hl:plan.length=l.toArray.size)
  (hn:decide (n<l.toArray.size)=true) (hk:Region.sinkB .any l.toArray n=true) (hc:Region.chainB .any l.toArray n=true) (ho:mixOrd n plan=true)
  (hB:mixLB .any l.toArray n plan (Array.replicate l.toArray.size false)=true) (hQ:∀ c a d v w,Q (.panic c) (Act.put a d v) w→Q (.panic c) a w) (hS:S w.drew) (h:wpMixL P l.toArray Q S n plan a w.drew):(Code.region id l.toArray true).wp P Q a w:=by
 refine wp_region_any hm ?_
 have key:=wpAnyL_of_mix (P:=P) (Q:=Q) (S:=S) hs hk hc (by simpa using hn) hQ plan (Array.replicate l.toArray.size false) a w.drew ⟨by simp,fun j oj _ hl=>(by rw[getD_replicate_false] at hl;cases hl),fun t _ ht=>getD_in (by rw[Array.size_replicate];exact ht) (getD_replicate_false _ _)⟩ ho hB hS h
 rw[hl] at key
 exact wpAny_of_L (S:=S) (n:=n) _ _ _ _ key
end
end Gus
end
section
namespace Gus
abbrev Ent:=Nat×Rat
def rowOf (g:Nat→Rat) (M:Nat):List Ent:=((List.range M).filter fun k=>g k != 0).map fun k=>(k,g k)
theorem mem_rowOf {g:Nat→Rat} {M k:Nat} {q:Rat}:(k,q)∈rowOf g M↔k<M∧g k≠0∧q=g k:=by
 unfold rowOf
 simp only[List.mem_map,List.mem_filter,List.mem_range,Prod.mk.injEq,bne_iff_ne,ne_eq]
 constructor
 ·rintro⟨a,⟨h1,h2⟩,rfl,rfl⟩;exact⟨h1,h2,rfl⟩
 ·rintro⟨h1,h2,rfl⟩;exact⟨k,⟨h1,h2⟩,rfl,rfl⟩
def Asc (es:List Ent):Prop:=es.Pairwise fun a b=>a.1<b.1
theorem rowOf_asc (g:Nat→Rat) (M:Nat):Asc (rowOf g M):=by
 unfold rowOf Asc
 rw[List.pairwise_map]
 exact List.Pairwise.filter _ List.pairwise_lt_range
theorem rowOf_length (g:Nat→Rat) (M:Nat):(rowOf g M).length≤M:=by
 unfold rowOf
 rw[List.length_map]
 exact Nat.le_trans (List.length_filter_le _ _) (by simp)
theorem asc_ext:∀ {a b:List Ent},Asc a→Asc b→(∀ x,x∈a↔x∈b)→a=b
 | [],[],_,_,_=>rfl
 | [],y :: b,_,_,h=>by have:=(h y).2 (.head _);cases this
 | x :: a,[],_,_,h=>by have:=(h x).1 (.head _);cases this
 | x :: a,y :: b,ha,hb,h=>by
  have ha':=List.pairwise_cons.1 ha
  have hb':=List.pairwise_cons.1 hb
  have hxy:x=y:=by
   rcases List.mem_cons.1 ((h x).1 (.head _)) with h1 | h1
   ·exact h1
   ·rcases List.mem_cons.1 ((h y).2 (.head _)) with h2 | h2
    ·exact h2.symm
    ·have:=hb'.1 x h1;have:=ha'.1 y h2;omega
  subst hxy
  rw[asc_ext ha'.2 hb'.2 fun z=>?_]
  constructor
  ·intro hz
   rcases List.mem_cons.1 ((h z).1 (List.mem_cons_of_mem _ hz)) with h1 | h1
   ·subst h1;have:=ha'.1 z hz;omega
   ·exact h1
  ·intro hz
   rcases List.mem_cons.1 ((h z).2 (List.mem_cons_of_mem _ hz)) with h1 | h1
   ·subst h1;have:=hb'.1 z hz;omega
   ·exact h1
def Onc (es:List Ent):Prop:=es.Pairwise fun a b=>a.1≠b.1
theorem onc_perm {a b:List Ent} (h:Onc a) (p:b.Perm a):Onc b:=(List.Perm.pairwise_iff (fun hxy=>Ne.symm hxy) p).2 h
theorem asc_of {es:List Ent} (h1:Onc es) (h2:es.Pairwise fun a b=>¬ b.1<a.1):Asc es:=
 (h1.and h2).imp fun⟨h1,h2⟩=>by omega
theorem onc_length:∀ (M:Nat) (es:List Ent),Onc es→(∀ x∈es,x.1<M)→es.length≤M
 | 0,es,_,h=>by
  cases es with
  | nil=>exact Nat.le_refl _
  | cons x es=>exact absurd (h x (.head _)) (Nat.not_lt_zero _)
 | M+1,es,h1,h=>by
  have h2:=onc_length M (es.filter fun x=>x.1 != M) (List.Pairwise.filter _ h1) (fun x hx=>by
   have hx':=List.mem_filter.1 hx
   have:=h x hx'.1
   have h3:x.1≠M:=by simpa using hx'.2
   omega)
  have h3:es.length≤(es.filter fun x=>x.1 != M).length+1:=by
   clear h2 h
   induction es with
   | nil=>simp
   | cons x es ih=>
    have h1':=List.pairwise_cons.1 h1
    by_cases hx:x.1=M
    ·have hall:es.filter (fun x=>x.1 != M)=es:=by
      rw[List.filter_eq_self]
      intro y hy
      have:=h1'.1 y hy
      simp only[bne_iff_ne,ne_eq];omega
     rw[List.filter_cons_of_neg (by simp[hx]),hall,List.length_cons]
     exact Nat.le_refl _
    ·have:=ih h1'.2
     rw[List.filter_cons_of_pos (by simp[hx]),List.length_cons,List.length_cons];omega
  omega
def Cnt (f:Nat→Nat→Rat) (N M:Nat) (lf:Nat→Nat→Bool) (Ls:Nat→List Ent):Prop:=
 ∀ i,i<N→Onc (Ls i)∧∀ k q,(k,q)∈Ls i↔(k<M∧f i k≠0∧q=f i k)∧lf i k=false
def updF (Ls:Nat→List Ent) (i:Nat) (es:List Ent):Nat→List Ent:=fun j=>if j=i then es else Ls j
theorem updF_same (Ls:Nat→List Ent) (i:Nat) (es:List Ent):updF Ls i es i=es:=by unfold updF;rw[if_pos rfl]
theorem updF_ne (Ls:Nat→List Ent) {i j:Nat} (es:List Ent) (h:j≠i):updF Ls i es j=Ls j:=by unfold updF;rw[if_neg h]
theorem Cnt.start {f:Nat→Nat→Rat} {N M:Nat} {lf:Nat→Nat→Bool} (h:∀ i k,i<N→k<M→f i k≠0→lf i k=true):Cnt f N M lf (fun _=>[]):=by
 intro i hi
 refine⟨.nil,fun k q=>⟨fun h=>absurd h List.not_mem_nil,fun⟨⟨h1,h2,_⟩,h3⟩=>?_⟩⟩
 rw[h i k hi h1 h2] at h3;cases h3
theorem Cnt.step {f:Nat→Nat→Rat} {N M:Nat} {lf lf':Nat→Nat→Bool} {Ls:Nat→List Ent} (h:Cnt f N M lf Ls) {i0 k0:Nat} (hi0:i0<N) (hk0:k0<M) (hf:f i0 k0≠0) (hl:lf i0 k0=true)
  (hl':∀ i k,i<N→k<M→lf' i k=(lf i k && !(decide (i=i0∧k=k0)))):Cnt f N M lf' (updF Ls i0 (Ls i0 ++ [(k0,f i0 k0)])):=by
 intro i hi
 obtain⟨h1,h2⟩:=h i hi
 by_cases he:i=i0
 ·subst he
  rw[updF_same]
  constructor
  ·unfold Onc
   rw[List.pairwise_append]
   refine⟨h1,by simp,fun x hx y hy=>?_⟩
   have hy':y=(k0,f i k0):=by simpa using hy
   subst hy'
   intro hxk
   have:=(h2 x.1 x.2).1 hx
   rw[hxk] at this
   simp only at this
   rw[hl] at this;exact absurd this.2 (by decide)
  ·intro k q
   rw[List.mem_append,List.mem_singleton,h2 k q,Prod.mk.injEq]
   constructor
   ·rintro(⟨⟨a,b,c⟩,d⟩|⟨rfl,rfl⟩)
    ·exact⟨⟨a,b,c⟩,by rw[hl' i k hi a,d];rfl⟩
    ·exact⟨⟨hk0,hf,rfl⟩,by rw[hl' i k hi hk0];simp⟩
   ·rintro⟨⟨a,b,c⟩,d⟩
    by_cases hk:k=k0
    ·subst hk;exact .inr ⟨rfl,c⟩
    ·refine .inl ⟨⟨a,b,c⟩, ?_⟩
     rw[hl' i k hi a] at d
     simpa[hk] using d
 ·rw[updF_ne _ _ he]
  refine⟨h1,fun k q=>?_⟩
  rw[h2 k q]
  constructor
  ·rintro⟨⟨a,b,c⟩,d⟩
   exact⟨⟨a,b,c⟩,by rw[hl' i k hi a,d];rfl⟩
  ·rintro⟨⟨a,b,c⟩,d⟩
   refine⟨⟨a,b,c⟩, ?_⟩
   rw[hl' i k hi a] at d
   simpa[he] using d
theorem Cnt.length {f:Nat→Nat→Rat} {N M:Nat} {lf:Nat→Nat→Bool} {Ls:Nat→List Ent} (h:Cnt f N M lf Ls) {i:Nat} (hi:i<N):(Ls i).length≤M:=
 onc_length M _ (h i hi).1 fun x hx=>((h i hi).2 x.1 x.2).1 hx |>.1.1
theorem Cnt.sorted {f:Nat→Nat→Rat} {N M:Nat} {lf:Nat→Nat→Bool} {Ls:Nat→List Ent} (h:Cnt f N M lf Ls) {i:Nat} (hi:i<N) (hl:∀ k,k<M→lf i k=false) {es:List Ent} (hp:es.Perm (Ls i)) (hs:es.Pairwise fun a b=>¬ b.1<a.1):es=rowOf (f i) M:=by
 refine asc_ext (asc_of (onc_perm (h i hi).1 hp) hs) (rowOf_asc _ _) fun⟨k,q⟩=>?_
 rw[hp.mem_iff,(h i hi).2 k q,mem_rowOf]
 constructor
 ·exact fun⟨a,_⟩=>a
 ·exact fun a=>⟨a,hl k a.1⟩
end Gus
end
section
namespace Gus
open Go Go.RowKit Go.Proofs
theorem flatE_length (es:List Ent):(es.flatMap ecs).length=es.length*6:=by
 induction es with
 | nil=>rfl
 | cons e es ih=>rw[List.flatMap_cons,List.length_append,ih,List.length_cons,ecs_length];omega
def RowIs (w:World) (lo:Nat) (ti:Bool) (v:Value) (es:List Ent):Prop:=
 (v=.slice none 0 0∧es=[])∨∃ g cap cur,v=.slice (some ⟨g,0,none⟩) es.length cap∧lo≤g∧w.heap[g]?=some (.cells cur 98 (0,0))∧es.length≤cap∧cap≤maxLen∧cap*6≤cur.size∧(ti=true→cur.size=cap*6)∧cur.toList.take (es.length*6)=es.flatMap ecs
section
variable {w w':World} {lo:Nat} {ti:Bool} {v:Value} {es:List Ent}
theorem RowIs.own {base:Nat} (h:w.ownsRow base 98 6 v es.length (es.flatMap ecs)):RowIs w base true v es:=by
 rcases h.2 with ⟨rfl,hn⟩|⟨g,cap,cur,rfl,hb,hg,h1,h2,h3,h4⟩
 ·exact .inl ⟨rfl,List.length_eq_zero_iff.1 hn⟩
 ·exact .inr ⟨g,cap,cur,rfl,hb,hg,h1,h2,by omega,fun _=>h3,h4⟩
theorem RowIs.toOwn (h:RowIs w lo true v es):w.ownsRow lo 98 6 v es.length (es.flatMap ecs):=by
 refine⟨flatE_length es, ?_⟩
 rcases h with ⟨rfl,rfl⟩|⟨g,cap,cur,rfl,hb,hg,h1,h2,h3,h4,h5⟩
 ·exact .inl ⟨rfl,rfl⟩
 ·exact .inr ⟨g,cap,cur,rfl,hb,hg,h1,h2,h4 rfl,h5⟩
theorem RowIs.loose (h:RowIs w lo ti v es):RowIs w lo false v es:=by
 rcases h with h |⟨g,cap,cur,hv,hb,hg,h1,h2,h3,h4,h5⟩
 ·exact .inl h
 ·exact .inr ⟨g,cap,cur,hv,hb,hg,h1,h2,h3,(fun h=>by cases h),h5⟩
theorem RowIs.lt (h:RowIs w lo ti v es):∀ k,v.ownBlock=some k→lo≤k∧k<w.heap.size:=by
 intro k hk
 rcases h with ⟨rfl,_⟩|⟨g,cap,cur,rfl,hb,hg,_⟩
 ·simp[Value.ownBlock] at hk
 ·simp[Value.ownBlock] at hk
  subst hk
  exact⟨hb,(Array.getElem?_eq_some_iff.1 hg).1⟩
theorem RowIs.of_block (h:RowIs w lo ti v es) (hb:∀ k,v.ownBlock=some k→w'.heap[k]?=w.heap[k]?):RowIs w' lo ti v es:=by
 rcases h with h |⟨g,cap,cur,rfl,h0,hg,h1⟩
 ·exact .inl h
 ·exact .inr ⟨g,cap,cur,rfl,h0,(hb g rfl).trans hg,h1⟩
theorem RowIs.kept {row:Option Nat} (h:RowIs w lo ti v es) (hg:w.grownBy w' row) (hne:v.ownBlock=none∨v.ownBlock≠row):RowIs w' lo ti v es:=
 h.of_block fun k hk=>hg.block k (h.lt k hk).2 (by
  rcases hne with h0 | h0
  ·rw[hk] at h0;cases h0
  ·rw[hk] at h0;exact h0)
theorem RowIs.below {N:Nat} (h:RowIs w lo ti v es) (hN:w.heap.size≤N) (hb:Below N w w'):RowIs w' lo ti v es:=
 h.of_block fun k hk=>hb.block k (Nat.lt_of_lt_of_le (h.lt k hk).2 hN)
theorem RowIs.call (h:RowIs w lo ti v es) (hb:Below w.heap.size w w'):RowIs w' lo ti v es:=h.below (Nat.le_refl _) hb
theorem RowIs.alloc (h:RowIs w lo ti v es) (o:Obj):RowIs (w.alloc o) lo ti v es:=h.of_block fun k hk=>Below.heap_alloc w o k (h.lt k hk).2
theorem RowIs.other {a:Addr} (h:RowIs w lo ti v es) (hne:v.ownBlock≠some a.block) (u:Value):RowIs (w.setCell a u) lo ti v es:=
 h.of_block fun k hk=>heap_setCell_other w a k u (fun e=>hne (by rw[hk,e]))
theorem RowIs.mono {lo':Nat} (h:RowIs w lo ti v es) (hl:lo'≤lo):RowIs w lo' ti v es:=by
 rcases h with h |⟨g,cap,cur,rfl,h0,h1⟩
 ·exact .inl h
 ·exact .inr ⟨g,cap,cur,rfl,by omega,h1⟩
theorem RowIs.at (h:RowIs w lo ti v es):RowAt w v es:=by
 rcases h with ⟨rfl,rfl⟩|⟨g,cap,cur,rfl,h0,hg,h1,h2,h3,_,h4⟩
 ·exact RowAt.nil w none 0
 ·refine⟨some ⟨g,0,none⟩,cap,rfl,fun i hi=>⟨g,0,rfl,(Array.getElem?_eq_some_iff.1 hg).1,fun j hj=>?_⟩⟩
  rw[←flat_at es i j hi hj,cell_of_row w g _ _ _ _ hg,←h4,List.getElem?_take,if_pos (by omega),Array.getElem?_toList,Nat.zero_add]
end
structure RowsAre (w:World) (lo:Nat) (ti:Bool) (N:Nat) (vs:List Value) (Ls:Nat→List Ent):Prop where
 len:vs.length=N
 row:∀ i,i<N→RowIs w lo ti (vs.getD i undef) (Ls i)
 apart:∀ i j,i<N→j<N→i≠j→∀ b,(vs.getD i undef).ownBlock=some b→(vs.getD j undef).ownBlock≠some b
section
variable {w w':World} {lo N:Nat} {ti:Bool} {vs:List Value} {Ls:Nat→List Ent}
theorem RowsAre.of_block (h:RowsAre w lo ti N vs Ls) (hb:∀ i k,i<N→(vs.getD i undef).ownBlock=some k→w'.heap[k]?=w.heap[k]?):RowsAre w' lo ti N vs Ls:=
 ⟨h.len,fun i hi=>(h.row i hi).of_block fun k hk=>hb i k hi hk,h.apart⟩
theorem RowsAre.below {M:Nat} (h:RowsAre w lo ti N vs Ls) (hN:w.heap.size≤M) (hb:Below M w w'):RowsAre w' lo ti N vs Ls:=
 h.of_block fun i k hi hk=>hb.block k (Nat.lt_of_lt_of_le ((h.row i hi).lt k hk).2 hN)
theorem RowsAre.call (h:RowsAre w lo ti N vs Ls) (hb:Below w.heap.size w w'):RowsAre w' lo ti N vs Ls:=h.below (Nat.le_refl _) hb
theorem RowsAre.alloc (h:RowsAre w lo ti N vs Ls) (o:Obj):RowsAre (w.alloc o) lo ti N vs Ls:=h.of_block fun i k hi hk=>Below.heap_alloc w o k ((h.row i hi).lt k hk).2
theorem RowsAre.other {a:Addr} (h:RowsAre w lo ti N vs Ls) (hne:a.block<lo) (u:Value):RowsAre (w.setCell a u) lo ti N vs Ls:=
 h.of_block fun i k hi hk=>heap_setCell_other w a k u (fun e=>by have:=((h.row i hi).lt k hk).1;omega)
theorem RowsAre.set (h:RowsAre w lo ti N vs Ls) {i:Nat} (hi:i<N) {v:Value} {es:List Ent} (hr:RowIs w' lo ti v es) (hg:w.grownBy w' (vs.getD i undef).ownBlock) (hv:∀ b,v.ownBlock=some b→(vs.getD i undef).ownBlock=some b∨w.heap.size≤b) :
  RowsAre w' lo ti N (vs.set i v) (updF Ls i es):=by
 have hlen:=h.len
 have hget:∀ j,j≠i→(vs.set i v).getD j undef=vs.getD j undef:=fun j hj=>by
  simp only[List.getD_eq_getElem?_getD];rw[List.getElem?_set_ne (Ne.symm hj)]
 have hgi:(vs.set i v).getD i undef=v:=by
  simp only[List.getD_eq_getElem?_getD];rw[List.getElem?_set_self (by omega)];rfl
 refine⟨by rw[List.length_set];exact hlen,fun j hj=>?_,fun j k hj hk hne b hb=>?_⟩
 ·by_cases hji:j=i
  ·subst hji;rw[hgi,updF_same];exact hr
  ·rw[hget j hji,updF_ne _ _ hji]
   refine(h.row j hj).kept hg ?_
   cases hb:(vs.getD j undef).ownBlock with
   | none=>exact .inl rfl
   | some b=>exact .inr (fun e=>h.apart j i hj hi hji b hb e.symm)
 ·by_cases hji:j=i
  ·subst hji
   rw[hgi] at hb
   rw[hget k (Ne.symm hne)]
   intro hk2
   rcases hv b hb with h1 | h1
   ·exact h.apart j k hi hk hne b h1 hk2
   ·have:=((h.row k hk).lt b hk2).2;omega
  ·rw[hget j hji] at hb
   by_cases hki:k=i
   ·subst hki
    rw[hgi]
    intro hk2
    rcases hv b hk2 with h1 | h1
    ·exact h.apart k j hi hj (Ne.symm hji) b h1 hb
    ·have:=((h.row j hj).lt b hb).2;omega
   ·rw[hget k hki];exact h.apart j k hj hk hne b hb
end
theorem RowsAre.loose {w:World} {lo N:Nat} {ti:Bool} {vs:List Value} {Ls:Nat→List Ent} (h:RowsAre w lo ti N vs Ls):RowsAre w lo false N vs Ls:=⟨h.len,fun i hi=>(h.row i hi).loose,h.apart⟩
theorem RowsAre.mono {w:World} {lo lo' N:Nat} {ti:Bool} {vs:List Value} {Ls:Nat→List Ent} (h:RowsAre w lo ti N vs Ls) (hl:lo'≤lo):RowsAre w lo' ti N vs Ls:=⟨h.len,fun i hi=>(h.row i hi).mono hl,h.apart⟩
def SpOwn (w:World) (lo:Nat) (v:Value) (r c:Nat) (Ls:Nat→List Ent):Prop:=
 ∃ R vs,v=.agg #[.int .i64 r,.int .i64 c,.slice (some ⟨R,0,none⟩) r r]∧lo≤R∧Bx w R 96 vs∧RowsAre w (R+1) false r vs Ls
def rowsL (r:Nat) (Ls:Nat→List Ent):List (List Ent):=(List.range r).map Ls
theorem rowsL_length (r:Nat) (Ls:Nat→List Ent):(rowsL r Ls).length=r:=by simp[rowsL]
theorem rowsL_getD {r:Nat} (Ls:Nat→List Ent) {i:Nat} (hi:i<r):(rowsL r Ls).getD i []=Ls i:=by
 simp[rowsL,List.getD_eq_getElem?_getD,hi]
theorem SpOwn.at {w:World} {lo:Nat} {v:Value} {r c:Nat} {Ls:Nat→List Ent} (h:SpOwn w lo v r c Ls):SpAt w v r c (rowsL r Ls):=by
 obtain⟨R,vs,rfl,h1,h2,h3⟩:=h
 refine⟨some ⟨R,0,none⟩,r,by rw[rowsL_length],fun i hi=>⟨R,0,vs.getD i undef,rfl,h2.lt, ?_, ?_⟩⟩
 ·rw[rowsL_length] at hi
  rw[h2.cell,Nat.zero_add,List.getD_eq_getElem?_getD,List.getElem?_eq_getElem (by rw[h3.len];exact hi)];rfl
 ·rw[rowsL_length] at hi
  rw[rowsL_getD Ls hi]
  exact(h3.row i hi).at
theorem SpOwn.call {w w':World} {lo:Nat} {v:Value} {r c:Nat} {Ls:Nat→List Ent} (h:SpOwn w lo v r c Ls) (hb:Below w.heap.size w w'):SpOwn w' lo v r c Ls:=by
 obtain⟨R,vs,rfl,h1,h2,h3⟩:=h
 exact⟨R,vs,rfl,h1,h2.call hb,h3.call hb⟩
end Gus
end
section
namespace Gus
open Go Go.RowKit Go.Proofs Go.Sort
theorem flatK_toList (d:Array Ent):(flatK ecs 6 d).toList=d.toList.flatMap ecs:=by
 apply List.ext_getElem?
 intro t
 by_cases ht:t<d.size*6
 ·have h1:t / 6<d.toList.length:=by simp;omega
  have h2:t % 6<6:=Nat.mod_lt _ (by decide)
  have e:6*(t / 6)+t % 6=t:=Nat.div_add_mod t 6
  have h3:=flat_at d.toList (t / 6) (t % 6) h1 h2
  rw[e] at h3
  rw[h3]
  have hs:t<(flatK ecs 6 d).size:=by rw[size_flatK];exact ht
  have h4:=get_flatK ecs 6 d t ht
  rw[getElem!_pos (flatK ecs 6 d) t hs] at h4
  rw[Array.getElem?_toList,Array.getElem?_eq_getElem hs,h4]
  have e2:d.toList.getD (t / 6) (0,0)=d[t / 6]!:=by
   have h1':t / 6<d.size:=by simpa using h1
   rw[getElem!_pos d (t / 6) h1',List.getD_eq_getElem?_getD,Array.getElem?_toList,Array.getElem?_eq_getElem h1'];rfl
  rw[e2]
  have h6:t % 6<(ecs d[t / 6]!).length:=by rw[ecs_length];exact h2
  rw[getElem!_pos (ecs d[t / 6]!) (t % 6) h6,List.getElem?_eq_getElem h6]
 ·rw[List.getElem?_eq_none (by simp;omega),List.getElem?_eq_none (by rw[flatE_length];simp;omega)]
section
variable {w:World} {lo g cap:Nat} {ti:Bool} {v:Value} {es:List Ent}
theorem RowIs.holds (h:RowIs w lo ti v es) (hv:v=.slice (some ⟨g,0,none⟩) es.length cap):HoldsK ecs 6 w g 0 es.toArray:=by
 rcases h with ⟨rfl,_⟩|⟨g',cap',cur,rfl,h0,hg,h1,h2,h3,h6,h4⟩
 ·cases hv
 ·cases hv
  intro j hj
  rw[size_flatK] at hj
  have hj':j<es.length*6:=by simpa using hj
  refine⟨?_,frozen_of_row w g _ _ _ hg⟩
  have e:=flatK_toList es.toArray
  have hs:j<(flatK ecs 6 es.toArray).size:=by rw[size_flatK];exact hj
  rw[cell_of_row w g _ _ _ _ hg,Nat.zero_add,←Array.getElem?_toList]
  have:(cur.toList.take (es.length*6))[j]?=(flatK ecs 6 es.toArray).toList[j]?:=by rw[h4,e]
  rw[List.getElem?_take,if_pos hj'] at this
  rw[this,Array.getElem?_toList,Array.getElem?_eq_getElem hs,getElem!_pos (flatK ecs 6 es.toArray) j hs];rfl
theorem sortWorld_heap (w:World) (g m:Nat) (d:Array Ent) (os:Array Obj) {cur:Array Value} {T:TypeId} (hg:w.heap[g]?=some (.cells cur T (0,0))) :
  (sortWorldK ecs 6 w g 0 m d os).heap[g]?=some (.cells (putCells id 0 (flatK ecs 6 d) cur) T (0,0)):=by
 have hlt:=(Array.getElem?_eq_some_iff.1 hg).1
 unfold sortWorldK grow putRowK putRow mapBlock Sort.ahead
 simp only
 rw[Array.getElem?_append_left (by simpa using hlt),Array.getElem?_modify,if_pos rfl,hg];rfl
theorem sortWorld_grown (w:World) (g m:Nat) (d:Array Ent) (os:Array Obj):w.grownBy (sortWorldK ecs 6 w g 0 m d os) (some g):=by
 unfold sortWorldK grow putRowK putRow mapBlock Sort.ahead
 refine⟨rfl,rfl,rfl,by simp,fun k hk hne=>?_⟩
 simp only
 rw[Array.getElem?_append_left (by simpa using hk),Array.getElem?_modify,if_neg (fun e=>hne (by rw[e]))]
theorem RowIs.sorted (h:RowIs w lo ti v es) (hv:v=.slice (some ⟨g,0,none⟩) es.length cap) (m:Nat) (d:Array Ent) (os:Array Obj) (hd:d.size=es.length):RowIs (sortWorldK ecs 6 w g 0 m d os) lo ti v d.toList:=by
 rcases h with ⟨rfl,_⟩|⟨g',cap',cur,rfl,h0,hg,h1,h2,h3,h6,h4⟩
 ·cases hv
 ·cases hv
  refine .inr ⟨g,cap,putCells id 0 (flatK ecs 6 d) cur,by simp[hd],h0,sortWorld_heap w g m d os hg,by simp[hd];exact h1,h2,by simp[putCells];exact h3,fun ht=>by simp[putCells];exact h6 ht, ?_⟩
  rw[←flatK_toList]
  apply List.ext_getElem?
  intro t
  have hl:d.toList.length=es.length:=by simp[hd]
  rw[hl,List.getElem?_take]
  by_cases ht:t<es.length*6
  ·have hs:t<(flatK ecs 6 d).size:=by rw[size_flatK,hd];exact ht
   rw[if_pos ht,Array.getElem?_toList,Array.getElem?_toList]
   unfold putCells
   rw[Array.getElem?_mapIdx,Array.getElem?_eq_getElem (show t<cur.size by omega),Array.getElem?_eq_getElem hs]
   simp only[Option.map_some,Nat.zero_le,Nat.zero_add,true_and,Nat.sub_zero,id]
   rw[if_pos hs,getElem!_pos (flatK ecs 6 d) t hs]
  ·rw[if_neg ht,List.getElem?_eq_none (by rw[Array.length_toList,size_flatK,hd];omega)]
end
theorem permIn_all {d d':Array Ent} (h:PermIn 0 d.size d d'):d'.size=d.size∧d'.toList.Perm d.toList:=by
 obtain⟨h1,_,h3⟩:=h
 refine⟨h1, ?_⟩
 have e:d'.extract 0 d.size=d':=by rw[←h1];simp
 rw[e,Array.extract_eq_self_of_le (Nat.le_refl _)] at h3
 exact h3
theorem sortedIn_all {lt:Ent→Ent→Bool} {d:Array Ent} (hlt:∀ x y,lt x y=decide (x.1<y.1)) (h:SortedIn lt 0 d.size d):d.toList.Pairwise fun a b=>¬ b.1<a.1:=by
 rw[List.pairwise_iff_getElem]
 intro i j hi hj hij
 have hi':i<d.size:=by simpa using hi
 have hj':j<d.size:=by simpa using hj
 have:=h i j (Nat.zero_le _) hij hj'
 rw[getElem!_pos d i hi',getElem!_pos d j hj',hlt] at this
 simpa using this
end Gus
end
