/- Proved here: parts of the proof: KFlow KFlowB KTcf. Conditions: those that each theorem states. -/
import Derived.Test.YthblojaeoiemmaaGreatDoorKNatMQ
section
namespace Gus
open Go Go.RowKit
section
theorem act_put_put (a:Act) (d:Option Tmp) (x y:Value):(a.put d x).put d y=a.put d y:=by
 cases d with
 | none=>rfl
 | some t=>simp[Act.put]
theorem act_put_comm (a:Act) {d e:Option Tmp} (x y:Value) (h:∀ t,d=some t→e≠some t):(a.put d x).put e y=(a.put e y).put d x:=by
 cases d with
 | none=>rfl
 | some t=>
  cases e with
  | none=>rfl
  | some s=>
   have hne:t≠s:=fun he=>h t rfl (by rw[he])
   simp only[Act.put]
   rw[Array.setIfInBounds_comm _ _ hne]
theorem act_put_self (a:Act) (d:Option Tmp):∃ v,a.put d v=a:=by
 cases d with
 | none=>exact⟨undef,rfl⟩
 | some t=>
  refine⟨a.tmps.getD t undef, ?_⟩
  cases a with
  | mk tmps defers=>
   simp only[Act.put,Act.mk.injEq,and_true]
   apply Array.ext
   ·simp
   ·intro i h1 h2
    rw[Array.getElem_setIfInBounds (by simpa using h1)]
    split
    ·rename_i h;subst h
     rw[Array.getD_eq_getD_getElem?,Array.getElem?_eq_getElem h2];rfl
    ·rfl
def putAll (u:Nat→Value):Nat→List Oper→Act→Act
 | _,[],a=>a
 | i,o :: os,a=>putAll u (i+1) os (a.put o.dst (u i))
def upd (u:Nat→Value) (i:Nat) (v:Value):Nat→Value:=fun j=>if j=i then v else u j
theorem putAll_congr {u u':Nat→Value}:∀ (os:List Oper) (k:Nat) (a:Act),(∀ i,k≤i→u i=u' i)→putAll u k os a=putAll u' k os a
 | [],_,_,_=>rfl
 | o :: os,k,a,h=>by
  unfold putAll
  rw[h k (Nat.le_refl _),putAll_congr os (k+1) _ (fun i hi=>h i (by omega))]
def noDst (d:Option Tmp) (os:List Oper):Bool:=os.all fun o=>match d,o.dst with | some t,some s=>t != s | _,_=>true
def nodupD:List Oper→Bool
 | []=>true
 | o :: os=>noDst o.dst os && nodupD os
theorem putAll_put {u:Nat→Value} {d:Option Tmp} {v:Value}:∀ (os:List Oper) (k:Nat) (a:Act),noDst d os=true→(putAll u k os a).put d v=putAll u k os (a.put d v)
 | [],_,_,_=>rfl
 | o :: os,k,a,h=>by
  unfold noDst at h
  rw[List.all_cons,Bool.and_eq_true] at h
  unfold putAll
  rw[putAll_put os (k+1) _ h.2]
  congr 1
  refine act_put_comm a _ _ ?_
  intro t ht hd
  have h1:=h.1
  rw[ht,hd] at h1
  simp at h1
theorem putAll_upd {u:Nat→Value} {v:Value}:∀ (os:List Oper) (k j:Nat) (a:Act) (o:Oper),nodupD os=true→os[j]?=some o→putAll (upd u (k+j) v) k os a=(putAll u k os a).put o.dst v
 | [],_,_,_,_,_,h=>by simp at h
 | o' :: os,k,0,a,o,hn,h=>by
  obtain rfl:o'=o:=by simpa using h
  unfold nodupD at hn
  rw[Bool.and_eq_true] at hn
  unfold putAll
  rw[putAll_put os (k+1) _ hn.1,act_put_put,show upd u (k+0) v k=v by simp[upd]]
  exact putAll_congr os (k+1) _ (fun i hi=>by unfold upd;rw[if_neg (by omega)])
 | o' :: os,k,j+1,a,o,hn,h=>by
  unfold nodupD at hn
  rw[Bool.and_eq_true] at hn
  unfold putAll
  rw[show upd u (k+(j+1)) v k=u k by unfold upd;rw[if_neg (by omega)],show k+(j+1)=(k+1)+j by omega]
  exact putAll_upd os (k+1) j _ o hn.2 (by simpa using h)
theorem putAll_start:∀ (os:List Oper) (k:Nat) (a:Act),∃ u,putAll u k os a=a
 | [],_,_=>⟨fun _=>undef,rfl⟩
 | o :: os,k,a=>by
  obtain⟨u,hu⟩:=putAll_start os (k+1) a
  obtain⟨v,hv⟩:=act_put_self a o.dst
  refine⟨upd u k v, ?_⟩
  unfold putAll
  rw[show upd u k v k=v by simp[upd],hv,putAll_congr os (k+1) a (u':=u) (fun i hi=>by unfold upd;rw[if_neg (by omega)]),hu]
end
def St (w w':World):Prop:=Below w.heap.size w w'
theorem St.refl (w:World):St w w:=Below.refl _ _
theorem St.trans {a b c:World} (h:St a b) (k:St b c):St a c:=Below.trans h (Below.mono k h.size)
section
variable {P:Program} {ops:Array Oper} {w0:World}
def okUpon (P:Program) (V:Value→World→Prop) (w:World):Result Next→Prop
 | .ok (.value v) w'=>V v w'∧St w w'
 | .ok .skip w'=>V undef w'∧St w w'
 | .ok (.enter f args) w'=>Calls P f args w' fun e w''=>∃ v,e=.returned v∧V v w''∧St w w''
 | _=>False
def okOp (P:Program) (ops:Array Oper) (o:Oper) (a:Act) (w:World) (V:Value→World→Prop):Prop:=
 if Region.wanted o (yielded ops a.tmps)=true then okUpon P V w ((execOp a.eval o).run P w) else V undef w
theorem wpOp_of_ok {Q:Exit→Act→World→Prop} {i:Nat} {o:Oper} {a:Act} {w:World} {V:Value→World→Prop} {K:Act→World→Prop} (hi:ops[i]?=some o) (h:okOp P ops o a w V)
  (hK:∀ v w',V v w'→St w w'→K (a.put o.dst v) w'):wpOp P ops Q i K a w:=by
 unfold wpOp
 simp only[hi]
 unfold okOp at h
 split
 ·rename_i hw
  rw[if_pos hw] at h
  refine .inl ?_
  unfold Oper.wp
  generalize (execOp a.eval o).run P w=r at *
  cases r with
  | ok n w'=>
   cases n <;> simp only[okUpon] at h <;> simp only[Oper.upon]
   case value v=>exact hK v w' h.1 h.2
   case skip=>exact hK undef w' h.1 h.2
   case enter f args=>exact h.mono fun e w'' ⟨v,he,hv,hs⟩=>by subst he;exact hK v w'' hv hs
  | halt x w'=>simp only[okUpon] at h
 ·rename_i hw
  rw[if_neg hw] at h
  exact hK undef w h (St.refl w)
def depH (V:Nat→(Nat→Value)→Value→World→Prop) (u:Nat→Value) (w:World):List Edge→Prop
 | []=>True
 | e :: es=>(match e.ground with | .textOnly _=>True | .gcOnly _=>True | _=>V e.on u (u e.on) w)∧depH V u w es
theorem depH_of {V:Nat→(Nat→Value)→Value→World→Prop} {u:Nat→Value} {w:World}:∀ (es:List Edge),(∀ e∈es,Region.binds .any e=true→V e.on u (u e.on) w)→depH V u w es
 | [],_=>trivial
 | e :: es,h=>by
  refine⟨?_,depH_of es (fun e' he'=>h e' (List.mem_cons_of_mem _ he'))⟩
  have:=h e List.mem_cons_self
  unfold Region.binds at this
  cases hg:e.ground <;> simp only[hg] at this <;> first | trivial | exact this trivial | exact this rfl
def allH (V:Nat→(Nat→Value)→Value→World→Prop) (u:Nat→Value) (w:World):Nat→Prop
 | 0=>True
 | n+1=>allH V u w n∧V n u (u n) w
theorem allH_of {V:Nat→(Nat→Value)→Value→World→Prop} {u:Nat→Value} {w:World}:∀ (n:Nat),(∀ i,i<n→V i u (u i) w)→allH V u w n
 | 0,_=>trivial
 | n+1,h=>⟨allH_of n (fun i hi=>h i (by omega)),h n (by omega)⟩
def extU (V:Nat→(Nat→Value)→Value→World→Prop) (i:Nat) (Vi:(Nat→Value)→Value→World→Prop):Nat→(Nat→Value)→Value→World→Prop:=fun j u=>if j=i then Vi u else V j u
def ext (V:Nat→(Nat→Value)→Value→World→Prop) (i:Nat) (Vi:Value→World→Prop):Nat→(Nat→Value)→Value→World→Prop:=fun j u=>if j=i then Vi else V j u
def LocalU (o:Oper) (Vi:(Nat→Value)→Value→World→Prop):Prop:=∀ u u' x w,(∀ e∈o.after.toList,Region.binds .any e=true→u e.on=u' e.on)→Vi u x w→Vi u' x w
theorem local_const (o:Oper) (Vi:Value→World→Prop):LocalU o fun _=>Vi:=fun _ _ _ _ _ h=>h
def Stable (V:Value→World→Prop):Prop:=∀ v w w',V v w→St w w'→V v w'
def fl (o:Oper):Bool:=o.guard.isNone && (match o.op with | .extract _ _=>true | .move _=>true | _=>false)
def blk:Value→Option Nat
 | .pointer (some a)=>some a.block
 | .slice (some a) _ _=>some a.block
 | .map (some r)=>some r
 | _=>none
def Fresh (φ:Bool) (V:Value→World→Prop) (w:World) (v:Value) (w':World):Prop:=V v w'∧(φ=true→∀ b,blk v=some b→w.heap.size≤b)
def Placed (φ:Bool) (V:Value→World→Prop):Prop:=φ=true→∀ x w,V x w→∀ b,blk x=some b→b<w.heap.size
def extB (Φ:Nat→Bool) (i:Nat) (φ:Bool):Nat→Bool:=fun j=>if j=i then φ else Φ j
def dist (Φ:Nat→Bool) (u:Nat→Value) (n:Nat):Prop:=∀ i j,i<n→j<n→i≠j→Φ i=true→Φ j=true→∀ b,blk (u i)=some b→blk (u j)≠some b
def flow (P:Program) (ops:Array Oper) (w0:World) (A:(Nat→Value)→Act) (T:Act→World→Prop):Nat→List Oper→(Nat→(Nat→Value)→Value→World→Prop)→(Nat→Bool)→Prop
 | i,[],V,Φ=>∀ u w,St w0 w→allH V u w i→dist Φ u i→T (A u) w
 | i,o :: os,V,Φ=>∃ Vi φ,(∀ u,Stable (Vi u))∧(∀ u,Placed φ (Vi u))∧LocalU o Vi∧(∀ u w,St w0 w→depH V u w o.after.toList→okOp P ops o (A u) w (Fresh φ (Vi u) w)) ∧
  (fl o=true→φ=false∧∀ u w,St w0 w→depH V u w o.after.toList→∃ v,(∀ w2,(execOp (A u).eval o).run P w2=.ok (.value v) w2)∧∀ w2,Vi u v w2)∧flow P ops w0 A T (i+1) os (extU V i Vi) (extB Φ i φ)
theorem flow_spec {A:(Nat→Value)→Act} {T:Act→World→Prop}:∀ (os:List Oper) (i:Nat) (V:Nat→(Nat→Value)→Value→World→Prop) (Φ:Nat→Bool),flow P ops w0 A T i os V Φ→∃ (V':Nat→(Nat→Value)→Value→World→Prop) (Φ':Nat→Bool),(∀ j,j<i→V' j=V j)∧(∀ j,j<i→Φ' j=Φ j)∧(∀ j,i≤j→j<i+os.length→(∀ u,Stable (V' j u))∧(∀ u,Placed (Φ' j) (V' j u))) ∧
  (∀ j o,os[j]?=some o→LocalU o (V' (i+j))∧((∀ e∈o.after.toList,Region.binds .any e=true→e.on<i+j)→∀ u w,St w0 w→(∀ e∈o.after.toList,Region.binds .any e=true→V' e.on u (u e.on) w)→okOp P ops o (A u) w (Fresh (Φ' (i+j)) (V' (i+j) u) w) ∧
   (fl o=true→Φ' (i+j)=false∧∃ v,(∀ w2,(execOp (A u).eval o).run P w2=.ok (.value v) w2)∧∀ w2,V' (i+j) u v w2))) ∧
  (∀ u w,St w0 w→allH V' u w (i+os.length)→dist Φ' u (i+os.length)→T (A u) w)
 | [],i,V,Φ,h=>⟨V,Φ,fun _ _=>rfl,fun _ _=>rfl,fun j h1 h2=>by simp at h2;omega,fun j o hj=>by simp at hj,h⟩
 | o :: os,i,V,Φ,h=>by
  obtain⟨Vi,φ,hst,hpl,hlo,hop,hfl,hk⟩:=h
  obtain⟨V',Φ',h1,h1',h2,h3,h4⟩:=flow_spec os (i+1) _ _ hk
  have hVi:V' i=Vi:=by rw[h1 i (by omega)];unfold extU;funext u;rw[if_pos rfl]
  have hΦi:Φ' i=φ:=by rw[h1' i (by omega)];unfold extB;rw[if_pos rfl]
  have hVj:∀ j,j<i→V' j=V j:=fun j hj=>by rw[h1 j (by omega)];unfold extU;funext u;rw[if_neg (by omega)]
  have hΦj:∀ j,j<i→Φ' j=Φ j:=fun j hj=>by rw[h1' j (by omega)];unfold extB;rw[if_neg (by omega)]
  have hl:i+1+os.length=i+(o :: os).length:=by rw[List.length_cons];omega
  refine⟨V',Φ',hVj,hΦj,fun j hj1 hj2=>?_,fun j o' hj=>?_,fun u w hw ha hdi=>h4 u w hw (by rw[hl];exact ha) (by rw[hl];exact hdi)⟩
  ·by_cases hji:j=i
   ·rw[hji,hVi,hΦi];exact⟨hst,hpl⟩
   ·exact h2 j (by omega) (by rw[List.length_cons] at hj2;omega)
  ·cases j with
   | zero=>
    obtain rfl:o=o':=by simpa using hj
    rw[Nat.add_zero,hVi,hΦi]
    refine⟨hlo,fun hon u w hw hd=>?_⟩
    have hdep:depH V u w o.after.toList:=depH_of _ fun e he hb=>by
     have:=hd e he hb
     rwa [hVj _ (hon e he hb)] at this
    exact⟨hop u w hw hdep,fun hf=>⟨(hfl hf).1,(hfl hf).2 u w hw hdep⟩⟩
   | succ j=>
    have h5:=h3 j o' (by simpa using hj)
    rw[show i+1+j=i+(j+1) by omega] at h5
    exact h5
def cnt (listed:Array Bool):Nat→Nat
 | 0=>0
 | k+1=>cnt listed k+(if listed.getD k true=true then 0 else 1)
theorem cnt_set {listed:Array Bool} {i:Nat} (hi:listed.getD i true=false) (his:i<listed.size):∀ k,cnt (listed.setIfInBounds i true) k+(if i<k then 1 else 0)=cnt listed k
 | 0=>by simp[cnt]
 | k+1=>by
  have ih:=cnt_set hi his k
  unfold cnt
  by_cases hk:i=k
  ·subst hk
   have e1:(listed.setIfInBounds i true).getD i true=true:=by simp[his]
   have h1:(if i<i+1 then 1 else 0)=1:=if_pos (by omega)
   have h2:(if i<i then 1 else 0)=0:=if_neg (by omega)
   rw[h2] at ih
   rw[h1,e1,hi]
   simp only[if_true,Bool.false_eq_true,if_false]
   omega
  ·rw[getD_set_ne true hk]
   by_cases hlt:i<k
   ·have h1:(if i<k+1 then 1 else 0)=1:=if_pos (by omega)
    have h2:(if i<k then 1 else 0)=1:=if_pos hlt
    rw[h2] at ih;rw[h1];omega
   ·have h1:(if i<k+1 then 1 else 0)=0:=if_neg (by omega)
    have h2:(if i<k then 1 else 0)=0:=if_neg hlt
    rw[h2] at ih;rw[h1];omega
theorem cnt_zero {listed:Array Bool}:∀ k,cnt listed k=0→∀ i,i<k→listed.getD i true=true
 | 0,_,i,hi=>by omega
 | k+1,h,i,hi=>by
  unfold cnt at h
  have h1:cnt listed k=0:=by omega
  by_cases hk:i=k
  ·subst hk
   refine Decidable.by_contra fun hn=>?_
   rw[if_neg hn] at h;omega
  ·exact cnt_zero k h1 i (by omega)
theorem cnt_pos {listed:Array Bool}:∀ k,0<cnt listed k→∃ i,i<k∧listed.getD i true=false∧∀ j,j<i→listed.getD j true=true
 | 0,h=>by simp[cnt] at h
 | k+1,h=>by
  by_cases hk:0<cnt listed k
  ·obtain⟨i,h1,h2,h3⟩:=cnt_pos k hk
   exact⟨i,by omega,h2,h3⟩
  ·have h0:cnt listed k=0:=by omega
   unfold cnt at h
   refine⟨k,by omega, ?_,fun j hj=>cnt_zero k h0 j hj⟩
   cases hv:listed.getD k true with
   | false=>rfl
   | true=>rw[hv,if_pos rfl] at h;omega
def backB (ops:Array Oper) (n:Nat):Bool:=(List.range n).all fun i=>match ops[i]? with | some o=>o.after.toList.all fun e=>!Region.binds .any e || decide (e.on<i)| none=>true
def firstN (n m:Nat):Array Bool:=((List.range m).map fun i=>decide (i<n)).toArray
def isF (ops:Array Oper) (i:Nat):Bool:=
 match ops[i]? with
 | some oi=>fl oi && (List.range ops.size).all fun j=>j == i || Region.waitsFor .any ops j i || Region.waitsFor .any ops i j ||(match ops[j]? with | some oj=>oi.apart ops oj | none=>true)
 | none=>false
def sinkF (ops:Array Oper) (n:Nat):Bool:=(List.range n).all fun i=>isF ops i ||(List.range (n+1)).any fun j=>decide (i<j) && Region.waitsFor .any ops j i && (j == n || !isF ops j)
def flowB (ops:Array Oper) (n:Nat):Bool:=
 decide (n<ops.size) && sinkF ops n && Region.chainB .any ops n && backB ops n && nodupD (ops.toList.take n) && Region.seqB .any ops (ops.size - n) n (firstN n ops.size) && Region.noSelect ops
theorem tail_waitsF {n:Nat} {listed:Array Bool} (hs:sinkF ops n=true) (hc:Region.chainB .any ops n=true) (hn:n<ops.size) (inv:HeadInv .any ops n listed) :
  ∀ (d i:Nat),n - i=d→i<n→isF ops i=false→listed.getD i true=false→∀ t,n≤t→t ∉ Region.ready .any ops listed:=by
 intro d
 induction d using Nat.strongRecOn with
 | _ d ih=>
  intro i hd hi hF hun t ht hr
  obtain⟨_,ot,hot,hall⟩:=mem_ready.1 hr
  have htlt:t<ops.size:=(Array.getElem?_eq_some_iff.1 hot).1
  by_cases htn:t=n
  ·subst htn
   have h1:=List.all_eq_true.1 hs i (List.mem_range.2 hi)
   rw[hF,Bool.false_or] at h1
   obtain⟨j,hj,hj2⟩:=List.any_eq_true.1 h1
   simp only[Bool.and_eq_true,decide_eq_true_eq,Bool.or_eq_true,beq_iff_eq,Bool.not_eq_true'] at hj2
   obtain⟨⟨hij,hwf⟩,hjF⟩:=hj2
   obtain⟨oj,hoj,e,he,hb,hon⟩:=Region.waitsFor_spec hwf
   have hjle:j≤t:=by have:=List.mem_range.1 hj;omega
   by_cases hjt:j=t
   ·subst hjt
    have:oj=ot:=Option.some.inj (hoj.symm.trans hot)
    subst this
    have h2:=hall e he hb
    rw[hon,getD_both hun] at h2;cases h2
   ·have hjF':isF ops j=false:=by
     rcases hjF with h | h
     ·exact absurd h hjt
     ·exact h
    have hjun:listed.getD j true=false:=by
     cases hl:listed.getD j true with
     | false=>rfl
     | true=>
      have hjs:j<listed.size:=by rw[inv.size];omega
      have hl':listed.getD j false=true:=by simp[hjs] at hl ⊢;exact hl
      have h2:=inv.closed j oj hoj hl' e he hb
      rw[hon,getD_both hun] at h2;cases h2
    exact ih (t - j) (by omega) j rfl (by omega) hjF' hjun t (Nat.le_refl _) hr
  ·have h1:=List.all_eq_true.1 hc t (List.mem_range.2 htlt)
   simp only[Bool.or_eq_true,decide_eq_true_eq] at h1
   rcases h1 with h1 | h1
   ·omega
   ·obtain⟨oj,hoj,e,he,hb,hon⟩:=Region.waitsFor_spec h1
    have:oj=ot:=Option.some.inj (hoj.symm.trans hot)
    subst this
    have h2:=hall e he hb
    rw[hon,getD_both (inv.tail (t - 1) (by omega) (by omega))] at h2;cases h2
theorem wpAny_of_flow {n:Nat} {Q:Exit→Act→World→Prop} {A:(Nat→Value)→Act} {a0:Act} {V:Nat→(Nat→Value)→Value→World→Prop} {Φ:Nat→Bool} (hB:flowB ops n=true) (hA:∀ u,A u=putAll u 0 (ops.toList.take n) a0)
  (hQ:∀ c a d v w,Q (.panic c) (Act.put a d v) w→Q (.panic c) a w)
  (hst:∀ j,j<n→(∀ u,Stable (V j u))∧(∀ u,Placed (Φ j) (V j u))) (hlo:∀ j o,j<n→ops[j]?=some o→LocalU o (V j)) (hop:∀ j o,j<n→ops[j]?=some o→∀ u w,St w0 w→(∀ e∈o.after.toList,Region.binds .any e=true→V e.on u (u e.on) w)→okOp P ops o (A u) w (Fresh (Φ j) (V j u) w) ∧
   (fl o=true→Φ j=false∧∃ v,(∀ w2,(execOp (A u).eval o).run P w2=.ok (.value v) w2)∧∀ w2,V j u v w2))
  (hT:∀ u w,St w0 w→(∀ j,j<n→V j u (u j) w)→dist Φ u n→wpList P ops Q (ops.toList.drop n) (A u) w) :
  ∀ (c:Nat) (listed:Array Bool) (u:Nat→Value) (w:World),HeadInv .any ops n listed→cnt listed n=c→St w0 w→(∀ j,j<n→listed.getD j true=true→V j u (u j) w) →
   (∀ i j,i<n→j<n→i≠j→listed.getD i true=true→listed.getD j true=true→Φ i=true→Φ j=true→∀ b,blk (u i)=some b→blk (u j)≠some b)→wpAny P .any ops Q (c+(ops.size - n)) listed (A u) w:=by
 simp only[flowB,Bool.and_eq_true,decide_eq_true_eq] at hB
 obtain⟨⟨⟨⟨⟨⟨hn,hs⟩,hc⟩,hb⟩,hnd⟩,hseq⟩,hsel⟩:=hB
 have hback:∀ i o e,i<n→ops[i]?=some o→e∈o.after.toList→Region.binds .any e=true→e.on<i:=fun i o e hi ho he hbd=>by
  have h1:=List.all_eq_true.1 hb i (List.mem_range.2 hi)
  rw[ho] at h1
  have h2:=List.all_eq_true.1 h1 e he
  rw[hbd] at h2
  simpa using h2
 intro c
 induction c with
 | zero=>
  intro listed u w inv hcn hw hv hdi
  have hall:=cnt_zero n hcn
  have hl:listed=firstN n ops.size:=by
   apply Array.ext
   ·simp[firstN,inv.size]
   ·intro i h1 h2
    simp only[firstN,List.getElem_toArray,List.getElem_map,List.getElem_range]
    by_cases hi:i<n
    ·have:=hall i hi
     rw[Array.getD_eq_getD_getElem?,Array.getElem?_eq_getElem h1] at this
     simpa[hi] using this
    ·have:=getD_both (inv.tail i (by omega) (by rw[inv.size] at h1;exact h1))
     rw[Array.getD_eq_getD_getElem?,Array.getElem?_eq_getElem h1] at this
     simpa[hi] using this
  subst hl
  rw[Nat.zero_add]
  have hdl:(ops.toList.drop n).length=ops.size - n:=by simp
  have:=wpAny_of_seq (P:=P) (Q':=Q) (ops.toList.drop n) n (firstN n ops.size) (A u) w (fun j=>by simp[List.getElem?_drop]) (by rw[hdl];exact hseq) (hT u w hw (fun j hj=>hv j hj (hall j hj)) (fun i j hi hj hne=>hdi i j hi hj hne (hall i hi) (hall j hj)))
  rwa [hdl] at this
 | succ c ih=>
  intro listed u w inv hcn hw hv hdi
  rw[show c+1+(ops.size - n)=(c+(ops.size - n))+1 by omega]
  obtain⟨i0,hi0,hun0,hmin⟩:=cnt_pos n (by omega:0<cnt listed n)
  have hls:∀ j,j<n→listed.getD j true=true→listed.getD j false=true:=fun j hj h=>by
   have hjs:j<listed.size:=by rw[inv.size];omega
   simp[hjs] at h ⊢;exact h
  have hlt:∀ j,j<n→listed.getD j false=true→listed.getD j true=true:=fun j hj h=>by
   have hjs:j<listed.size:=by rw[inv.size];omega
   simp[hjs] at h ⊢;exact h
  have hi0s:i0<ops.size:=by omega
  have ho0:ops[i0]?=some ops[i0]:=by simp[hi0s]
  have hr0:i0∈Region.ready .any ops listed:=
   mem_ready.2 ⟨hun0,ops[i0],ho0,fun e he hbd=>by
    have h3:=hback i0 _ e hi0 ho0 (by simpa using he) hbd
    exact hls _ (by omega) (hmin _ h3)⟩
  have key:∀ i o v w',i<n→ops[i]?=some o→i∈Region.ready .any ops listed→Fresh (Φ i) (V i u) w v w'→St w w'→wpAny P .any ops Q (c+(ops.size - n)) (listed.setIfInBounds i true) ((A u).put o.dst v) w':=fun i o v w' hin ho hi hV hs'=>by
   obtain⟨hiun,_,_,_⟩:=mem_ready.1 hi
   have hAu:(A u).put o.dst v=A (upd u i v):=by
    rw[hA,hA]
    have:=putAll_upd (u:=u) (v:=v) (ops.toList.take n) 0 i a0 o hnd (by rw[List.getElem?_take,if_pos hin];simpa using ho)
    rw[Nat.zero_add] at this
    exact this.symm
   rw[hAu]
   have his:i<listed.size:=by rw[inv.size];omega
   have hagree:∀ j oj,j<n→ops[j]?=some oj→(j=i∨listed.getD j true=true)→∀ e∈oj.after.toList,Region.binds .any e=true→u e.on=upd u i v e.on:=fun j oj hj hoj hjl e he hbd=>by
    have hlt':=hback j oj e hj hoj he hbd
    have hne:e.on≠i:=fun h=>by
     rcases hjl with rfl | hjl
     ·omega
     ·have h2:=inv.closed j oj hoj (hls j hj hjl) e (by simpa using he) hbd
      rw[h,getD_both hiun] at h2;cases h2
    unfold upd
    rw[if_neg hne]
   refine ih _ _ _ (inv.set hi hin) ?_ (hw.trans hs') (fun j hj hl=>?_) (fun i1 j1 hi1 hj1 hne hl1 hl2 hf1 hf2 b hb1=>?_)
   ·have:=cnt_set hiun his n
    rw[if_pos hin] at this;omega
   ·have hjs:j<ops.size:=by omega
    have hoj:ops[j]?=some ops[j]:=by simp[hjs]
    by_cases hji:j=i
    ·subst hji
     refine hlo j _ hj hoj u _ _ _ (hagree j _ hj hoj (.inl rfl)) ?_
     unfold upd
     rw[if_pos rfl];exact hV.1
    ·rw[getD_set_ne true (fun h=>hji h.symm)] at hl
     refine hlo j _ hj hoj u _ _ _ (hagree j _ hj hoj (.inr hl)) ?_
     unfold upd
     rw[if_neg hji]
     exact(hst j hj).1 u _ _ _ (hv j hj hl) hs'
   ·unfold upd at hb1 ⊢
    by_cases h1:i1=i
    ·have h2:¬ j1=i:=fun h=>hne (h1.trans h.symm)
     rw[if_pos h1] at hb1
     rw[if_neg h2]
     intro hb2
     rw[getD_set_ne true (fun h=>h2 h.symm)] at hl2
     have h3:=(hst j1 hj1).2 u hf2 _ _ (hv j1 hj1 hl2) b hb2
     have h4:=hV.2 (by rw[←h1];exact hf1) b hb1
     omega
    ·rw[if_neg h1] at hb1
     rw[getD_set_ne true (fun h=>h1 h.symm)] at hl1
     by_cases h2:j1=i
     ·rw[if_pos h2]
      intro hb2
      have h3:=(hst i1 hi1).2 u hf1 _ _ (hv i1 hi1 hl1) b hb1
      have h4:=hV.2 (by rw[←h2];exact hf2) b hb2
      omega
     ·rw[if_neg h2]
      rw[getD_set_ne true (fun h=>h2 h.symm)] at hl2
      exact hdi i1 j1 hi1 hj1 hne hl1 hl2 hf1 hf2 b hb1
  have hdep:∀ i o,i<n→ops[i]?=some o→i∈Region.ready .any ops listed→∀ e∈o.after.toList,Region.binds .any e=true→V e.on u (u e.on) w:=fun i o hin ho hi e he hbd=>by
   obtain⟨_,o',ho',hall⟩:=mem_ready.1 hi
   have:o'=o:=Option.some.inj (ho'.symm.trans ho)
   subst this
   have h3:=hback i _ e hin ho he hbd
   exact hv _ (by omega) (hlt _ (by omega) (hall e (by simpa using he) hbd))
  cases hF:isF ops i0 with
  | true=>
   unfold isF at hF
   rw[ho0] at hF
   simp only[Bool.and_eq_true] at hF
   obtain⟨hfl,hap⟩:=hF
   obtain⟨hΦ0,v,hv1,hv2⟩:=(hop i0 _ hi0 ho0 u w hw (hdep i0 _ hi0 ho0 hr0)).2 hfl
   have hg:(ops[i0]).guard=none:=by
    unfold fl at hfl
    rw[Bool.and_eq_true] at hfl
    exact Option.isNone_iff_eq_none.1 hfl.1
   refine wpAny_first (oi:=ops[i0]) (v:=v) ho0 (Region.noSelect_spec hsel) (fun c a w h=>hQ c a _ v w h) _ listed _ w (fun j oj hj hne hun hno=>?_) hr0 (.inl ⟨by unfold Region.wanted;rw[hg],hv1⟩) (key i0 _ v w hi0 ho0 hr0 ⟨hv2 w,fun h=>absurd h (by rw[hΦ0];exact Bool.false_ne_true)⟩ (St.refl w))
   have hjs:j<ops.size:=(Array.getElem?_eq_some_iff.1 hj).1
   have h1:=List.all_eq_true.1 hap j (List.mem_range.2 hjs)
   rw[hj] at h1
   simp only[Bool.or_eq_true,beq_iff_eq] at h1
   rcases h1 with ((h1 | h1)| h1)| h1
   ·exact absurd h1 hne
   ·obtain⟨oj',hoj',e,he,hbd,hon⟩:=Region.waitsFor_spec h1
    have:oj'=oj:=Option.some.inj (hoj'.symm.trans hj)
    subst this
    exact absurd hon (hno e he hbd)
   ·obtain⟨o',ho',e,he,hbd,hon⟩:=Region.waitsFor_spec h1
    obtain⟨_,o'',ho'',hall⟩:=mem_ready.1 hr0
    have:o'=o'':=Option.some.inj (ho'.symm.trans ho'')
    subst this
    have h2:=hall e he hbd
    rw[hon,getD_both hun] at h2;cases h2
   ·exact h1
  | false=>
   refine⟨(fun h0=>by rw[h0] at hr0;cases hr0),fun i hi=>?_⟩
   have hin:i<n:=by
    rcases Nat.lt_or_ge i n with h | h
    ·exact h
    ·exact absurd hi (tail_waitsF hs hc hn inv _ i0 rfl hi0 hF hun0 i h)
   obtain⟨_,o,ho,_⟩:=mem_ready.1 hi
   exact wpOp_of_ok ho (hop i o hin ho u w hw (hdep i o hin ho hi)).1 fun v w' hV hs'=>key i o v w' hin ho hi hV hs'
theorem wp_region_flow {id:Nat} {Q:Exit→Act→World→Prop} {a0:Act} {l:List Oper} (n:Nat) (hm:P.follows .mixedOrders=true) (hB:flowB l.toArray n=true) (hQ:∀ c a d v w,Q (.panic c) (Act.put a d v) w→Q (.panic c) a w)
  (h:flow P l.toArray w0 (fun u=>putAll u 0 (l.take n) a0) (fun a w=>wpList P l.toArray Q (l.drop n) a w) 0 (l.take n) (fun _ _ _ _=>True) (fun _=>false)):(Code.region id l.toArray true).wp P Q a0 w0:=by
 obtain⟨V,Φ,_,_,h2,h3,h4⟩:=flow_spec _ _ _ _ h
 have hB':=hB
 simp only[flowB,Bool.and_eq_true,decide_eq_true_eq] at hB'
 obtain⟨⟨⟨⟨⟨⟨hn,hs⟩,hc⟩,hb⟩,hnd⟩,hseq⟩,hsel⟩:=hB'
 have hn':n<l.length:=by simpa using hn
 have htl:(l.take n).length=n:=by simp;omega
 rw[htl,Nat.zero_add] at h2 h4
 refine wp_region_any hm ?_
 obtain⟨u,hu⟩:=putAll_start (l.take n) 0 a0
 have key:=wpAny_of_flow (P:=P) (ops:=l.toArray) (w0:=w0) (n:=n) (Q:=Q) (A:=fun u=>putAll u 0 (l.take n) a0) (a0:=a0) (V:=V) (Φ:=Φ) hB (fun u=>rfl) hQ (fun j hj=>h2 j (Nat.zero_le _) hj)
  (fun j o hj ho=>by
   have h5:=(h3 j o (by rw[List.getElem?_take,if_pos hj];simpa using ho)).1
   rwa [Nat.zero_add] at h5)
  (fun j o hj ho u w hw hd=>by
   have h5:=(h3 j o (by rw[List.getElem?_take,if_pos hj];simpa using ho)).2 (fun e he hbd=>by
    have h1:=List.all_eq_true.1 hb j (List.mem_range.2 hj)
    rw[ho] at h1
    have h2:=List.all_eq_true.1 h1 e he
    rw[hbd] at h2
    simpa using h2) u w hw hd
   rwa [Nat.zero_add] at h5)
  (fun u w hw ha hdi=>h4 u w hw (allH_of n ha) hdi) (cnt (Array.replicate l.toArray.size false) n) (Array.replicate l.toArray.size false) u { w0 with drawn:=w0.drawn+1 }
  ⟨by simp,fun j oj _ hl=>(by rw[getD_replicate_false] at hl;cases hl),fun t _ ht=>getD_in (by simpa using ht) (getD_replicate_false _ _)⟩ rfl ((Below.refl _ _).drew)
  (fun j hj hl=>by
   have hjs:j<(Array.replicate l.toArray.size false).size:=by rw[Array.size_replicate];omega
   rw[getD_in hjs (getD_replicate_false _ _)] at hl;cases hl)
  (fun i j hi hj hne hl1=>by
   have hjs:i<(Array.replicate l.toArray.size false).size:=by rw[Array.size_replicate];omega
   rw[getD_in hjs (getD_replicate_false _ _)] at hl1;cases hl1)
 have hcn:cnt (Array.replicate l.toArray.size false) n=n:=by
  have:∀ k,k≤l.toArray.size→cnt (Array.replicate l.toArray.size false) k=k:=by
   intro k
   induction k with
   | zero=>intro _;rfl
   | succ k ih=>
    intro hk
    unfold cnt
    rw[ih (by omega),getD_in (by rw[Array.size_replicate];omega) (getD_replicate_false _ _)];rfl
  exact this n (by omega)
 rw[hcn] at key
 rw[show n+(l.toArray.size - n)=l.toArray.size by omega] at key
 simp only[hu] at key
 exact key
end
end Gus
end
section
namespace Gus
open Go Go.RowKit
section
variable {P:Program} {ops:Array Oper} {w0:World} {A:(Nat→Value)→Act} {T:Act→World→Prop} {i:Nat} {o:Oper} {os:List Oper} {V:Nat→(Nat→Value)→Value→World→Prop}
theorem okUpon_of_quiet {w:World} {v:Value} {r:Result Next} (h:Oper.quietUpon P (St w) w v r):okUpon P (fun x _=>x=v) w r:=by
 cases r with
 | ok n w'=>
  cases n <;> simp only[Oper.quietUpon] at h <;> simp only[okUpon]
  case value u=>obtain⟨rfl,rfl⟩:=h;exact⟨rfl,St.refl _⟩
  case skip=>obtain⟨rfl,rfl⟩:=h;exact⟨rfl,St.refl _⟩
  case enter f args=>
   obtain⟨rfl,hc⟩:=h
   exact hc.mono fun e w'' ⟨he,hs⟩=>⟨v,he,rfl,hs⟩
 | halt x w'=>simp only[Oper.quietUpon] at h
theorem stable_eq (v:Value):Stable (fun x _=>x=v):=fun _ _ _ h _=>h
theorem okFresh {w:World} {v:Value} {r:Result Next} (h:okUpon P (fun x _=>x=v) w r):okUpon P (Fresh false (fun x _=>x=v) w) w r:=by
 cases r with
 | ok n w'=>
  cases n <;> simp only[okUpon] at h ⊢
  case value u=>exact⟨⟨h.1,fun h=>by cases h⟩,h.2⟩
  case skip=>exact⟨⟨h.1,fun h=>by cases h⟩,h.2⟩
  case enter f args=>exact h.mono fun e w'' ⟨v,he,hv,hs⟩=>⟨v,he,⟨hv,fun h=>by cases h⟩,hs⟩
 | halt x w'=>simp only[okUpon] at h
theorem placed_false (V:Value→World→Prop):Placed false V:=fun h=>by cases h
variable {Φ:Nat→Bool}
theorem flow_pure0 {v:Value} (hg:o.guard=none) (hf:fl o=false) (h:∀ u w,St w0 w→depH V u w o.after.toList→o.quietAt P (A u) (St w) w v)
  (k:flow P ops w0 A T (i+1) os (ext V i fun x _=>x=v) (extB Φ i false)):flow P ops w0 A T i (o :: os) V Φ:=
 ⟨fun _=>_,false,fun _=>stable_eq v,fun _=>placed_false _,local_const _ _,fun u w hw hd=>by
  unfold okOp
  rw[if_pos (by unfold Region.wanted;rw[hg])]
  exact okFresh (okUpon_of_quiet (h u w hw hd)),fun h0=>absurd h0 (by rw[hf];exact Bool.false_ne_true),k⟩
theorem flow_float {v:Value} (hg:o.guard=none) (h:∀ u w,St w0 w→depH V u w o.after.toList→∀ w2,(execOp (A u).eval o).run P w2=.ok (.value v) w2)
  (k:flow P ops w0 A T (i+1) os (ext V i fun x _=>x=v) (extB Φ i false)):flow P ops w0 A T i (o :: os) V Φ:=
 ⟨fun _=>_,false,fun _=>stable_eq v,fun _=>placed_false _,local_const _ _,fun u w hw hd=>by
  unfold okOp
  rw[if_pos (by unfold Region.wanted;rw[hg]),h u w hw hd w]
  exact⟨⟨rfl,fun h=>by cases h⟩,St.refl _⟩,fun _=>⟨rfl,fun u w hw hd=>⟨v,h u w hw hd,fun _=>rfl⟩⟩,k⟩
theorem flow_pureg {v:Value} {j:Nat} {b:Bool} (hg:o.guard=some (j,b)) (hy:∀ u w,St w0 w→depH V u w o.after.toList→yielded ops (A u).tmps j=some b) (h:∀ u w,St w0 w→depH V u w o.after.toList→o.quietAt P (A u) (St w) w v)
  (k:flow P ops w0 A T (i+1) os (ext V i fun x _=>x=v) (extB Φ i false)):flow P ops w0 A T i (o :: os) V Φ:=
 ⟨fun _=>_,false,fun _=>stable_eq v,fun _=>placed_false _,local_const _ _,fun u w hw hd=>by
  unfold okOp
  rw[if_pos (by unfold Region.wanted;rw[hg];simp[hy u w hw hd])]
  exact okFresh (okUpon_of_quiet (h u w hw hd)),fun h0=>absurd h0 (by unfold fl;rw[hg];simp),k⟩
theorem flow_skipg {j:Nat} {b:Bool} (hg:o.guard=some (j,b)) (hy:∀ u w,St w0 w→depH V u w o.after.toList→yielded ops (A u).tmps j=some (!b))
  (k:flow P ops w0 A T (i+1) os (ext V i fun x _=>x=undef) (extB Φ i false)):flow P ops w0 A T i (o :: os) V Φ:=
 ⟨fun _=>_,false,fun _=>stable_eq undef,fun _=>placed_false _,local_const _ _,fun u w hw hd=>by
  unfold okOp
  rw[if_neg (by unfold Region.wanted;rw[hg];cases b <;> simp[hy u w hw hd])]
  exact⟨rfl,fun h=>by cases h⟩,fun h0=>absurd h0 (by unfold fl;rw[hg];simp),k⟩
def NewB (N:Nat) (T:TypeId) (zs:List Value) (x:Value) (w:World):Prop:=∃ b,x=.pointer (some ⟨b,0,none⟩)∧N≤b∧Bx w b T zs
theorem stable_new (N:Nat) (T:TypeId) (zs:List Value):Stable (NewB N T zs):=fun _ _ _ ⟨b,h1,h2,h3⟩ hs=>⟨b,h1,h2,h3.call hs⟩
theorem placed_new (φ:Bool) (N:Nat) (T:TypeId) (zs:List Value):Placed φ (NewB N T zs):=fun _ x w ⟨b,h1,h2,h3⟩ c hc=>by
 subst h1;cases hc;exact h3.lt
theorem flow_alloc {t:TypeId} {zs:Array Value} (hg:o.guard=none) (hf:fl o=false) (h:∀ u w,(execOp (A u).eval o).run P w=.ok (.value (.pointer (some ⟨w.heap.size,0,none⟩))) (w.alloc (.cells zs t)))
  (k:flow P ops w0 A T (i+1) os (ext V i (NewB w0.heap.size t zs.toList)) (extB Φ i true)):flow P ops w0 A T i (o :: os) V Φ:=
 ⟨fun _=>_,true,fun _=>stable_new _ _ _,fun _=>placed_new _ _ _ _,local_const _ _,fun u w hw hd=>by
  unfold okOp
  rw[if_pos (by unfold Region.wanted;rw[hg]),h u w]
  exact⟨⟨⟨w.heap.size,rfl,hw.size,Bx.new _ _ _⟩,fun _ b hb=>by cases hb;exact Nat.le_refl _⟩,(Below.refl _ _).alloc (Nat.le_refl _) _⟩,fun h0=>absurd h0 (by rw[hf];exact Bool.false_ne_true),k⟩
theorem flow_rel {Vi:Value→World→Prop} (φ:Bool) (hg:o.guard=none) (hf:fl o=false) (hs:Stable Vi) (hp:Placed φ Vi) (h:∀ u w,St w0 w→depH V u w o.after.toList→okUpon P (Fresh φ Vi w) w ((execOp (A u).eval o).run P w))
  (k:flow P ops w0 A T (i+1) os (ext V i Vi) (extB Φ i φ)):flow P ops w0 A T i (o :: os) V Φ:=
 ⟨fun _=>_,φ,fun _=>hs,fun _=>hp,local_const _ _,fun u w hw hd=>by
  unfold okOp
  rw[if_pos (by unfold Region.wanted;rw[hg])]
  exact h u w hw hd,fun h0=>absurd h0 (by rw[hf];exact Bool.false_ne_true),k⟩
theorem flow_link {R:Value→Value→Prop} {k:Nat} (hg:o.guard=none) (hk:o.after.toList.any (fun e=>Region.binds .any e && e.on == k)=true) (h:∀ u w,St w0 w→depH V u w o.after.toList→∃ v,(∀ w2,(execOp (A u).eval o).run P w2=.ok (.value v) w2)∧R (u k) v)
  (c:flow P ops w0 A T (i+1) os (extU V i fun u x _=>R (u k) x) (extB Φ i false)):flow P ops w0 A T i (o :: os) V Φ:=
 ⟨fun u x _=>R (u k) x,false,fun _ _ _ _ h _=>h,fun _=>placed_false _,fun u u' x w hu hR=>by
  obtain⟨e,he,h2⟩:=List.any_eq_true.1 hk
  rw[Bool.and_eq_true,beq_iff_eq] at h2
  have:=hu e he h2.1
  rw[h2.2] at this
  show R (u' k) x
  rw[←this];exact hR,fun u w hw hd=>by
  obtain⟨v,h1,h2⟩:=h u w hw hd
  unfold okOp
  rw[if_pos (by unfold Region.wanted;rw[hg]),h1 w]
  exact⟨⟨h2,fun h=>by cases h⟩,St.refl _⟩,fun _=>⟨rfl,fun u w hw hd=>by
   obtain⟨v,h1,h2⟩:=h u w hw hd
   exact⟨v,h1,fun _=>h2⟩⟩,c⟩
theorem St.cell {w w':World} (h:St w w'):∀ b o,b<w.heap.size→w'.cell? ⟨b,o,none⟩=w.cell? ⟨b,o,none⟩:=fun b o hb=>Below.cell h (p:=⟨b,o,none⟩) hb
theorem St.frozen {w w':World} (h:St w w'):∀ b o,b<w.heap.size→w'.frozen? ⟨b,o,none⟩=w.frozen? ⟨b,o,none⟩:=fun b o hb=>Below.frozen h (p:=⟨b,o,none⟩) hb
theorem St.ins {w w':World} (h:St w w'):In w.heap.size w w':=⟨h,h.size⟩
end
def TupSp (x:Value):Prop:=∃ n m a l k e,x=.tuple #[.agg #[.int .i64 n,.int .i64 m,.slice a l k],.int .i64 e]
def MvR (y x:Value):Prop:=x=y∧TupSp x
def FstR (y x:Value):Prop:=∃ n m a l k e,y=.tuple #[.agg #[.int .i64 n,.int .i64 m,.slice a l k],.int .i64 e]∧x=.agg #[.int .i64 n,.int .i64 m,.slice a l k]
def SndR (y x:Value):Prop:=∃ n m a l k e,y=.tuple #[.agg #[.int .i64 n,.int .i64 m,.slice a l k],.int .i64 e]∧x=.int .i64 e
def TupR (Q:Value→Int→World→Prop) (x:Value) (w:World):Prop:=TupSp x∧∃ d e,x=.tuple #[d,.int .i64 e]∧Q d e w
theorem stable_tup {Q:Value→Int→World→Prop} (h:∀ d e w w',Q d e w→St w w'→Q d e w'):Stable (TupR Q):=fun _ _ _ ⟨h1,d,e,h2,h3⟩ hs=>⟨h1,d,e,h2,h _ _ _ _ h3 hs⟩
theorem tup_out {Q:Value→Int→World→Prop} {w:World} {x y z t:Value} (h3:TupR Q x w) (h4:MvR x y) (h5:FstR y z) (h6:SndR y t) :
  ∃ n m a l k e,x=.tuple #[.agg #[.int .i64 n,.int .i64 m,.slice a l k],.int .i64 e]∧y=.tuple #[.agg #[.int .i64 n,.int .i64 m,.slice a l k],.int .i64 e]∧z=.agg #[.int .i64 n,.int .i64 m,.slice a l k]∧t=.int .i64 e∧Q (.agg #[.int .i64 n,.int .i64 m,.slice a l k]) e w:=by
 obtain⟨_,d,e,rfl,hq⟩:=h3
 obtain⟨rfl,_⟩:=h4
 obtain⟨n,m,a,l,k,e1,h7,rfl⟩:=h5
 obtain⟨n2,m2,a2,l2,k2,e2,h8,rfl⟩:=h6
 simp only[Value.tuple.injEq] at h7 h8
 have h9:=congrArg Array.toList h7
 have h10:=congrArg Array.toList h8
 simp only[List.cons.injEq,and_true,Value.int.injEq,true_and] at h9 h10
 obtain⟨rfl,rfl⟩:=h9
 obtain⟨_,rfl⟩:=h10
 exact⟨n,m,a,l,k,_,rfl,rfl,rfl,rfl,hq⟩
end Gus
end
section
namespace Gus
open Go Go.RowKit Go.Proofs
variable {P:Program} {w0:World}
theorem tfw {id:Nat} {Q:Exit→Act→World→Prop} {a0:Act} {l:List Oper} (n:Nat)
  (h:flow P l.toArray w0 (fun u=>putAll u 0 (l.take n) a0) (fun a w=>wpList P l.toArray Q (l.drop n) a w) 0 (l.take n) (fun _ _ _ _=>True) (fun _=>false)) (hm:P.follows .mixedOrders=true:=by kernel_rfl) (hB:flowB l.toArray n=true:=by kernel_rfl) (hQ:∀ c a d v w,Q (.panic c) (Act.put a d v) w→Q (.panic c) a w:=by intro _ _ d _ _ h;cases d <;> exact h):(Code.region id l.toArray true).wp P Q a0 w0:=wp_region_flow n hm hB hQ h
theorem tset {P Q:Prop} (k:Q) (p:Keep Q→P:=by intro kk;simp only[List.take_succ_cons,List.take_zero,List.drop_succ_cons,List.drop_zero];simp only[putAll,Act.put,List.setIfInBounds_toArray,List.set];(try simp only[Nat.reduceAdd]);(try simp only[Nat.zero_add]);exact kk.out):P:=p ⟨k⟩
theorem thn {P Q:Prop} (k:P) (p:P→Q:=by intro hd;(try simp only[depH] at hd);(try simp only[extU] at hd);(try simp only[ext] at hd);(try simp only[extU] at hd);(try simp only[Nat.reduceAdd] at hd);(try simp only[Nat.reduceEqDiff] at hd);(try simp only[reduceIte] at hd);(try simp only[ext] at hd);(try simp only[Nat.reduceAdd] at hd);(try simp only[Nat.reduceEqDiff] at hd);(try simp only[reduceIte] at hd);(try simp only[and_true] at hd);(try simp only[true_and] at hd);(first | exact hd | exact True.intro)):Q:=p k
theorem tah {P Q:Prop} (k:P) (p:P→Q:=by intro ha;(try dsimp only at ha);(repeat rw[World.size_alloc] at ha);(try simp only[allH] at ha);(try simp only[ext] at ha);(try simp only[extU] at ha);(try simp only[Nat.reduceAdd] at ha);(try simp only[Nat.reduceEqDiff] at ha);(try simp only[reduceIte] at ha);(try simp only[and_true] at ha);(try simp only[true_and] at ha);(first | exact ha | exact True.intro)):Q:=p k
theorem tfl {P:Prop} (p:P:=by intro u w1 hw hd w2;replace hd:=thn hd;go_simp;exact rfl):P:=p
theorem tpu {P:Prop} (p:P:=by intro u w1 hw hd;replace hd:=thn hd;have hc':=hw.cell;go_simp;exact rfl):P:=p
theorem tal {P:Prop} (p:P:=by intro u w1;go_simp;exact rfl):P:=p
theorem tfs {P Q:Prop} (k:Q) (p:Keep Q→P:=by
  intro kk
  first
  |((with_reducible refine flow_float (v:=?_) ?_ ?_ ?_);rotate_left 1;exact trr;exact tfl)
  |((first |((with_reducible refine flow_pure0 (v:=?_) ?_ ?_ ?_ ?_);rotate_left 1;exact trr;exact trf)|((with_reducible refine flow_pureg (v:=?_) (j:=?_) (b:=?_) ?_ ?_ ?_ ?_);rotate_left 3;exact trr;(focus (intro u w1 hw hd;replace hd:=thn hd;simp[yielded,hd];done))));exact tpu)
  |((with_reducible refine flow_skipg (j:=?_) (b:=?_) ?_ ?_ ?_);rotate_left 2;exact trr;(focus (intro u w1 hw hd;replace hd:=thn hd;simp[yielded,hd];done)))
  |((with_reducible refine flow_alloc (t:=?_) (zs:=?_) ?_ ?_ ?_ ?_);rotate_left 2;exact trr;exact trf;exact tal)
  exact kk.out):P:=p ⟨k⟩
end Gus
end
