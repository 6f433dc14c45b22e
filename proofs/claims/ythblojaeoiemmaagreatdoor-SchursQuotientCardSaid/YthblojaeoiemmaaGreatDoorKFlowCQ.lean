/- Proved here: parts of the proof: KFlowC KUat KArgU KEla KElb. Conditions: those that each theorem states. -/
import Derived.ChangeSlices
import Derived.Test.YthblojaeoiemmaaGreatDoorKFcmQ
section
namespace Gus
open Go Go.RowKit
section
variable {P:Program} {ops:Array Oper} {w0:World}
def isE (ops:Array Oper) (i:Nat):Bool:=(match ops[i]? with | some o=>(match o.op with | .extract _ _=>true | _=>false)| none=>false) && isF ops i
def sinkE (ops:Array Oper) (n:Nat):Bool:=(List.range n).all fun i=>isE ops i ||(List.range (n+1)).any fun j=>decide (i<j) && Region.waitsFor .any ops j i && (j == n || !isE ops j)
def flowEB (ops:Array Oper) (n:Nat):Bool:=
 decide (n<ops.size) && sinkE ops n && Region.chainB .any ops n && backB ops n && nodupD (ops.toList.take n) && Region.seqB .any ops (ops.size - n) n (firstN n ops.size) && Region.noSelect ops
theorem tail_waitsE {n:Nat} {listed:Array Bool} (hs:sinkE ops n=true) (hc:Region.chainB .any ops n=true) (hn:n<ops.size) (inv:HeadInv .any ops n listed) :
  ∀ (d i:Nat),n - i=d→i<n→isE ops i=false→listed.getD i true=false→∀ t,n≤t→t ∉ Region.ready .any ops listed:=by
 intro d
 induction d using Nat.strongRecOn with
 | _ d ih=>
  intro i hd hi hF hun t ht hr
  obtain⟨_,ot,hot,hall⟩:=mem_ready.1 hr
  have htlt:t<ops.size:=(Array.getElem?_eq_some_iff.1 hot).1
  by_cases htn:t=n
  ·subst htn
   have h1:=List.all_eq_true.1 hs i (List.mem_range.2 hi)
   rw[hF,Bool.false_or] at h1
   obtain⟨j,hj,hj2⟩:=List.any_eq_true.1 h1
   simp only[Bool.and_eq_true,decide_eq_true_eq,Bool.or_eq_true,beq_iff_eq,Bool.not_eq_true'] at hj2
   obtain⟨⟨hij,hwf⟩,hjF⟩:=hj2
   obtain⟨oj,hoj,e,he,hb,hon⟩:=Region.waitsFor_spec hwf
   have hjle:j≤t:=by have:=List.mem_range.1 hj;omega
   by_cases hjt:j=t
   ·subst hjt
    have:oj=ot:=Option.some.inj (hoj.symm.trans hot)
    subst this
    have h2:=hall e he hb
    rw[hon,getD_both hun] at h2;cases h2
   ·have hjF':isE ops j=false:=by
     rcases hjF with h | h
     ·exact absurd h hjt
     ·exact h
    have hjun:listed.getD j true=false:=by
     cases hl:listed.getD j true with
     | false=>rfl
     | true=>
      have hjs:j<listed.size:=by rw[inv.size];omega
      have hl':listed.getD j false=true:=by simp[hjs] at hl ⊢;exact hl
      have h2:=inv.closed j oj hoj hl' e he hb
      rw[hon,getD_both hun] at h2;cases h2
    exact ih (t - j) (by omega) j rfl (by omega) hjF' hjun t (Nat.le_refl _) hr
  ·have h1:=List.all_eq_true.1 hc t (List.mem_range.2 htlt)
   simp only[Bool.or_eq_true,decide_eq_true_eq] at h1
   rcases h1 with h1 | h1
   ·omega
   ·obtain⟨oj,hoj,e,he,hb,hon⟩:=Region.waitsFor_spec h1
    have:oj=ot:=Option.some.inj (hoj.symm.trans hot)
    subst this
    have h2:=hall e he hb
    rw[hon,getD_both (inv.tail (t - 1) (by omega) (by omega))] at h2;cases h2
theorem wpAny_of_flowE {n:Nat} {Q:Exit→Act→World→Prop} {A:(Nat→Value)→Act} {a0:Act} {V:Nat→(Nat→Value)→Value→World→Prop} {Φ:Nat→Bool} (hB:flowEB ops n=true) (hA:∀ u,A u=putAll u 0 (ops.toList.take n) a0)
  (hQ:∀ c a d v w,Q (.panic c) (Act.put a d v) w→Q (.panic c) a w)
  (hst:∀ j,j<n→(∀ u,Stable (V j u))∧(∀ u,Placed (Φ j) (V j u))) (hlo:∀ j o,j<n→ops[j]?=some o→LocalU o (V j)) (hop:∀ j o,j<n→ops[j]?=some o→∀ u w,St w0 w→(∀ e∈o.after.toList,Region.binds .any e=true→V e.on u (u e.on) w)→okOp P ops o (A u) w (Fresh (Φ j) (V j u) w) ∧
   (fl o=true→Φ j=false∧∃ v,(∀ w2,(execOp (A u).eval o).run P w2=.ok (.value v) w2)∧∀ w2,V j u v w2))
  (hT:∀ u w,St w0 w→(∀ j,j<n→V j u (u j) w)→dist Φ u n→wpList P ops Q (ops.toList.drop n) (A u) w) :
  ∀ (c:Nat) (listed:Array Bool) (u:Nat→Value) (w:World),HeadInv .any ops n listed→cnt listed n=c→St w0 w→(∀ j,j<n→listed.getD j true=true→V j u (u j) w) →
   (∀ i j,i<n→j<n→i≠j→listed.getD i true=true→listed.getD j true=true→Φ i=true→Φ j=true→∀ b,blk (u i)=some b→blk (u j)≠some b)→wpAny P .any ops Q (c+(ops.size - n)) listed (A u) w:=by
 simp only[flowEB,Bool.and_eq_true,decide_eq_true_eq] at hB
 obtain⟨⟨⟨⟨⟨⟨hn,hs⟩,hc⟩,hb⟩,hnd⟩,hseq⟩,hsel⟩:=hB
 have hback:∀ i o e,i<n→ops[i]?=some o→e∈o.after.toList→Region.binds .any e=true→e.on<i:=fun i o e hi ho he hbd=>by
  have h1:=List.all_eq_true.1 hb i (List.mem_range.2 hi)
  rw[ho] at h1
  have h2:=List.all_eq_true.1 h1 e he
  rw[hbd] at h2
  simpa using h2
 intro c
 induction c with
 | zero=>
  intro listed u w inv hcn hw hv hdi
  have hall:=cnt_zero n hcn
  have hl:listed=firstN n ops.size:=by
   apply Array.ext
   ·simp[firstN,inv.size]
   ·intro i h1 h2
    simp only[firstN,List.getElem_toArray,List.getElem_map,List.getElem_range]
    by_cases hi:i<n
    ·have:=hall i hi
     rw[Array.getD_eq_getD_getElem?,Array.getElem?_eq_getElem h1] at this
     simpa[hi] using this
    ·have:=getD_both (inv.tail i (by omega) (by rw[inv.size] at h1;exact h1))
     rw[Array.getD_eq_getD_getElem?,Array.getElem?_eq_getElem h1] at this
     simpa[hi] using this
  subst hl
  rw[Nat.zero_add]
  have hdl:(ops.toList.drop n).length=ops.size - n:=by simp
  have:=wpAny_of_seq (P:=P) (Q':=Q) (ops.toList.drop n) n (firstN n ops.size) (A u) w (fun j=>by simp[List.getElem?_drop]) (by rw[hdl];exact hseq) (hT u w hw (fun j hj=>hv j hj (hall j hj)) (fun i j hi hj hne=>hdi i j hi hj hne (hall i hi) (hall j hj)))
  rwa [hdl] at this
 | succ c ih=>
  intro listed u w inv hcn hw hv hdi
  rw[show c+1+(ops.size - n)=(c+(ops.size - n))+1 by omega]
  obtain⟨i0,hi0,hun0,hmin⟩:=cnt_pos n (by omega:0<cnt listed n)
  have hls:∀ j,j<n→listed.getD j true=true→listed.getD j false=true:=fun j hj h=>by
   have hjs:j<listed.size:=by rw[inv.size];omega
   simp[hjs] at h ⊢;exact h
  have hlt:∀ j,j<n→listed.getD j false=true→listed.getD j true=true:=fun j hj h=>by
   have hjs:j<listed.size:=by rw[inv.size];omega
   simp[hjs] at h ⊢;exact h
  have hi0s:i0<ops.size:=by omega
  have ho0:ops[i0]?=some ops[i0]:=by simp[hi0s]
  have hr0:i0∈Region.ready .any ops listed:=
   mem_ready.2 ⟨hun0,ops[i0],ho0,fun e he hbd=>by
    have h3:=hback i0 _ e hi0 ho0 (by simpa using he) hbd
    exact hls _ (by omega) (hmin _ h3)⟩
  have key:∀ i o v w',i<n→ops[i]?=some o→i∈Region.ready .any ops listed→Fresh (Φ i) (V i u) w v w'→St w w'→wpAny P .any ops Q (c+(ops.size - n)) (listed.setIfInBounds i true) ((A u).put o.dst v) w':=fun i o v w' hin ho hi hV hs'=>by
   obtain⟨hiun,_,_,_⟩:=mem_ready.1 hi
   have hAu:(A u).put o.dst v=A (upd u i v):=by
    rw[hA,hA]
    have:=putAll_upd (u:=u) (v:=v) (ops.toList.take n) 0 i a0 o hnd (by rw[List.getElem?_take,if_pos hin];simpa using ho)
    rw[Nat.zero_add] at this
    exact this.symm
   rw[hAu]
   have his:i<listed.size:=by rw[inv.size];omega
   have hagree:∀ j oj,j<n→ops[j]?=some oj→(j=i∨listed.getD j true=true)→∀ e∈oj.after.toList,Region.binds .any e=true→u e.on=upd u i v e.on:=fun j oj hj hoj hjl e he hbd=>by
    have hlt':=hback j oj e hj hoj he hbd
    have hne:e.on≠i:=fun h=>by
     rcases hjl with rfl | hjl
     ·omega
     ·have h2:=inv.closed j oj hoj (hls j hj hjl) e (by simpa using he) hbd
      rw[h,getD_both hiun] at h2;cases h2
    unfold upd
    rw[if_neg hne]
   refine ih _ _ _ (inv.set hi hin) ?_ (hw.trans hs') (fun j hj hl=>?_) (fun i1 j1 hi1 hj1 hne hl1 hl2 hf1 hf2 b hb1=>?_)
   ·have:=cnt_set hiun his n
    rw[if_pos hin] at this;omega
   ·have hjs:j<ops.size:=by omega
    have hoj:ops[j]?=some ops[j]:=by simp[hjs]
    by_cases hji:j=i
    ·subst hji
     refine hlo j _ hj hoj u _ _ _ (hagree j _ hj hoj (.inl rfl)) ?_
     unfold upd
     rw[if_pos rfl];exact hV.1
    ·rw[getD_set_ne true (fun h=>hji h.symm)] at hl
     refine hlo j _ hj hoj u _ _ _ (hagree j _ hj hoj (.inr hl)) ?_
     unfold upd
     rw[if_neg hji]
     exact(hst j hj).1 u _ _ _ (hv j hj hl) hs'
   ·unfold upd at hb1 ⊢
    by_cases h1:i1=i
    ·have h2:¬ j1=i:=fun h=>hne (h1.trans h.symm)
     rw[if_pos h1] at hb1
     rw[if_neg h2]
     intro hb2
     rw[getD_set_ne true (fun h=>h2 h.symm)] at hl2
     have h3:=(hst j1 hj1).2 u hf2 _ _ (hv j1 hj1 hl2) b hb2
     have h4:=hV.2 (by rw[←h1];exact hf1) b hb1
     omega
    ·rw[if_neg h1] at hb1
     rw[getD_set_ne true (fun h=>h1 h.symm)] at hl1
     by_cases h2:j1=i
     ·rw[if_pos h2]
      intro hb2
      have h3:=(hst i1 hi1).2 u hf1 _ _ (hv i1 hi1 hl1) b hb1
      have h4:=hV.2 (by rw[←h2];exact hf2) b hb2
      omega
     ·rw[if_neg h2]
      rw[getD_set_ne true (fun h=>h2 h.symm)] at hl2
      exact hdi i1 j1 hi1 hj1 hne hl1 hl2 hf1 hf2 b hb1
  have hdep:∀ i o,i<n→ops[i]?=some o→i∈Region.ready .any ops listed→∀ e∈o.after.toList,Region.binds .any e=true→V e.on u (u e.on) w:=fun i o hin ho hi e he hbd=>by
   obtain⟨_,o',ho',hall⟩:=mem_ready.1 hi
   have:o'=o:=Option.some.inj (ho'.symm.trans ho)
   subst this
   have h3:=hback i _ e hin ho he hbd
   exact hv _ (by omega) (hlt _ (by omega) (hall e (by simpa using he) hbd))
  cases hF:isE ops i0 with
  | true=>
   unfold isE at hF
   rw[Bool.and_eq_true] at hF
   replace hF:=hF.2
   unfold isF at hF
   rw[ho0] at hF
   simp only[Bool.and_eq_true] at hF
   obtain⟨hfl,hap⟩:=hF
   obtain⟨hΦ0,v,hv1,hv2⟩:=(hop i0 _ hi0 ho0 u w hw (hdep i0 _ hi0 ho0 hr0)).2 hfl
   have hg:(ops[i0]).guard=none:=by
    unfold fl at hfl
    rw[Bool.and_eq_true] at hfl
    exact Option.isNone_iff_eq_none.1 hfl.1
   refine wpAny_first (oi:=ops[i0]) (v:=v) ho0 (Region.noSelect_spec hsel) (fun c a w h=>hQ c a _ v w h) _ listed _ w (fun j oj hj hne hun hno=>?_) hr0 (.inl ⟨by unfold Region.wanted;rw[hg],hv1⟩) (key i0 _ v w hi0 ho0 hr0 ⟨hv2 w,fun h=>absurd h (by rw[hΦ0];exact Bool.false_ne_true)⟩ (St.refl w))
   have hjs:j<ops.size:=(Array.getElem?_eq_some_iff.1 hj).1
   have h1:=List.all_eq_true.1 hap j (List.mem_range.2 hjs)
   rw[hj] at h1
   simp only[Bool.or_eq_true,beq_iff_eq] at h1
   rcases h1 with ((h1 | h1)| h1)| h1
   ·exact absurd h1 hne
   ·obtain⟨oj',hoj',e,he,hbd,hon⟩:=Region.waitsFor_spec h1
    have:oj'=oj:=Option.some.inj (hoj'.symm.trans hj)
    subst this
    exact absurd hon (hno e he hbd)
   ·obtain⟨o',ho',e,he,hbd,hon⟩:=Region.waitsFor_spec h1
    obtain⟨_,o'',ho'',hall⟩:=mem_ready.1 hr0
    have:o'=o'':=Option.some.inj (ho'.symm.trans ho'')
    subst this
    have h2:=hall e he hbd
    rw[hon,getD_both hun] at h2;cases h2
   ·exact h1
  | false=>
   refine⟨(fun h0=>by rw[h0] at hr0;cases hr0),fun i hi=>?_⟩
   have hin:i<n:=by
    rcases Nat.lt_or_ge i n with h | h
    ·exact h
    ·exact absurd hi (tail_waitsE hs hc hn inv _ i0 rfl hi0 hF hun0 i h)
   obtain⟨_,o,ho,_⟩:=mem_ready.1 hi
   exact wpOp_of_ok ho (hop i o hin ho u w hw (hdep i o hin ho hi)).1 fun v w' hV hs'=>key i o v w' hin ho hi hV hs'
theorem wp_region_flowE {id:Nat} {Q:Exit→Act→World→Prop} {a0:Act} {l:List Oper} (n:Nat) (hm:P.follows .mixedOrders=true) (hB:flowEB l.toArray n=true) (hQ:∀ c a d v w,Q (.panic c) (Act.put a d v) w→Q (.panic c) a w)
  (h:flow P l.toArray w0 (fun u=>putAll u 0 (l.take n) a0) (fun a w=>wpList P l.toArray Q (l.drop n) a w) 0 (l.take n) (fun _ _ _ _=>True) (fun _=>false)):(Code.region id l.toArray true).wp P Q a0 w0:=by
 obtain⟨V,Φ,_,_,h2,h3,h4⟩:=flow_spec _ _ _ _ h
 have hB':=hB
 simp only[flowEB,Bool.and_eq_true,decide_eq_true_eq] at hB'
 obtain⟨⟨⟨⟨⟨⟨hn,hs⟩,hc⟩,hb⟩,hnd⟩,hseq⟩,hsel⟩:=hB'
 have hn':n<l.length:=by simpa using hn
 have htl:(l.take n).length=n:=by simp;omega
 rw[htl,Nat.zero_add] at h2 h4
 refine wp_region_any hm ?_
 obtain⟨u,hu⟩:=putAll_start (l.take n) 0 a0
 have key:=wpAny_of_flowE (P:=P) (ops:=l.toArray) (w0:=w0) (n:=n) (Q:=Q) (A:=fun u=>putAll u 0 (l.take n) a0) (a0:=a0) (V:=V) (Φ:=Φ) hB (fun u=>rfl) hQ (fun j hj=>h2 j (Nat.zero_le _) hj)
  (fun j o hj ho=>by
   have h5:=(h3 j o (by rw[List.getElem?_take,if_pos hj];simpa using ho)).1
   rwa [Nat.zero_add] at h5)
  (fun j o hj ho u w hw hd=>by
   have h5:=(h3 j o (by rw[List.getElem?_take,if_pos hj];simpa using ho)).2 (fun e he hbd=>by
    have h1:=List.all_eq_true.1 hb j (List.mem_range.2 hj)
    rw[ho] at h1
    have h2:=List.all_eq_true.1 h1 e he
    rw[hbd] at h2
    simpa using h2) u w hw hd
   rwa [Nat.zero_add] at h5)
  (fun u w hw ha hdi=>h4 u w hw (allH_of n ha) hdi) (cnt (Array.replicate l.toArray.size false) n) (Array.replicate l.toArray.size false) u { w0 with drawn:=w0.drawn+1 }
  ⟨by simp,fun j oj _ hl=>(by rw[getD_replicate_false] at hl;cases hl),fun t _ ht=>getD_in (by simpa using ht) (getD_replicate_false _ _)⟩ rfl ((Below.refl _ _).drew)
  (fun j hj hl=>by
   have hjs:j<(Array.replicate l.toArray.size false).size:=by rw[Array.size_replicate];omega
   rw[getD_in hjs (getD_replicate_false _ _)] at hl;cases hl)
  (fun i j hi hj hne hl1=>by
   have hjs:i<(Array.replicate l.toArray.size false).size:=by rw[Array.size_replicate];omega
   rw[getD_in hjs (getD_replicate_false _ _)] at hl1;cases hl1)
 have hcn:cnt (Array.replicate l.toArray.size false) n=n:=by
  have:∀ k,k≤l.toArray.size→cnt (Array.replicate l.toArray.size false) k=k:=by
   intro k
   induction k with
   | zero=>intro _;rfl
   | succ k ih=>
    intro hk
    unfold cnt
    rw[ih (by omega),getD_in (by rw[Array.size_replicate];omega) (getD_replicate_false _ _)];rfl
  exact this n (by omega)
 rw[hcn] at key
 rw[show n+(l.toArray.size - n)=l.toArray.size by omega] at key
 simp only[hu] at key
 exact key
end
end Gus
end
section
namespace Gus
open Go Go.RowKit Go.Proofs
def U8At (w:World) (a:Option Addr) (d:List Nat):Prop:=∀ i,i<d.length→∃ b off,a=some ⟨b,off,none⟩∧b<w.heap.size∧w.cell? ⟨b,off+i,none⟩=some (.int .u8 ((d.getD i 0:Nat):Int))
theorem U8At.call {w w':World} {a:Option Addr} {d:List Nat} (h:U8At w a d) (hb:Below w.heap.size w w'):U8At w' a d:=fun i hi=>by
 obtain⟨b,off,h1,h2,h3⟩:=h i hi
 exact⟨b,off,h1,Nat.lt_of_lt_of_le h2 hb.size,by rw[hb.cell (p:=⟨b,off+i,none⟩) h2];exact h3⟩
end Gus
end
section
namespace Gus
open Go Go.RowKit Go.Proofs Go.ChangeShapes Go.WideShapes Go.ChangeAt Go.Deep
section
variable {H:Type} {enc:TypeId×Value→H} {W:World} {base:Nat} {sp:Nat→Bool} {held:Bool}
set_option maxRecDepth 100000 in
theorem open_us {b0:Nat} {v:Value} {d:DataW H} {ps:List MemPlace} (hval:Value.okWide Tryz.prog W .any b0 52 v) (hd:DataW.Trod enc Tryz.prog W base sp held 52 v d ps) :
  ∃ a xs cap,v=.slice a (List.length xs) cap∧U8At W a xs∧(∀ i,xs.getD i 0<256)∧xs.length≤maxLen:=by
 obtain⟨a,len,cap,rfl⟩:=okWide_slice Tryz.underlying52 hval
 obtain⟨fuel,hf⟩:=hd
 rcases open_ints Tryz.underlying52 Tryz.underlying5 (by kernel_rfl) hf with ⟨e,_⟩|⟨a',len',cap',zs,e,_,hlc,hcm,hzl,_,hc,hw⟩
 ·simp[Value.cells] at e
  obtain⟨rfl,rfl,rfl⟩:=e
  exact⟨none,[],0,rfl,fun i hi=>absurd hi (Nat.not_lt_zero _),fun i=>by simp,Nat.zero_le _⟩
 ·simp[Value.cells] at e
  obtain⟨rfl,rfl,rfl⟩:=e
  have hle:len≤zs.length:=by rw[hzl];split <;> omega
  have htl:(zs.take len).length=len:=by rw[List.length_take];omega
  have hg:∀ i,i<len→((((zs.take len).map Int.toNat).getD i 0:Nat):Int)=zs.getD i 0∧0≤zs.getD i 0∧zs.getD i 0<256:=fun i hi=>by
   have hz:zs.getD i 0=zs[i]'(by omega):=by rw[List.getD_eq_getElem?_getD,List.getElem?_eq_getElem (by omega)];rfl
   have hb:=bounds_u8 (hw (zs[i]'(by omega)) (List.getElem_mem _))
   have h1:((zs.take len).map Int.toNat).getD i 0=(zs[i]'(by omega)).toNat:=by
    rw[List.getD_eq_getElem?_getD,List.getElem?_map,List.getElem?_take,if_pos hi,List.getElem?_eq_getElem (by omega)];rfl
   rw[h1,hz]
   omega
  refine⟨some a',(zs.take len).map Int.toNat,cap,by rw[List.length_map,htl],fun i hi=>?_,fun i=>?_,by rw[List.length_map,htl];omega⟩
  ·rw[List.length_map,htl] at hi
   obtain⟨b,off,spot⟩:=a'
   obtain rfl:spot=none:=by
    have hs:=World.cell?_spot (hc 0 (by omega))
    simpa[Addr.add] using hs
   have h1:=hc i (by omega)
   rw[add_plain] at h1
   refine⟨b,off,rfl,cell_in h1, ?_⟩
   rw[h1,(hg i hi).1]
  ·by_cases hi:i<len
   ·have:=hg i hi;omega
   ·rw[List.getD_eq_getElem?_getD,List.getElem?_eq_none (by rw[List.length_map,htl];omega)];decide
end
end Gus
end
section
namespace Gus
open Go Go.RowKit Go.Proofs
theorem Bx.ne_type {w:World} {b b':Nat} {T T':TypeId} {cs cs':List Value} (h:Bx w b T cs) (h':Bx w b' T' cs') (hT:T≠T'):¬ b=b':=by
 rintro rfl
 have h6:w.heap[b]?=some (Obj.cells cs.toArray T (0,0)):=h
 have h7:w.heap[b]?=some (Obj.cells cs'.toArray T' (0,0)):=h'
 rw[h6] at h7
 injection h7 with h7
 injection h7 with _ h8
 exact hT h8
theorem Gro.bel {w W:World} (hb:Below w.heap.size w W) (r:Option Nat):w.grownBy W r:=⟨hb.os,hb.tape,hb.output,hb.size,fun k hk _=>hb.block k hk⟩
theorem VBx.eltc {w:World} {g m k:Nat} {F:Nat→Rat} {A1 A4:Int} {A2 A5:ByteArray} {A3:Bool} (h:VBx w g (vl m F)) (hk:k<m) (hq:fcs (F k)=[.int .u64 A1,.string A2,.bool A3,.int .u64 A4,.string A5]) :
  w.cell? ⟨g,k*5,none⟩=some (.int .u64 A1)∧w.cell? ⟨g,k*5+1,none⟩=some (.string A2)∧w.cell? ⟨g,k*5+2,none⟩=some (.bool A3)∧w.cell? ⟨g,k*5+3,none⟩=some (.int .u64 A4)∧w.cell? ⟨g,k*5+4,none⟩=some (.string A5):=by
 have hc:=fun j hj=>(h.cell (k*5+j)).trans (fcl_at (vl m F) k j (by rw[vl_length];exact hk) hj)
 rw[vl_getD F hk,hq] at hc
 exact⟨hc 0 (by decide),hc 1 (by decide),hc 2 (by decide),hc 3 (by decide),hc 4 (by decide)⟩
set_option maxRecDepth 100000 in
set_option maxHeartbeats 1000000 in
theorem clr1_any {i j:Nat} (W:World) (C:Nat) (k:Int) (x p:Rat) (hC:Bx W C 72 (fcs p)) (hp:p≠0) (hx:SzK i x) (hq:SzK j p) (hcap:i+j<17592186044416) :
  Calls Tryz.prog 155 #[.int .i64 k,fracV x,.pointer (some ⟨C,0,none⟩)] W fun e w'=>e=.returned (fracV (x / p))∧Below W.heap.size W w':=by
 have c1:=fdiv_any x p hp hx hq hcap
 have hin:=In.self W
 obtain⟨r,hr⟩:∃ r,r=x / p:=⟨_,rfl⟩
 rw[←hr] at c1 ⊢
 obtain⟨A1,A2,A3,A4,A5,hA,hA'⟩:∃ A1 A2 A3 A4 A5,fracV x=.agg #[.int .u64 A1,.string A2,.bool A3,.int .u64 A4,.string A5]∧fcs x=[.int .u64 A1,.string A2,.bool A3,.int .u64 A4,.string A5]:=⟨_,_,_,_,_,rfl,rfl⟩
 obtain⟨B1,B2,B3,B4,B5,hB,hB'⟩:∃ A1 A2 A3 A4 A5,fracV p=.agg #[.int .u64 A1,.string A2,.bool A3,.int .u64 A4,.string A5]∧fcs p=[.int .u64 A1,.string A2,.bool A3,.int .u64 A4,.string A5]:=⟨_,_,_,_,_,rfl,rfl⟩
 obtain⟨P1,P2,P3,P4,P5,hP,hP'⟩:∃ A1 A2 A3 A4 A5,fracV r=.agg #[.int .u64 A1,.string A2,.bool A3,.int .u64 A4,.string A5]∧fcs r=[.int .u64 A1,.string A2,.bool A3,.int .u64 A4,.string A5]:=⟨_,_,_,_,_,rfl,rfl⟩
 rw[hB'] at hC
 rw[hA,hB,hP] at c1
 rw[hA,hP]
 clear hr hx hq hp hcap hA hB hP hA' hB' hP'
 go_enter Tryz.func155,Tryz.ntmps155
 go_upto_region 1 with fail
 ((obtain⟨X,hXX⟩:∃ z,z=W.heap.size:=⟨_,rfl⟩);(have bV0:=((Bx.new_at W #[.int .u64 A1,.string A2,.bool A3,.int .u64 A4,.string A5] 72 (n:=X) (by simp[hXX])).alloc (.cells #[.int .u64 0,.string ⟨#[]⟩,.bool false,.int .u64 0,.string ⟨#[]⟩] 72)));(have bV1:=(Bx.new_at (W.alloc (.cells #[.int .u64 A1,.string A2,.bool A3,.int .u64 A4,.string A5] 72)) #[.int .u64 0,.string ⟨#[]⟩,.bool false,.int .u64 0,.string ⟨#[]⟩] 72 (n:=X+1) (by simp[hXX])));(have hV:=(((In.self W).alloc (.cells #[.int .u64 A1,.string A2,.bool A3,.int .u64 A4,.string A5] 72)).alloc (.cells #[.int .u64 0,.string ⟨#[]⟩,.bool false,.int .u64 0,.string ⟨#[]⟩] 72)));(replace hC:=((hC.alloc (.cells #[.int .u64 A1,.string A2,.bool A3,.int .u64 A4,.string A5] 72)).alloc (.cells #[.int .u64 0,.string ⟨#[]⟩,.bool false,.int .u64 0,.string ⟨#[]⟩] 72)));(rw[←hXX] at hV ⊢);(have HX:=Lib.hid hXX);clear hXX;(generalize (W.alloc (.cells #[.int .u64 A1,.string A2,.bool A3,.int .u64 A4,.string A5] 72)).alloc (.cells #[.int .u64 0,.string ⟨#[]⟩,.bool false,.int .u64 0,.string ⟨#[]⟩] 72)=V at *))
 rw[HX.out] at hV
 have bX:=bV0
 clear bV0
 (have x0:=bX.c0;have x1:=bX.c1;have x2:=bX.c2;have x3:=bX.c3;have x4:=bX.c4;have xl:=bX.lt)
 (have z0:=hC.c0;have z1:=hC.c1;have z2:=hC.c2;have z3:=hC.c3;have z4:=hC.c4;have zl:=hC.lt)
 (go_wp2_with fail;(((with_reducible refine(c1 _).mono ?_)));rintro e wc1 ⟨rfl,hb⟩;clear x0 x1 x2 x3 x4 xl z0 z1 z2 z3 z4 zl c1;replace hV:=hV.call hb;replace bX:=bX.call hb;replace bV1:=bV1.call hb;replace hC:=hC.call hb;clear hb)
 (have x0:=bX.c0;have x1:=bX.c1;have x2:=bX.c2;have x3:=bX.c3;have x4:=bX.c4;have xl:=bX.lt)
 have hn1:X≠X+1:=by omega
 (clear x0 x1 x2 x3 x4 xl hC;have p0:=bX.c0;have p1:=bX.c1;have p2:=bX.c2;have p3:=bX.c3;have p4:=bX.c4;(have pf0:=bX.frozen 0);(have pf1:=bX.frozen 1);(have pf2:=bX.frozen 2);(have pf3:=bX.frozen 3);(have pf4:=bX.frozen 4);have pl:=bX.lt;(have KS:=Lib.hid (((((bX.set 0 (.int .u64 P1)).set 1 (.string P2)).set 2 (.bool P3)).set 3 (.int .u64 P4)).set 4 (.string P5)));(have KhV:=Lib.hid (((((hV.setCell (p:=⟨X,0,none⟩) (Nat.le_of_eq HX.out.symm) (.int .u64 P1)).setCell (p:=⟨X,1,none⟩) (Nat.le_of_eq HX.out.symm) (.string P2)).setCell (p:=⟨X,2,none⟩) (Nat.le_of_eq HX.out.symm) (.bool P3)).setCell (p:=⟨X,3,none⟩) (Nat.le_of_eq HX.out.symm) (.int .u64 P4)).setCell (p:=⟨X,4,none⟩) (Nat.le_of_eq HX.out.symm) (.string P5)));(have KbV1:=Lib.hid (Bx.other (a:=⟨X,4,none⟩) (Bx.other (a:=⟨X,3,none⟩) (Bx.other (a:=⟨X,2,none⟩) (Bx.other (a:=⟨X,1,none⟩) (Bx.other (a:=⟨X,0,none⟩) bV1 hn1 (.int .u64 P1)) hn1 (.string P2)) hn1 (.bool P3)) hn1 (.int .u64 P4)) hn1 (.string P5)));clear bX hV bV1;(go_upto_region 2 with fail);have bX:=KS.out;simp only[List.set] at bX;have hV:=KhV.out;have bV1:=KbV1.out;clear KS pl KhV KbV1 p0 p1 p2 p3 p4 pf0 pf1 pf2 pf3 pf4;(generalize ((((wc1.setCell ⟨X,0,none⟩ (.int .u64 P1)).setCell ⟨X,1,none⟩ (.string P2)).setCell ⟨X,2,none⟩ (.bool P3)).setCell ⟨X,3,none⟩ (.int .u64 P4)).setCell ⟨X,4,none⟩ (.string P5)=W3 at *))
 have bq:=bV1
 have hin:=hV
 clear bV1 hV
 (have x0:=bX.c0;have x1:=bX.c1;have x2:=bX.c2;have x3:=bX.c3;have x4:=bX.c4;have xl:=bX.lt)
 (have q0:=bq.c0;have q1:=bq.c1;have q2:=bq.c2;have q3:=bq.c3;have q4:=bq.c4;(have f0:=bq.frozen 0);(have f1:=bq.frozen 1);(have f2:=bq.frozen 2);(have f3:=bq.frozen 3);(have f4:=bq.frozen 4);have ql:=bq.lt;(have K1:=Lib.hid ((((((bq.set 0 (.int .u64 P1)).set 1 (.string P2)).set 2 (.bool P3)).set 3 (.int .u64 P4)).set 4 (.string P5))));(have K2:=Lib.hid ((((((hin.setCell (p:=⟨(X+1),0,none⟩) (by first |(simp;done)|(have:=HX.out;simp;omega)) (.int .u64 P1)).setCell (p:=⟨(X+1),1,none⟩) (by first |(simp;done)|(have:=HX.out;simp;omega)) (.string P2)).setCell (p:=⟨(X+1),2,none⟩) (by first |(simp;done)|(have:=HX.out;simp;omega)) (.bool P3)).setCell (p:=⟨(X+1),3,none⟩) (by first |(simp;done)|(have:=HX.out;simp;omega)) (.int .u64 P4)).setCell (p:=⟨(X+1),4,none⟩) (by first |(simp;done)|(have:=HX.out;simp;omega)) (.string P5))));clear bq hin;go_wp2_with fail;have k1:=K1.out;have k2:=K2.out;clear q0 q1 q2 q3 q4 f0 f1 f2 f3 f4 ql K1 K2;(generalize ((((W3.setCell ⟨(X+1),0,none⟩ (.int .u64 P1)).setCell ⟨(X+1),1,none⟩ (.string P2)).setCell ⟨(X+1),2,none⟩ (.bool P3)).setCell ⟨(X+1),3,none⟩ (.int .u64 P4)).setCell ⟨(X+1),4,none⟩ (.string P5)=W5 at *);(have e0:W5.cell? ⟨(X+1),0,none⟩=some (.int .u64 P1):=k1.cell 0);(have e1:W5.cell? ⟨(X+1),1,none⟩=some (.string P2):=k1.cell 1);(have e2:W5.cell? ⟨(X+1),2,none⟩=some (.bool P3):=k1.cell 2);(have e3:W5.cell? ⟨(X+1),3,none⟩=some (.int .u64 P4):=k1.cell 3);(have e4:W5.cell? ⟨(X+1),4,none⟩=some (.string P5):=k1.cell 4);have hz:=k2.bel;(refine bodyPost_ret (v:=.agg #[.int .u64 P1,.string P2,.bool P3,.int .u64 P4,.string P5]) ?_ rfl ⟨rfl,hz⟩);(simp[results,Tryz.results155,go_sem,e0,e1,e2,e3,e4]))
set_option maxRecDepth 100000 in
set_option maxHeartbeats 1000000 in
theorem clr2_any {i j l:Nat} (W:World) (C wb tb p rb g R rc m k t:Nat) (dl cs:List Value) (c x:Rat) (y:Nat→Rat) (hC:Bx W C 72 (fcs c)) (hw:Bx W wb 130 [.pointer (some ⟨p,0,none⟩)]) (ht:Bx W tb 3 [.int .i64 (t:Nat)])
  (hp:Bx W p 136 (.slice (some ⟨rb,0,none⟩) R rc :: dl)) (hr:Bx W rb 31 cs) (htR:t<R) (hct:cs[t]?=some (.slice (some ⟨g,0,none⟩) m m)) (hv:VBx W g (vl m y)) (hk:k<m)
  (hc:SzK i c) (hx:SzK j x) (hy:SzK l (y k)) (hcap:i+j+l+1<17592186044416) :
  Calls Tryz.prog 156 #[.int .i64 k,fracV x,.pointer (some ⟨C,0,none⟩),.pointer (some ⟨wb,0,none⟩),.pointer (some ⟨tb,0,none⟩)] W fun e w'=>e=.returned (fracV (x - c*y k))∧Below W.heap.size W w':=by
 have c1:=fmul_any c (y k) hc hy (by omega)
 have c2:=fsub_any x (c*y k) hx (hc.mul hy) (by omega)
 obtain⟨u,hu⟩:∃ u,u=y k:=⟨_,rfl⟩
 obtain⟨D1,D2,D3,D4,D5,hD,hD'⟩:∃ A1 A2 A3 A4 A5,fracV u=.agg #[.int .u64 A1,.string A2,.bool A3,.int .u64 A4,.string A5]∧fcs u=[.int .u64 A1,.string A2,.bool A3,.int .u64 A4,.string A5]:=⟨_,_,_,_,_,rfl,rfl⟩
 obtain⟨d0,d1,d2,d3,d4⟩:=hv.eltc hk (by rw[←hu];exact hD')
 rw[←hu] at c1 c2 ⊢
 obtain⟨mm,hm⟩:∃ m,m=c*u:=⟨_,rfl⟩
 rw[←hm] at c1 c2 ⊢
 obtain⟨r,hr9⟩:∃ r,r=x - mm:=⟨_,rfl⟩
 rw[←hr9] at c2 ⊢
 obtain⟨P1,P2,P3,P4,P5,hP,hP'⟩:∃ A1 A2 A3 A4 A5,fracV c=.agg #[.int .u64 A1,.string A2,.bool A3,.int .u64 A4,.string A5]∧fcs c=[.int .u64 A1,.string A2,.bool A3,.int .u64 A4,.string A5]:=⟨_,_,_,_,_,rfl,rfl⟩
 obtain⟨B1,B2,B3,B4,B5,hB,hB'⟩:∃ A1 A2 A3 A4 A5,fracV x=.agg #[.int .u64 A1,.string A2,.bool A3,.int .u64 A4,.string A5]∧fcs x=[.int .u64 A1,.string A2,.bool A3,.int .u64 A4,.string A5]:=⟨_,_,_,_,_,rfl,rfl⟩
 obtain⟨M1,M2,M3,M4,M5,hM,hM'⟩:∃ A1 A2 A3 A4 A5,fracV mm=.agg #[.int .u64 A1,.string A2,.bool A3,.int .u64 A4,.string A5]∧fcs mm=[.int .u64 A1,.string A2,.bool A3,.int .u64 A4,.string A5]:=⟨_,_,_,_,_,rfl,rfl⟩
 obtain⟨A1,A2,A3,A4,A5,hA,hA'⟩:∃ A1 A2 A3 A4 A5,fracV r=.agg #[.int .u64 A1,.string A2,.bool A3,.int .u64 A4,.string A5]∧fcs r=[.int .u64 A1,.string A2,.bool A3,.int .u64 A4,.string A5]:=⟨_,_,_,_,_,rfl,rfl⟩
 rw[hP'] at hC
 rw[hP,hD,hM] at c1
 rw[hB,hM,hA] at c2
 rw[hB,hA]
 have htc:W.cell? ⟨rb,t,none⟩=some (.slice (some ⟨g,0,none⟩) m m):=(hr.cell t).trans hct
 have htI:(t:Int)<R:=by omega
 have ht0:(0:Int)≤t:=by omega
 have hkI:(k:Int)<m:=by omega
 have hk0:(0:Int)≤k:=by omega
 have hgl:=hv.lt
 have hrl:=hr.lt
 have hpl:=hp.lt
 have hwl:=hw.lt
 have htl:=ht.lt
 have p0:=hp.c0
 have w0:=hw.c0
 have t0:=ht.c0
 have hin:=In.self W
 clear hu hm hr9 hc hx hy hcap hP hB hD hM hA hP' hB' hM' hA' hD' hct hr hv ht hw hp
 go_enter Tryz.func156,Tryz.ntmps156
 go_upto_region 1 with fail
 ((obtain⟨X,hXX⟩:∃ z,z=W.heap.size:=⟨_,rfl⟩);(have bV0:=((Bx.new_at W #[.int .u64 B1,.string B2,.bool B3,.int .u64 B4,.string B5] 72 (n:=X) (by simp[hXX])).alloc (.cells #[.int .u64 0,.string ⟨#[]⟩,.bool false,.int .u64 0,.string ⟨#[]⟩] 72)));(have bV1:=(Bx.new_at (W.alloc (.cells #[.int .u64 B1,.string B2,.bool B3,.int .u64 B4,.string B5] 72)) #[.int .u64 0,.string ⟨#[]⟩,.bool false,.int .u64 0,.string ⟨#[]⟩] 72 (n:=X+1) (by simp[hXX])));(have hV:=(((In.self W).alloc (.cells #[.int .u64 B1,.string B2,.bool B3,.int .u64 B4,.string B5] 72)).alloc (.cells #[.int .u64 0,.string ⟨#[]⟩,.bool false,.int .u64 0,.string ⟨#[]⟩] 72)));(replace hC:=((hC.alloc (.cells #[.int .u64 B1,.string B2,.bool B3,.int .u64 B4,.string B5] 72)).alloc (.cells #[.int .u64 0,.string ⟨#[]⟩,.bool false,.int .u64 0,.string ⟨#[]⟩] 72)));(rw[←hXX] at hV ⊢);(have HX:=Lib.hid hXX);clear hXX;(generalize (W.alloc (.cells #[.int .u64 B1,.string B2,.bool B3,.int .u64 B4,.string B5] 72)).alloc (.cells #[.int .u64 0,.string ⟨#[]⟩,.bool false,.int .u64 0,.string ⟨#[]⟩] 72)=V at *))
 rw[HX.out] at hV
 have hcc:=hV.cell
 rw[←hcc _ _ hgl] at d0 d1 d2 d3 d4
 rw[←hcc _ _ hrl] at htc
 rw[←hcc _ _ hpl] at p0
 rw[←hcc _ _ hwl] at w0
 rw[←hcc _ _ htl] at t0
 have hsz:=hV.siz
 replace hgl:=Nat.lt_of_lt_of_le hgl hsz
 replace hrl:=Nat.lt_of_lt_of_le hrl hsz
 replace hpl:=Nat.lt_of_lt_of_le hpl hsz
 replace hwl:=Nat.lt_of_lt_of_le hwl hsz
 replace htl:=Nat.lt_of_lt_of_le htl hsz
 clear hcc hsz hin
 have x0:=bV0.c0;have x1:=bV0.c1;have x2:=bV0.c2;have x3:=bV0.c3;have x4:=bV0.c4;have xl:=bV0.lt
 have z0:=hC.c0;have z1:=hC.c1;have z2:=hC.c2;have z3:=hC.c3;have z4:=hC.c4;have zl:=hC.lt
 have h:=In.self V
 have hc:=h.cell
 refine tfw 14 ?_;refine tset ?_;(repeat (first | refine tfs ?_ |((first |((with_reducible refine flow_pure0 (v:=?_) ?_ ?_ ?_ ?_);rotate_left 1;exact trr;exact trf)|((with_reducible refine flow_pureg (v:=?_) (j:=?_) (b:=?_) ?_ ?_ ?_ ?_);rotate_left 3;exact trr;exact thg));(focus (intro u w1 hw hd;replace hd:=thn hd;have hc':=hw.cell;go_simp;first |(go_at_call 39;((with_reducible refine(c1 _).mono ?_));rintro e w'' ⟨rfl,hb⟩;refine⟨?_,hb⟩;exact rfl)|(go_at_call 88;((with_reducible refine(c2 _).mono ?_));rintro e w'' ⟨rfl,hb⟩;refine⟨?_,hb⟩;exact rfl))))))
 (try clear hc hf h);intro u w' h ha hdi;replace h:=tsz h.ins;replace ha:=tah ha;have hc:=h.cell;have hf:=h.frozen
 (try obtain ha:=ha);(try dsimp only);simp only[ha];clear ha hdi
 have hin:=hV.call h.bel
 have bq:=bV1.call h.bel
 clear hc hf h hV bV0 bV1 hC x0 x1 x2 x3 x4 xl z0 z1 z2 z3 z4 zl d0 d1 d2 d3 d4 htc p0 w0 t0 hgl hrl hpl hwl htl
 (have q0:=bq.c0;have q1:=bq.c1;have q2:=bq.c2;have q3:=bq.c3;have q4:=bq.c4;(have f0:=bq.frozen 0);(have f1:=bq.frozen 1);(have f2:=bq.frozen 2);(have f3:=bq.frozen 3);(have f4:=bq.frozen 4);have ql:=bq.lt;(have K1:=Lib.hid ((((((bq.set 0 (.int .u64 A1)).set 1 (.string A2)).set 2 (.bool A3)).set 3 (.int .u64 A4)).set 4 (.string A5))));(have K2:=Lib.hid ((((((hin.setCell (p:=⟨(X+1),0,none⟩) (by first |(simp;done)|(have:=HX.out;simp;omega)) (.int .u64 A1)).setCell (p:=⟨(X+1),1,none⟩) (by first |(simp;done)|(have:=HX.out;simp;omega)) (.string A2)).setCell (p:=⟨(X+1),2,none⟩) (by first |(simp;done)|(have:=HX.out;simp;omega)) (.bool A3)).setCell (p:=⟨(X+1),3,none⟩) (by first |(simp;done)|(have:=HX.out;simp;omega)) (.int .u64 A4)).setCell (p:=⟨(X+1),4,none⟩) (by first |(simp;done)|(have:=HX.out;simp;omega)) (.string A5))));clear bq hin;go_wp2_with fail;have k1:=K1.out;have k2:=K2.out;clear q0 q1 q2 q3 q4 f0 f1 f2 f3 f4 ql K1 K2;(generalize ((((w'.setCell ⟨(X+1),0,none⟩ (.int .u64 A1)).setCell ⟨(X+1),1,none⟩ (.string A2)).setCell ⟨(X+1),2,none⟩ (.bool A3)).setCell ⟨(X+1),3,none⟩ (.int .u64 A4)).setCell ⟨(X+1),4,none⟩ (.string A5)=W5 at *);(have e0:W5.cell? ⟨(X+1),0,none⟩=some (.int .u64 A1):=k1.cell 0);(have e1:W5.cell? ⟨(X+1),1,none⟩=some (.string A2):=k1.cell 1);(have e2:W5.cell? ⟨(X+1),2,none⟩=some (.bool A3):=k1.cell 2);(have e3:W5.cell? ⟨(X+1),3,none⟩=some (.int .u64 A4):=k1.cell 3);(have e4:W5.cell? ⟨(X+1),4,none⟩=some (.string A5):=k1.cell 4);have hz:=k2.bel;(refine bodyPost_ret (v:=.agg #[.int .u64 A1,.string A2,.bool A3,.int .u64 A4,.string A5]) ?_ rfl ⟨rfl,hz⟩);(simp[results,Tryz.results156,go_sem,e0,e1,e2,e3,e4]))
end Gus
end
section
namespace Gus
open Go Go.RowKit Go.Proofs
def mxl (x F:Nat→Rat) (m k:Nat):List Rat:=(List.range m).map fun j=>if j<k then F j else x j
theorem mxl_length (x F:Nat→Rat) (m k:Nat):(mxl x F m k).length=m:=by simp[mxl]
theorem mxl_zero (x F:Nat→Rat) (m:Nat):mxl x F m 0=vl m x:=by
 unfold mxl vl
 exact List.map_congr_left fun i _=>by rw[if_neg (Nat.not_lt_zero _)]
theorem mxl_full (x F:Nat→Rat) (m:Nat):mxl x F m m=vl m F:=by
 unfold mxl vl
 exact List.map_congr_left fun i hi=>by rw[if_pos (List.mem_range.1 hi)]
theorem mxl_at (x F:Nat→Rat) {m k:Nat} (hk:k<m):(mxl x F m k).getD k 0=x k:=by simp[mxl,hk]
theorem mxl_set (x F:Nat→Rat) (m k:Nat):(mxl x F m k).set k (F k)=mxl x F m (k+1):=by
 unfold mxl
 apply List.ext_getElem
 ·simp
 ·intro i h1 h2
  simp only[List.getElem_set,List.getElem_map,List.getElem_range]
  by_cases h:k=i
  ·subst h;simp
  ·rw[if_neg h]
   by_cases h3:i<k
   ·rw[if_pos h3,if_pos (by omega)]
   ·rw[if_neg h3,if_neg (by omega)]
set_option maxRecDepth 100000 in
set_option maxHeartbeats 4000000 in
theorem each_any' {m g:Nat} {x F:Nat→Rat} (w:World) (p rb R rc i:Nat) (dl cs:List Value) (hp:Bx w p 136 (.slice (some ⟨rb,0,none⟩) R rc :: dl)) (hr:Bx w rb 31 cs) (hiR:i<R) (hci:cs[i]?=some (.slice (some ⟨g,0,none⟩) m m)) (hv:VBx w g (vl m x)) (hm:m≤4096)
  (g0:Nat) (cb:Array Value) (eg:∀ args w,(callFunc g0 args).run Tryz.prog w=.ok (.enter g0 args) w)
  (hcl:∀ k W,k<m→w.grownBy W (some g)→Calls Tryz.prog g0 (#[.int .i64 (k:Nat),fracV (x k)] ++ cb) W fun e w'=>e=.returned (fracV (F k))∧Below W.heap.size W w') :
  Calls Tryz.prog 154 #[.pointer (some ⟨p,0,none⟩),.int .i64 (i:Nat),.func (.func g0) #[] cb] w fun e w'=>e=.returned (.tuple #[])∧VBx w' g (vl m F)∧w.grownBy w' (some g):=by
 have hrg:¬ rb=g:=hr.ne_type hv (by decide)
 have hpg:¬ p=g:=hp.ne_type hv (by decide)
 have HC:=Lib.hid hcl
 have iI:(i:Int)<R:=by omega
 have i0:(0:Int)≤i:=by omega
 have p0:=hp.c0
 have pl:=hp.lt
 have r0:w.cell? ⟨rb,i,none⟩=some (.slice (some ⟨g,0,none⟩) m m):=(hr.cell i).trans hci
 have rl:=hr.lt
 have HP:=Lib.hid hp
 have HR:=Lib.hid hr
 have HV:=Lib.hid hv
 have HCI:=Lib.hid hci
 clear hp hr hv hcl hci
 go_enter Tryz.func154,Tryz.ntmps154
 go_wp2_with fail
 clear p0 r0 pl rl
 go_loopw [16] (fun v16 wr=>∃ k:Nat,k≤m∧v16=.int .i64 k∧w.grownBy wr (some g)∧VBx wr g (mxl x F m k)) (fun v16 _=>m - (RowKit.intOf v16).toNat)
 case atStart=>exact⟨0,Nat.zero_le _,rfl,World.grownBy.refl _ _,by rw[mxl_zero];exact HV.out⟩
 case round=>
  obtain⟨k,hk,rfl,hg,bv⟩:=hrel
  by_cases hkm:k<m
  ·have hkI:(k:Int)<m:=by omega
   have hk0:(0:Int)≤k:=by omega
   have hkw:IntKind.i64.wrap ((k:Int)+1)=((k+1:Nat):Int):=IntWalk.i64_in _ (by omega)
   have bp:Bx wr p 136 (.slice (some ⟨rb,0,none⟩) R rc :: dl):=HP.out.grown hg (by simp;exact hpg)
   have br:Bx wr rb 31 cs:=HR.out.grown hg (by simp;exact hrg)
   have hlt:k<(mxl x F m k).length:=by rw[mxl_length];exact hkm
   obtain⟨A1,A2,A3,A4,A5,hA,c0,c1,c2,c3,c4,f0,f1,f2,f3,f4⟩:=VBx.cells bv hlt
   rw[mxl_at x F hkm] at hA
   obtain⟨q,hq⟩:∃ q,q=F k:=⟨_,rfl⟩
   have hcl:=fun W h=>HC.out k W hkm h
   rw[←hq,hA] at hcl
   have HQ:=Lib.hid hq
   obtain⟨B1,B2,B3,B4,B5,hB,hB'⟩:∃ A1 A2 A3 A4 A5,fracV q=.agg #[.int .u64 A1,.string A2,.bool A3,.int .u64 A4,.string A5]∧fcs q=[.int .u64 A1,.string A2,.bool A3,.int .u64 A4,.string A5]:=⟨_,_,_,_,_,rfl,rfl⟩
   rw[hB] at hcl
   have HB:=Lib.hid hB'
   clear hq hB hB' hA
   have bvl:=bv.lt
   go_upto_region 3 with fail
   have hrr:=In.self wr
   ((obtain⟨Z,hZ⟩:∃ z,z=wr.heap.size:=⟨_,rfl⟩);(have bZ:=Bx.new_at wr #[.int .u64 A1,.string A2,.bool A3,.int .u64 A4,.string A5] 72 hZ);(have hgz:g<Z:=by rw[hZ];exact bv.lt);(replace hrr:=hrr.alloc (.cells #[.int .u64 A1,.string A2,.bool A3,.int .u64 A4,.string A5] 72));(replace bp:=bp.alloc (.cells #[.int .u64 A1,.string A2,.bool A3,.int .u64 A4,.string A5] 72));(replace br:=br.alloc (.cells #[.int .u64 A1,.string A2,.bool A3,.int .u64 A4,.string A5] 72));(replace bv:=bv.alloc (.cells #[.int .u64 A1,.string A2,.bool A3,.int .u64 A4,.string A5] 72));(rw[←hZ]);clear hZ;(generalize wr.alloc (.cells #[.int .u64 A1,.string A2,.bool A3,.int .u64 A4,.string A5] 72)=W1 at *))
   clear c0 c1 c2 c3 c4 f0 f1 f2 f3 f4
   (have z0:=bZ.c0;have z1:=bZ.c1;have z2:=bZ.c2;have z3:=bZ.c3;have z4:=bZ.c4;have zl:=bZ.lt)
   have p0:=bp.c0
   have pl:=bp.lt
   have r0:W1.cell? ⟨rb,i,none⟩=some (.slice (some ⟨g,0,none⟩) m m):=(br.cell i).trans HCI.out
   have rl:=br.lt
   have hgg:w.grownBy W1 (some g):=hg.trans (Gro.bel hrr.bel _)
   have hlt:k<(mxl x F m k).length:=by rw[mxl_length];exact hkm
   have hgl:=bv.lt
   have h:=In.self W1;have hc:=h.cell;have hf:=h.frozen;refine tfw 13 ?_;refine tset ?_;(repeat (first | refine tfs ?_))
   ((with_reducible refine flow_pure0 (v:=?_) ?_ ?_ ?_ ?_);rotate_left 1;(focus (with_reducible rfl));(focus rfl);(focus (intro u w1 hw hd;replace hd:=thn hd;have hc':=hw.cell;go_simp;((with_reducible refine(hcl w1 (hgg.trans (Gro.bel hw.ins.bel _))).mono ?_));rintro e w'' ⟨rfl,hb⟩;refine⟨?_,hb⟩;exact rfl)))
   (repeat (first | refine tfs ?_))
   (try clear hc hf h);intro u w' h ha hdi;replace h:=tsz h.ins;replace ha:=tah ha;have hc:=h.cell;have hf:=h.frozen
   (try obtain ha:=ha);(try dsimp only);simp only[ha];clear ha hdi
   have bv5:=bv.call h.bel
   obtain⟨_,_,_,_,_,_,c0,c1,c2,c3,c4,f0,f1,f2,f3,f4⟩:=VBx.cells bv5 hlt
   have hgl5:=bv5.lt
   have hs:=VBx.setA bv5 k q hlt HB.out
   rw[show(mxl x F m k).set k q=mxl x F m (k+1) by rw[HQ.out];exact mxl_set _ _ _ _] at hs
   have H1:=Lib.hid hs
   have H2:=Lib.hid ((hgg.trans (Gro.bel h.bel _)).trans (gr_putA w' g k (.int .u64 B1) (.string B2) (.bool B3) (.int .u64 B4) (.string B5)))
   clear hs hc hf h hgg bv5 bv bp br bZ z0 z1 z2 z3 z4 zl p0 pl r0 rl hgl hcl hrr hg
   go_wp2_with fail
   exact⟨⟨k+1,by omega,by go_num,H2.out,H1.out⟩,by simp[RowKit.intOf];omega⟩
  ·obtain rfl:k=m:=by omega
   have hkI:¬ (k:Int)<k:=by omega
   rw[mxl_full] at bv
   have H1:=Lib.hid bv
   have H2:=Lib.hid hg
   clear bv hg
   go_wp2_with fail
   go_end0
   exact⟨rfl,H1.out,H2.out⟩
end Gus
end
