/- Proved here: parts of the proof: KElf KElh KEli. Conditions: those that each theorem states. -/
import Derived.Test.YthblojaeoiemmaaGreatDoorKElcQ
import Derived.Laws.CopyOwn
section
namespace Gus
open Go Go.RowKit Go.Proofs
section
variable {P:Program}
theorem run_copy_sz (w:World) (dT sT ty elem:TypeId) (g o dLen dCap:Nat) (a:Addr) (sLen sCap size:Nat) (cur:Array Value) (t:TypeId) (cs:List Value)
  (hu:P.underlying dT=some (.slice elem)) (hs:(P.info? elem).map (·.size)=some size)
  (hg:w.heap[g]?=some (.cells cur t (0,0))) (hn:cs.length=Nat.min sLen dLen*size)
  (hsrc:∀ j v,cs[j]?=some v→w.cell? (a.add j)=some v) (hfit:o+cs.length≤cur.size) (h1:∀ v∈cs,v.oneCell'=true) :
  (Builtin.copy_ #[dT,sT] ty #[.slice (some ⟨g,o,none⟩) dLen dCap,.slice (some a) sLen sCap]).run P w =
   .ok (goInt (Nat.min sLen dLen)) (w.setRow g (cur.toList.take o ++ cs ++ cur.toList.drop (o+cs.length)).toArray):=by
 have hl:=run_loadCells_list (P:=P) w a cs hsrc
 have hst:=run_storeCells_at P g o t cs 0 cur w hg (by simpa using hfit) h1
 cases hq:P.info? elem with
 | none=>simp[hq] at hs
 | some i=>
  have hi:i.size=size:=by simpa[hq] using hs
  rw[hn] at hl
  simp[Builtin.copy_,run_underlying hu,Builtin.lenOf,Builtin.firstCells,Go.sizeOf,typeInfo,hq,hi,hl,hst]
variable {ops:Array Oper} {w0:World} {A:(Nat→Value)→Act} {T:Act→World→Prop} {i:Nat} {o:Oper} {os:List Oper} {V:Nat→(Nat→Value)→Value→World→Prop} {Φ:Nat→Bool}
theorem flow_box {t:TypeId} {zs:Array Value} (hg:o.guard=none) (hf:fl o=false) (h:∀ u w,St w0 w→depH V u w o.after.toList→(execOp (A u).eval o).run P w=.ok (.value (.pointer (some ⟨w.heap.size,0,none⟩))) (w.alloc (.cells zs t)))
  (k:flow P ops w0 A T (i+1) os (ext V i (NewB w0.heap.size t zs.toList)) (extB Φ i true)):flow P ops w0 A T i (o :: os) V Φ:=
 ⟨fun _=>_,true,fun _=>stable_new _ _ _,fun _=>placed_new _ _ _ _,local_const _ _,fun u w hw hd=>by
  unfold okOp
  rw[if_pos (by unfold Region.wanted;rw[hg]),h u w hw hd]
  exact⟨⟨⟨w.heap.size,rfl,hw.size,Bx.new _ _ _⟩,fun _ b hb=>by cases hb;exact Nat.le_refl _⟩,(Below.refl _ _).alloc (Nat.le_refl _) _⟩,fun h0=>absurd h0 (by rw[hf];exact Bool.false_ne_true),k⟩
end
theorem sz_frac:(Tryz.prog.info? 72).map (·.size)=some 5:=by kernel_rfl
theorem fcl_one5 (l:List Rat):∀ v∈fcl l,v.oneCell'=true:=by
 intro v hv
 obtain⟨q,_,hq⟩:=List.mem_flatMap.1 hv
 unfold fcs at hq
 simp only[List.mem_cons,List.not_mem_nil,or_false] at hq
 rcases hq with rfl | rfl | rfl | rfl | rfl <;> rfl
theorem fcl_append (a b:List Rat):fcl (a ++ b)=fcl a ++ fcl b:=by unfold fcl;rw[List.flatMap_append]
theorem fcl_drop:∀ (l:List Rat) (k:Nat),(fcl l).drop (k*5)=fcl (l.drop k)
 | l,0=>by simp
 | [],k+1=>by simp[fcl]
 | q :: l,k+1=>by
  have ih:=fcl_drop l k
  show(fcs q ++ fcl l).drop ((k+1)*5)=fcl (l.drop k)
  rw[List.drop_append,List.drop_eq_nil_of_le (by show 5≤_;omega),List.nil_append,show(k+1)*5 - (fcs q).length=k*5 by show(k+1)*5 - 5=_;omega,ih]
theorem fcl_length' (l:List Rat):(fcl l).length=l.length*5:=by
 induction l with
 | nil=>rfl
 | cons q l ih=>show(fcs q ++ fcl l).length=_;rw[List.length_append,ih,List.length_cons];show 5+_=_;omega
theorem wpList_copy_frac {ops:Array Oper} {rest:List Oper} {o:Oper} {a:Act} {Q:Exit→Act→World→Prop} {w:World} (hgd:o.guard=none) (d s:Operand)
  (ho:o.op=.call { callee:=.builtin .copy,args:=#[d,s],argTypes:=#[31,31] }) (g L K c1 c2:Nat) (ad:Addr) (hd:a.eval d=.slice (some ⟨g,0,none⟩) L c1) (hs:a.eval s=.slice (some ad) K c2)
  (zs qs:List Rat) (hz:VBx w g zs) (hq:qs.length=K) (hx:∀ j,j<K*5→w.cell? (ad.add j)=(fcl qs)[j]?) (hKL:K≤L) (hL:L≤zs.length)
  (h:∀ w',VBx w' g (qs ++ zs.drop K)→Below g w w'→wpList Tryz.prog ops Q rest (a.put o.dst (goInt K)) w'):wpList Tryz.prog ops Q (o :: rest) a w:=by
 refine wpList_plain hgd fun K' hK=>?_
 have hlen:(fcl qs).length=K*5:=by rw[fcl_length',hq]
 have hrun:=run_copy_sz (P:=Tryz.prog) w 31 31 o.type 72 g 0 L c1 ad K c2 5 (fcl zs).toArray 72 (fcl qs) Tryz.underlying31 sz_frac hz
  (by rw[hlen,show Nat.min K L=K from Nat.min_eq_left hKL])
  (fun j v hj=>by
   have hjl:j<K*5:=by
    rcases Nat.lt_or_ge j (K*5) with h | h
    ·exact h
    ·rw[List.getElem?_eq_none (by omega)] at hj;cases hj
   rw[hx j hjl];exact hj)
  (by rw[List.size_toArray,hlen,fcl_length'];omega) (fcl_one5 _)
 rw[show Nat.min K L=K from Nat.min_eq_left hKL] at hrun
 unfold Oper.wp
 simp[execOp,ho,resolve,invoke,builtin,hd,hs,hrun,Result.andThen]
 refine hK _ _ (h _ ?_ (below_setRow (Below.refl _ _) (Nat.le_refl _) _))
 have:=setRow_heap w g (fcl zs).toArray (fcl qs ++ (fcl zs).drop (fcl qs).length).toArray 72 (0,0) hz
 show _=_
 rw[fcl_append,←fcl_drop,←hlen]
 simpa using this
def MatQ (w:World) (v:Value) (r c:Nat) (qs:List Rat):Prop:=∃ b off cap,v=.agg #[.int .i64 r,.int .i64 c,.slice (some ⟨b,off,none⟩) qs.length cap]∧qs.length=r*c∧qs.length≤cap∧b<w.heap.size∧∀ j,j<qs.length*5→w.cell? ⟨b,off+j,none⟩=(fcl qs)[j]?
theorem MatQ.call {w w':World} {v:Value} {r c:Nat} {qs:List Rat} (h:MatQ w v r c qs) (hb:Below w.heap.size w w'):MatQ w' v r c qs:=by
 obtain⟨b,off,cap,h1,h2,h3,h4,h5⟩:=h
 exact⟨b,off,cap,h1,h2,h3,Nat.lt_of_lt_of_le h4 hb.size,fun j hj=>by rw[hb.cell (p:=⟨b,off+j,none⟩) h4];exact h5 j hj⟩
structure BgAt (w:World) (lo p i m cols:Nat) (rv:Value) (f:Nat→Nat) (M:Mx):Prop where
 box:Bx w p 136 (rv :: .int .i64 cols :: .slice none 0 0 :: fcs 1)
 plo:lo≤p
 own:w.ownsRow lo 31 1 rv i ((List.range i).map fun j=>.slice (some ⟨f j,0,none⟩) m m)
 row:∀ j,j<i→VBx w (f j) (vl m (M j))
 inj:∀ j k,j<i→k<i→f j=f k→j=k
 low:∀ j,j<i→lo≤f j
theorem BgAt.call {w w':World} {lo p i m cols:Nat} {rv:Value} {f:Nat→Nat} {M:Mx} (h:BgAt w lo p i m cols rv f M) (hb:Below w.heap.size w w'):BgAt w' lo p i m cols rv f M:=
 ⟨h.box.call hb,h.plo,ownsRow_bel h.own hb,fun j hj=>(h.row j hj).call hb,h.inj,h.low⟩
theorem BgAt.shape {w:World} {lo p i m cols:Nat} {rv:Value} {f:Nat→Nat} {M:Mx} (h:BgAt w lo p i m cols rv f M):∃ a c,rv=.slice a i c:=by
 rcases h.own.2 with ⟨rfl,hn⟩|⟨g,c,_,rfl,_⟩
 ·exact⟨none,0,by rw[hn]⟩
 ·exact⟨_,_,rfl⟩
theorem BgAt.el {w:World} {lo p R m cols rc:Nat} {ra:Option Addr} {f:Nat→Nat} {M:Mx} (h:BgAt w lo p R m cols (.slice ra R rc) f M):ElAt w lo p R m cols ra rc (.slice none 0 0) f ⟨M,[],1⟩:=by
 refine⟨h.box,h.plo, ?_,⟨fun i hi=>?_,h.row,h.inj,h.low⟩,World.ownsRow_nil _ _ _ _⟩
 ·rcases h.own.2 with ⟨_,hn⟩|⟨g,cap,cur,hv,h0,hg,h1,h2,h3,h4⟩
  ·omega
  ·simp only[Value.slice.injEq] at hv
   omega
 rcases h.own.2 with ⟨_,hn⟩|⟨g,cap,cur,hv,h0,hg,h1,h2,h3,h4⟩
 ·omega
 ·simp only[Value.slice.injEq] at hv
  refine⟨g,cur.toList,hv.1,h0,by unfold Bx;rw[Array.toArray_toList];exact hg, ?_⟩
  have h5:(cur.toList.take (R*1))[i]?=_:=congrArg (fun l:List Value=>l[i]?) h4
  rw[List.getElem?_take,if_pos (by omega)] at h5
  rw[h5]
  simp[hi]
def bgV (qs:List Rat) (d C m:Nat) (B:Nat→Rat) (k:Nat):List Rat:=(List.range m).map fun c=>if c<C then qs.getD (d+c) 0 else if c - C<k then B (c - C) else 0
theorem bgV_length (qs:List Rat) (d C m:Nat) (B:Nat→Rat) (k:Nat):(bgV qs d C m B k).length=m:=by simp[bgV]
theorem bgV_zero (qs:List Rat) (d C more:Nat) (B:Nat→Rat):((List.range C).map fun c=>qs.getD (d+c) 0) ++ List.replicate more 0=bgV qs d C (C+more) B 0:=by
 unfold bgV
 apply List.ext_getElem
 ·simp
 ·intro i h1 h2
  simp only[List.length_map,List.length_range] at h2
  simp only[List.getElem_map,List.getElem_range]
  by_cases h:i<C
  ·rw[List.getElem_append_left (by simpa using h),if_pos h];simp
  ·rw[List.getElem_append_right (by simp;omega),if_neg h,if_neg (Nat.not_lt_zero _),List.getElem_replicate]
theorem bgV_set (qs:List Rat) (d C m:Nat) (B:Nat→Rat) (k:Nat):(bgV qs d C m B k).set (C+k) (B k)=bgV qs d C m B (k+1):=by
 unfold bgV
 apply List.ext_getElem
 ·simp
 ·intro i h1 h2
  simp only[List.getElem_set,List.getElem_map,List.getElem_range]
  by_cases h:C+k=i
  ·subst h;rw[if_pos rfl,if_neg (by omega),if_pos (by omega),show C+k - C=k by omega]
  ·rw[if_neg h]
   by_cases h2:i<C
   ·rw[if_pos h2,if_pos h2]
   ·rw[if_neg h2,if_neg h2]
    by_cases h3:i - C<k
    ·rw[if_pos h3,if_pos (by omega)]
    ·rw[if_neg h3,if_neg (by omega)]
theorem bgV_full (qs:List Rat) (d C more:Nat) (B:Nat→Rat):bgV qs d C (C+more) B more=vl (C+more) fun c=>if c<C then qs.getD (d+c) 0 else B (c - C):=by
 unfold bgV vl
 refine List.map_congr_left fun c hc=>?_
 have:=List.mem_range.1 hc
 by_cases h:c<C
 ·rw[if_pos h,if_pos h]
 ·rw[if_neg h,if_neg h,if_pos (by omega)]
theorem BgAt.snoc {w w':World} {lo p i m cols g:Nat} {rv rv':Value} {f:Nat→Nat} {M:Mx} (h:BgAt w lo p i m cols rv f M) (hg:VBx w g (vl m (M i))) (hlo:lo≤g) (hnew:∀ j,j<i→¬ f j=g)
  (hown:w'.ownsRow lo 31 1 rv' (i+1) (((List.range i).map fun j=>.slice (some ⟨f j,0,none⟩) m m) ++ [.slice (some ⟨g,0,none⟩) m m])) (hgr:w.grownBy w' rv.ownBlock) :
  BgAt (w'.setCell ⟨p,0,none⟩ rv') lo p (i+1) m cols rv' (fun j=>if j=i then g else f j) M:=by
 have hkeep:∀ b T cs,Bx w b T cs→T≠31→Bx w' b T cs:=fun b T cs hb hT=>hb.grown hgr fun e=>ownsRow_ne h.own hb (Ne.symm hT) e.symm
 have hbox':=hkeep _ _ _ h.box (by decide)
 refine⟨hbox'.set 0 rv',h.plo, ?_,fun j hj=>?_,fun j k hj hk hjk=>?_,fun j hj=>?_⟩
 ·have e:((List.range (i+1)).map fun j=>(.slice (some ⟨if j=i then g else f j,0,none⟩) m m:Value))=((List.range i).map fun j=>.slice (some ⟨f j,0,none⟩) m m) ++ [.slice (some ⟨g,0,none⟩) m m]:=by
   rw[List.range_succ,List.map_append,List.map_singleton,if_pos rfl]
   congr 1
   exact List.map_congr_left fun j hj=>by rw[if_neg (by have:=List.mem_range.1 hj;omega)]
  rw[e]
  exact ownsRow_kept hown fun k hk=>heap_setCell_other w' ⟨p,0,none⟩ k rv' (fun e=>ownsRow_ne hown hbox' (by decide) (by rw[hk,e]))
 ·have hne:∀ b q,VBx w' b q→¬ p=b:=fun b q hq=>hbox'.ne_type hq (by decide)
  by_cases hji:j=i
  ·subst hji
   simp only[if_pos]
   have:=hkeep _ _ _ hg (by decide)
   exact Bx.other this (hne _ _ this) _
  ·simp only[if_neg hji]
   have:=hkeep _ _ _ (h.row j (by omega)) (by decide)
   exact Bx.other this (hne _ _ this) _
 ·by_cases h1:j=i <;> by_cases h2:k=i
  ·omega
  ·rw[if_pos h1,if_neg h2] at hjk;exact absurd hjk.symm (hnew k (by omega))
  ·rw[if_neg h1,if_pos h2] at hjk;exact absurd hjk (hnew j (by omega))
  ·rw[if_neg h1,if_neg h2] at hjk;exact h.inj j k (by omega) (by omega) hjk
 ·show lo≤(if j=i then g else f j)
  split
  ·exact hlo
  ·exact h.low j (by omega)
end Gus
end
section
namespace Gus
open Go Go.RowKit Go.Proofs
theorem info_rowsF:(Tryz.prog.info? 31).map (fun i=>(i.zero,i.size,i.bytes))=some (some (.slice none 0 0),1,24):=by kernel_rfl
def begM (qs:List Rat) (C:Nat) (B:Nat→Nat→Rat):Mx:=fun r c=>if c<C then qs.getD (r*C+c) 0 else B r (c - C)
def BegP (w:World) (R m C:Nat) (M:Mx) (e:Ending) (w':World):Prop:=∃ p ra rc f,e=.returned (.pointer (some ⟨p,0,none⟩))∧In w.heap.size w w'∧ElAt w' w.heap.size p R m C ra rc (.slice none 0 0) f ⟨M,[],1⟩
def rowQ (qs:List Rat) (d C:Nat):List Rat:=(List.range C).map fun c=>qs.getD (d+c) 0
theorem rowQ_cells {w:World} {b off n C d:Nat} {qs:List Rat} (hn:n=qs.length) (h:∀ j,j<n*5→w.cell? ⟨b,off+j,none⟩=(fcl qs)[j]?) (hd:d+C≤n):∀ j,j<C*5→w.cell? ⟨b,off+d*5+j,none⟩=(fcl (rowQ qs d C))[j]?:=fun j hj=>by
 have h1:=h (d*5+j) (by omega)
 rw[←Nat.add_assoc] at h1
 rw[h1]
 have e1:=fcl_at qs (d+j / 5) (j % 5) (by omega) (Nat.mod_lt _ (by decide))
 have e2:=fcl_at (rowQ qs d C) (j / 5) (j % 5) (by simp[rowQ];omega) (Nat.mod_lt _ (by decide))
 rw[show(d+j / 5)*5+j % 5=d*5+j by omega] at e1
 rw[show j / 5*5+j % 5=j by omega] at e2
 rw[e1,e2]
 have hc:j / 5<C:=by omega
 have:(rowQ qs d C).getD (j / 5) 0=qs.getD (d+j / 5) 0:=by simp[rowQ,hc]
 rw[this]
set_option maxRecDepth 100000 in
set_option maxHeartbeats 16000000 in
theorem ebegun_any (w:World) (v:Value) (R C more:Nat) (qs:List Rat) (hA:MatQ w v R C qs) (g0:Nat) (cb:Array Value) (eg:∀ args w,(callFunc g0 args).run Tryz.prog w=.ok (.enter g0 args) w) (B:Nat→Nat→Rat) (hR:R≤2048) (hC:C≤2048) (hm:more≤2048) (hC0:0<R→0<C)
  (hcl:∀ i k W,i<R→k<more→In w.heap.size w W→Calls Tryz.prog g0 (#[.int .i64 (i:Nat),.int .i64 (k:Nat)] ++ cb) W fun e w'=>e=.returned (fracV (B i k))∧Below W.heap.size W w') :
  Calls Tryz.prog 65 #[v,.int .i64 (more:Nat),.func (.func g0) #[] cb] w fun e w'=>BegP w R (C+more) C (begM qs C B) e w':=by
 obtain⟨j0,hj0,hj1,hj2,hj3⟩:=info_parts info_rowsF
 have hAw:=hA
 obtain⟨b,off,cap,rfl,hlen,hcap,hbw,hcells⟩:=hA
 obtain⟨n,hn⟩:∃ n,n=qs.length:=⟨_,rfl⟩
 rw[←hn] at hlen hcap hcells
 have hn4:n≤4194304:=by rw[hlen];exact Nat.mul_le_mul hR hC
 have HN:=Lib.hid hn
 have HL:=Lib.hid hlen
 have HC:=Lib.hid hcells
 have HCL:=Lib.hid hcl
 rw[←hn]
 obtain⟨m,hm9⟩:∃ m,m=C+more:=⟨_,rfl⟩
 have hcm:m≤4096:=by omega
 have hmw:IntKind.i64.wrap ((C:Int)+more)=(m:Int):=by rw[show((C:Int)+more)=(m:Int) by omega];exact IntWalk.i64_in _ (by omega)
 have hmk:=info_frac6 m (by omega)
 rw[←hm9]
 have HM:=Lib.hid hm9
 obtain⟨fc,hfc⟩:∃ fc,fc=fcl (List.replicate m 0):=⟨_,rfl⟩
 have HF:=Lib.hid hfc
 rw[←hfc] at hmk
 obtain⟨M,hM⟩:∃ M,M=begM qs C B:=⟨_,rfl⟩
 rw[←hM]
 have HMM:=Lib.hid hM
 obtain⟨one,hone⟩:∃ one:Rat,one=((1:Int):Rat):=⟨_,rfl⟩
 have c1:=fracInt_any 1 (by decide) (by decide)
 rw[←hone] at c1
 obtain⟨O1,O2,O3,O4,O5,hO,hO'⟩:∃ A1 A2 A3 A4 A5,fracV one=.agg #[.int .u64 A1,.string A2,.bool A3,.int .u64 A4,.string A5]∧fcs one=[.int .u64 A1,.string A2,.bool A3,.int .u64 A4,.string A5]:=⟨_,_,_,_,_,rfl,rfl⟩
 rw[hO] at c1
 have HO:Hid (fcs 1=[.int .u64 O1,.string O2,.bool O3,.int .u64 O4,.string O5]):=Lib.hid (by rw[←hO',hone];rfl)
 clear hn hlen hcells hcl hm9 hfc hM hone hO hO' hAw
 have hin:=In.self w
 go_enter Tryz.func65,Tryz.ntmps65
 go_upto_region 1 with fail
 ((obtain⟨X,hX⟩:∃ z,z=w.heap.size:=⟨_,rfl⟩);(have bX:=Bx.new_at w #[.int .i64 R,.int .i64 C,.slice (some ⟨b,off,none⟩) n cap] 37 hX);(have hXw:w.heap.size≤X:=by omega);(replace hin:=hin.alloc (.cells #[.int .i64 R,.int .i64 C,.slice (some ⟨b,off,none⟩) n cap] 37));(rw[←hX]);clear hX;(generalize w.alloc (.cells #[.int .i64 R,.int .i64 C,.slice (some ⟨b,off,none⟩) n cap] 37)=W1 at *))
 have HXW:=Lib.hid hXw
 clear hXw
 (have x0:=bX.c0;have x1:=bX.c1;have x2:=bX.c2;have xl:=bX.lt)
 have h:=In.self W1;have hc:=h.cell;have hf:=h.frozen;refine tfw 5 ?_;refine tset ?_;(repeat (first | refine tfs ?_ |((first |((with_reducible refine flow_pure0 (v:=?_) ?_ ?_ ?_ ?_);rotate_left 1;exact trr;exact trf)|((with_reducible refine flow_pureg (v:=?_) (j:=?_) (b:=?_) ?_ ?_ ?_ ?_);rotate_left 3;exact trr;(focus (intro u w1 hw hd;replace hd:=thn hd;simp[yielded,hd];done))));(focus (intro u w1 hw hd;replace hd:=thn hd;have hc':=hw.cell;go_simp;go_at_call 96;((with_reducible refine(c1 _).mono ?_));rintro e w'' ⟨rfl,hb⟩;refine⟨?_,hb⟩;exact rfl)))| fail))
 (with_reducible refine flow_box (t:=136) (zs:=#[.slice none 0 0,.int .i64 C,.slice none 0 0,.int .u64 O1,.string O2,.bool O3,.int .u64 O4,.string O5]) ?_ ?_ ?_ ?_);(focus (with_reducible rfl));(focus rfl);(focus (intro u w1 hw hd;replace hd:=thn hd;(try go_simp);(try exact rfl)))
 have hin0:=hin
 (try clear hc hf h);intro u w' h ha hdi;replace h:=tsz h.ins;replace ha:=tah ha;have hc:=h.cell;have hf:=h.frozen;have hb:=h.bel;clear hdi hc hf;clear x0 x1 x2 xl;replace hin:=hin.call hb;replace bX:=bX.call hb;clear hb h;rename World=>W2
 obtain⟨ha,p,hu,hp,bp⟩:=ha
 (try dsimp only)
 simp only[ha,hu]
 have hpw:w.heap.size≤p:=by have:=hin0.siz;omega
 clear ha hu
 have bg:BgAt W2 w.heap.size p 0 m C (.slice none 0 0) (fun _=>0) M:=⟨by rw[HO.out];exact bp,hpw,World.ownsRow_nil _ _ _ _,fun j h=>absurd h (Nat.not_lt_zero _),fun j k h=>absurd h (Nat.not_lt_zero _),fun j h=>absurd h (Nat.not_lt_zero _)⟩
 clear bp
 (have x0:=bX.c0;have x1:=bX.c1;have x2:=bX.c2;have xl:=bX.lt)
 go_wp2_with fail
 clear x0 x1 x2 xl
 go_loopw [18] (fun v18 wr=>∃ (i:Nat) (rv:Value) (f:Nat→Nat),i≤R∧v18=.int .i64 i∧In w.heap.size w wr∧Bx wr X 37 [.int .i64 R,.int .i64 C,.slice (some ⟨b,off,none⟩) n cap]∧BgAt wr w.heap.size p i m C rv f M) (fun v18 _=>R - (RowKit.intOf v18).toNat)
 case atStart=>exact⟨0,_,_,Nat.zero_le _,rfl,hin,bX,bg⟩
 case round=>
  clear hin bX bg
  obtain⟨i,rv,f,hi,rfl,hin,bX,bg⟩:=hrel
  by_cases hiR:i<R
  ·have iI:(i:Int)<R:=by omega
   have i0:(0:Int)≤i:=by omega
   obtain⟨ra,rc,rfl⟩:=bg.shape
   (have x0:=bX.c0;have x1:=bX.c1;have x2:=bX.c2;have xl:=bX.lt)
   go_upto_region 6 with fail
   clear x0 x1 x2 xl
   obtain⟨g,hg⟩:∃ g,g=wr.heap.size:=⟨_,rfl⟩
   have hfg:∀ j,j<i→¬ f j=g:=fun j hj=>by have:=(bg.row j hj).lt;omega
   have hgw:w.heap.size≤g:=by have:=hin.siz;omega
   have bv:VBx (wr.alloc (.cells fc.toArray 72)) g (List.replicate m 0):=by
    have:=Bx.new_at wr fc.toArray 72 hg
    show Bx _ g 72 (fcl _)
    rw[←HF.out];exact this
   have hXg:X<g:=by have:=bX.lt;omega
   have bX3:=bX.alloc (.cells fc.toArray 72)
   have hin3:=hin.alloc (.cells fc.toArray 72)
   have hal:Below wr.heap.size wr (wr.alloc (.cells fc.toArray 72)):=(Below.refl _ _).alloc (Nat.le_refl _) _
   have HG:=Lib.hid hg
   have HBG:=Lib.hid bg
   have HIN:=Lib.hid hin
   have HBX:=Lib.hid bX
   rw[←hg]
   clear hg hmk hmw bg hin bX
   generalize wr.alloc (.cells fc.toArray 72)=W3 at *
   obtain⟨d,hd⟩:∃ d,d=i*C:=⟨_,rfl⟩
   have hdn:d+C≤n:=by
    have:=Nat.mul_le_mul_right C (show i+1≤R by omega)
    rw[Nat.add_mul,Nat.one_mul] at this
    rw[hd,HL.out];exact this
   obtain⟨d2,hd2⟩:∃ d2,d2=d+C:=⟨_,rfl⟩
   have hw1:IntKind.i64.wrap ((i:Int)*C)=(d:Int):=by rw[hd,←Int.natCast_mul];exact IntWalk.i64_in _ (by rw[←hd];omega)
   have hw2:IntKind.i64.wrap ((i:Int)+1)=((i+1:Nat):Int):=IntWalk.i64_in _ (by omega)
   have hw3:IntKind.i64.wrap (((i+1:Nat):Int)*C)=(d2:Int):=by
    rw[←Int.natCast_mul,Nat.add_mul,Nat.one_mul,←hd,←hd2];exact IntWalk.i64_in _ (by omega)
   have hw4:IntKind.i64.wrap (((i:Int)+1)*C)=(d2:Int):=by rw[show((i:Int)+1)=((i+1:Nat):Int) by omega];exact hw3
   have hs1:(0:Int)≤d:=by omega
   have hs2:(d:Int)≤d2:=by omega
   have hs3:(d2:Int)≤cap:=by omega
   have hs4:¬ (d2:Int)<d:=by omega
   have HD:=Lib.hid hd
   have HD2:=Lib.hid hd2
   clear hd hd2
   have x0:=bX3.c0
   have x1:=bX3.c1
   have x2:=bX3.c2
   have xl:=bX3.lt
   have hd2C:d2 - d=C:=by have:=HD2.out;omega
   have hsrc:∀ j,j<(d2 - d)*5→W3.cell? ⟨b,off+d*5+j,none⟩=(fcl (rowQ qs d (d2 - d)))[j]?:=by
    rw[hd2C]
    refine rowQ_cells HN.out (fun j hj=>?_) hdn
    rw[hin3.cell b _ hbw];exact HC.out j hj
   have HSRC:=Lib.hid hsrc
   have HDC:=Lib.hid hd2C
   clear hsrc hd2C
   have hmC:C≤m:=by have:=HM.out;omega
   go_cut [] from 26 to 39 (fun wx=>VBx wx g (rowQ qs d C ++ List.replicate more 0)∧Below g W3 wx)
   case first=>
    have hend:∀ w4,VBx w4 g (rowQ qs d (d2 - d) ++ (List.replicate m 0).drop (d2 - d))→VBx w4 g (rowQ qs d C ++ List.replicate more 0):=fun w4 h=>by
     rw[HDC.out,List.drop_replicate,show m - C=more by have:=HM.out;omega] at h;exact h
    have HEND:=Lib.hid hend
    clear hend
    have hcd:¬ cap=d:=by have:=hC0 (by omega);omega
    go_wp2_with ((with_reducible show wpList _ _ _ _ _ _);refine wpList_copy_frac (o:=⟨some 39,_,_,_,_,_⟩) rfl (.tmp 26) (.tmp 38) rfl g m (d2 - d) m ?c2 ?ad ?hd ?hs (List.replicate m 0) (rowQ qs d (d2 - d)) bv (by simp[rowQ]) ?hx (by have:=HDC.out;omega) (by rw[List.length_replicate];exact Nat.le_refl _) ?_;(case hd=>rfl);(case hs=>rfl);(case hx=>(intro j hj;rw[Addr.add_lit];exact HSRC.out j hj));intro w4 hv4 hb4)
    go_wp2_with fail
    go_meet
    exact⟨HEND.out _ hv4,hb4⟩
   case rest=>
    rename World=>W4
    obtain⟨bv,hb4⟩:=hcut
    have hb5:Below wr.heap.size wr W4:=by
     rw[←HG.out] at hal ⊢
     exact hal.trans hb4
    have hCm:C+more=m:=HM.out.symm
    have bv5:VBx W4 g (bgV qs d C m (B i) 0):=by
     rw[←hCm,←bgV_zero];exact bv
    have HB5:=Lib.hid hb5
    clear x0 x1 x2 xl hin3 bX3 hal hb4 bv hb5
    go_wp2_with fail
    go_loopw [41] (fun v41 wq=>∃ k:Nat,k≤more∧v41=.int .i64 k∧Below wr.heap.size wr wq∧VBx wq g (bgV qs d C m (B i) k)) (fun v41 _=>more - (RowKit.intOf v41).toNat)
    case atStart=>exact⟨0,Nat.zero_le _,rfl,HB5.out,bv5⟩
    case round=>
     rename World=>wq
     clear bv5
     obtain⟨k,hk,rfl,hbq,bv⟩:=hrel
     by_cases hkm:k<more
     ·have kI:(k:Int)<more:=by omega
      have k0:(0:Int)≤k:=by omega
      have hkw:IntKind.i64.wrap ((k:Int)+1)=((k+1:Nat):Int):=IntWalk.i64_in _ (by omega)
      obtain⟨t,ht⟩:∃ t,t=C+k:=⟨_,rfl⟩
      have hw5:IntKind.i64.wrap ((C:Int)+k)=(t:Int):=by rw[show((C:Int)+k)=(t:Int) by omega];exact IntWalk.i64_in _ (by omega)
      have tI:(t:Int)<m:=by omega
      have t0:(0:Int)≤t:=by omega
      have hlt:t<(bgV qs d C m (B i) k).length:=by rw[bgV_length];omega
      have bXq:=HBX.out.call hbq
      have hinq:=HIN.out.call hbq
      obtain⟨q,hq⟩:∃ q,q=B i k:=⟨_,rfl⟩
      have hcl:=fun W h=>HCL.out i k W hiR hkm h
      rw[←hq] at hcl
      obtain⟨A1,A2,A3,A4,A5,hA,hA'⟩:∃ A1 A2 A3 A4 A5,fracV q=.agg #[.int .u64 A1,.string A2,.bool A3,.int .u64 A4,.string A5]∧fcs q=[.int .u64 A1,.string A2,.bool A3,.int .u64 A4,.string A5]:=⟨_,_,_,_,_,rfl,rfl⟩
      rw[hA] at hcl
      have HA:=Lib.hid hA'
      have HQ:=Lib.hid hq
      have HT:=Lib.hid ht
      clear hq hA hA' ht
      go_upto_region 10 with fail
      (have x0:=bXq.c0;have x1:=bXq.c1;have x2:=bXq.c2;have xl:=bXq.lt)
      have hgl:=bv.lt
      have h:=In.self wq;have hc:=h.cell;have hf:=h.frozen;refine tfw 10 ?_;refine tset ?_;(repeat (first | refine tfs ?_))
      ((with_reducible refine flow_pure0 (v:=?_) ?_ ?_ ?_ ?_);rotate_left 1;(focus (with_reducible rfl));(focus rfl);(focus (intro u w1 hw hd;replace hd:=thn hd;have hc':=hw.cell;go_simp;((with_reducible refine(hcl w1 (hinq.call hw.ins.bel)).mono ?_));rintro e w'' ⟨rfl,hb⟩;refine⟨?_,hb⟩;exact rfl)))
      (repeat (first | refine tfs ?_))
      (try clear hc hf h);intro u w' h ha hdi;replace h:=tsz h.ins;replace ha:=tah ha;have hc:=h.cell;have hf:=h.frozen
      (try obtain ha:=ha);(try dsimp only);simp only[ha];clear ha hdi
      have bv2:=bv.call h.bel
      obtain⟨_,_,_,_,_,_,c0,c1,c2,c3,c4,f0,f1,f2,f3,f4⟩:=VBx.cells bv2 hlt
      have hgl2:=bv2.lt
      have hs:=VBx.setA bv2 t q hlt HA.out
      rw[show(bgV qs d C m (B i) k).set t q=bgV qs d C m (B i) (k+1) by rw[HQ.out,HT.out];exact bgV_set _ _ _ _ _ _] at hs
      have H1:=Lib.hid hs
      have H2:=Lib.hid ((hbq.trans (h.bel.mono hbq.size)).grown (gr_putA w' g t (.int .u64 A1) (.string A2) (.bool A3) (.int .u64 A4) (.string A5)) (by have:=hbq.size;have:=h.siz;omega) (fun j hj=>by cases hj;rw[←HG.out];exact Nat.le_refl _))
      clear hs hc hf h bv2 bv hbq hinq bXq x0 x1 x2 xl hgl hcl
      go_wp2_with fail
      exact⟨⟨k+1,by omega,by go_num,H2.out,H1.out⟩,by simp[RowKit.intOf];omega⟩
     ·obtain rfl:k=more:=by omega
      have kI:¬ (k:Int)<k:=by omega
      have hbg:=HBG.out.call hbq
      obtain⟨vs,hvs⟩:∃ vs:List Value,vs=(List.range i).map fun j=>.slice (some ⟨f j,0,none⟩) m m:=⟨_,rfl⟩
      have hown:wq.ownsRow w.heap.size 31 1 (.slice ra i rc) i vs:=by rw[hvs];exact hbg.own
      have hvl:VBx wq g (vl m (M i)):=by
       have e:=HM.out
       have h9:=bv
       rw[e,bgV_full] at h9
       rw[HMM.out,e]
       show VBx wq g (vl (C+k) fun c=>if c<C then qs.getD (i*C+c) 0 else B i (c - C))
       rw[←HD.out];exact h9
      have hbox:=hbg.box
      rw[HO.out] at hbox
      have HVS:=Lib.hid hvs
      have HOWN:=Lib.hid hown
      have HBQ:=Lib.hid hbq
      have HBG2:=Lib.hid hbg
      have HVL:=Lib.hid hvl
      have hvlt:=hown.lt
      have HVLT:=Lib.hid hvlt
      have b0:=hbox.c0;have b1:=hbox.c1;have b2:=hbox.c2;have b3:=hbox.c3;have b4:=hbox.c4;have b5:=hbox.c5;have b6:=hbox.c6;have b7:=hbox.c7;have bl:=hbox.lt
      have hglq:=bv.lt
      clear hbq hbg hvs hown hvl hbox bv hvlt
      go_wp2_with (at_builtin;refine wpList_append_own _ rfl (.tmp 59) (.tmp 61) 134 rfl w.heap.size 31 j0 (.slice none 0 0) 1 24 Tryz.underlying134 hj0 hj1 hj2 hj3 rfl (by decide) (.slice ra i rc) i vs rfl (HOWN.out.alloc _) ⟨wq.heap.size,0,none⟩ 1 1 [.slice (some ⟨g,0,none⟩) m m] rfl rfl ?e1 ?e2 ?e3 ?e4 ?e5 ?_)
      case e2=>first | rfl | trivial
      case e3=>simp only[maxLen];omega
      case e4=>have:=HBQ.out.size;omega
      case e5=>omega
      intro v' w3 hown3 hgr _
      have hal2:Below wq.heap.size wq (wq.alloc (.cells #[.slice (some ⟨g,0,none⟩) m m] 31)):=(Below.refl _ _).alloc (Nat.le_refl _) _
      have bg4:=HBG2.out.call hal2
      have bv4:=HVL.out.call hal2
      rw[HVS.out] at hown3
      have hsn:=bg4.snoc bv4 hgw hfg hown3 hgr
      obtain⟨g9,c9,rfl⟩:∃ g9 c9,v'=.slice (some ⟨g9,0,none⟩) (i+1) c9:=by
       rcases hown3.2 with ⟨_,hn⟩|⟨g9,c9,cur,h9,_⟩
       ·omega
       ·exact⟨g9,c9,h9⟩
      have hpne:∀ b T cs,Bx (wq.alloc (.cells #[.slice (some ⟨g,0,none⟩) m m] 31)) b T cs→T≠31→Bx w3 b T cs:=fun b T cs hb hT=>hb.grown hgr fun e=>ownsRow_ne bg4.own hb (Ne.symm hT) e.symm
      have hbox3:=hpne _ _ _ bg4.box (by decide)
      have bX4:=hpne _ _ _ ((HBX.out.call HBQ.out).call hal2) (by decide)
      rw[HO.out] at hbox3
      have hin4:In w.heap.size w w3:=by
       have h1:=(HIN.out.call HBQ.out).call hal2
       exact⟨h1.bel.grown hgr h1.siz (fun k h=>by have:=(HVLT.out k h).1;omega),Nat.le_trans h1.siz hgr.size⟩
      have K1:=Lib.hid hsn
      have K2:=Lib.hid (bX4.other (a:=⟨p,0,none⟩) (bX4.ne_type hbox3 (by decide)|> fun h e=>h e.symm) (.slice (some ⟨g9,0,none⟩) (i+1) c9))
      have K3:=Lib.hid (hin4.setCell (p:=⟨p,0,none⟩) hpw (.slice (some ⟨g9,0,none⟩) (i+1) c9))
      have p0:=hbox3.c0
      have pf:=hbox3.frozen 0
      have pl:=hbox3.lt
      clear hal2 bg4 bv4 hsn hpne hbox3 bX4 hin4 hown3 hgr b0 b1 b2 b3 b4 b5 b6 b7 bl hglq
      go_wp2_with fail
      exact⟨⟨i+1,_,_,by omega,by go_num,K3.out,K2.out,K1.out⟩,by simp[RowKit.intOf];omega⟩
  ·obtain rfl:i=R:=by omega
   have iI:¬ (i:Int)<i:=by omega
   obtain⟨ra,rc,rfl⟩:=bg.shape
   have H1:=Lib.hid bg.el
   have H2:=Lib.hid hin
   clear bg hin bX
   go_wp2_with fail
   go_ret
   exact⟨p,ra,rc,f,rfl,H2.out,H1.out⟩
end Gus
end
section
namespace Gus
open Go Go.RowKit Go.Proofs
theorem pivF_eq {M:Mx} {k:Nat}:∀ {d t i:Nat},t≤i→i<t+d→(∀ r,t≤r→r<i→M r k=0)→M i k≠0→pivF M k d t=some i
 | 0,t,i,h1,h2,_,_=>by omega
 | d+1,t,i,h1,h2,h3,h4=>by
  unfold pivF
  by_cases e:t=i
  ·subst e;rw[if_neg h4]
  ·rw[if_pos (h3 t (Nat.le_refl _) (by omega))]
   exact pivF_eq (by omega) (by omega) (fun r hr hr2=>h3 r (by omega) hr2) h4
theorem pivF_zero {M:Mx} {k:Nat}:∀ {d t:Nat},(∀ r,t≤r→r<t+d→M r k=0)→pivF M k d t=none
 | 0,_,_=>rfl
 | d+1,t,h=>by
  unfold pivF
  rw[if_pos (h t (Nat.le_refl _) (by omega))]
  exact pivF_zero fun r h1 h2=>h r (by omega) (by omega)
theorem elStep_none {R k:Nat} {s:El} (hl:s.piv.length≤R) (h:∀ r,s.piv.length≤r→r<R→s.M r k=0):elStep R s k=s:=by
 unfold elStep
 rw[pivF_zero fun r h1 h2=>h r h1 (by omega)]
theorem elStep_some {R k i:Nat} {s:El} (h1:s.piv.length≤i) (h2:i<R) (h3:∀ r,s.piv.length≤r→r<i→s.M r k=0) (h4:s.M i k≠0) :
  elStep R s k=⟨rowClear (rowSwap s.M i s.piv.length) s.piv.length k,s.piv ++ [k],(if i=s.piv.length then s.det else -s.det)*rowSwap s.M i s.piv.length s.piv.length k⟩:=by
 unfold elStep
 rw[pivF_eq h1 (by omega) h3 h4]
theorem rowSwap_top {M:Mx} {i t k:Nat}:rowSwap M i t t k=M i k:=by
 unfold rowSwap
 by_cases h:t=i
 ·rw[if_pos h,h]
 ·rw[if_neg h,if_pos rfl]
theorem swap_szk {M:Mx} {i t R m j:Nat} (hi:i<R) (ht:t<R) (h:∀ r c,r<R→c<m→SzK j (M r c)) (r c:Nat) (hr:r<R) (hc:c<m):SzK j (rowSwap M i t r c):=by
 unfold rowSwap
 split
 ·exact h t c ht hc
 ·split
  ·exact h i c hi hc
  ·exact h r c hr hc
theorem clear_szk {M:Mx} {t k R m j:Nat} (ht:t<R) (hk:k<m) (hj:1≤j) (h:∀ r c,r<R→c<m→SzK j (M r c)) (r c:Nat) (hr:r<R) (hc:c<m):SzK (j*5) (rowClear M t k r c):=by
 have h1:=(h t c ht hc).div (h t k ht hk)
 unfold rowClear
 split
 ·exact h1.mono (by omega)
 ·rw[Rat.sub_eq_add_neg]
  exact((h r c hr hc).add ((h r k hr hk).mul h1).neg).mono (by omega)
theorem elim_szk {R m z:Nat} {M:Mx} (hz:1≤z) (h:∀ r c,r<R→c<m→SzK z (M r c)):∀ k,k≤m→(∀ r c,r<R→c<m→SzK (z*5 ^ k) ((elim R M k).M r c))∧SzK (z*5 ^ k) (elim R M k).det
 | 0,_=>⟨fun r c hr hc=>by rw[Nat.pow_zero,Nat.mul_one];exact h r c hr hc,by
  rw[Nat.pow_zero,Nat.mul_one]
  have:SzK 1 (elim R M 0).det:=by show SzK 1 1;constructor <;> decide
  exact this.mono hz⟩
 | k+1,hk=>by
  obtain⟨h1,h2⟩:=elim_szk hz h k (by omega)
  have hr:=elim_red R m M k
  have hj:1≤z*5 ^ k:=Nat.mul_pos hz (Nat.pow_pos (by decide))
  have e:z*5 ^ (k+1)=z*5 ^ k*5:=by rw[Nat.pow_succ,Nat.mul_assoc]
  rw[e]
  show(∀ r c,r<R→c<m→SzK (z*5 ^ k*5) ((elStep R (elim R M k) k).M r c))∧SzK (z*5 ^ k*5) (elStep R (elim R M k) k).det
  generalize elim R M k=s at *
  generalize z*5 ^ k=j at *
  unfold elStep
  cases hp:pivF s.M k (R - s.piv.length) s.piv.length with
  | none=>exact⟨fun r c hr hc=>(h1 r c hr hc).mono (by omega),h2.mono (by omega)⟩
  | some i=>
   obtain⟨p1,p2,p3,_⟩:=pivF_some hp
   have hl:=hr.len
   have ht:s.piv.length<R:=by omega
   have hi:i<R:=by omega
   refine⟨clear_szk ht (by omega) hj (swap_szk hi ht h1), ?_⟩
   have hs:=swap_szk (t:=s.piv.length) hi ht h1 s.piv.length k ht (by omega)
   show SzK (j*5) ((if i=s.piv.length then s.det else -s.det)*rowSwap s.M i s.piv.length s.piv.length k)
   split
   ·exact(h2.mul hs).mono (by omega)
   ·exact(h2.neg.mul hs).mono (by omega)
theorem ElAt.pvShape {w:World} {lo p R m cols rc:Nat} {ra:Option Addr} {pv:Value} {f:Nat→Nat} {s:El} (h:ElAt w lo p R m cols ra rc pv f s):∃ a c,pv=.slice a s.piv.length c:=by
 rcases h.piv.2 with ⟨rfl,hn⟩|⟨g,c,_,rfl,_⟩
 ·exact⟨none,0,by rw[hn]⟩
 ·exact⟨_,_,rfl⟩
theorem ElAt.snoc {w w':World} {lo p R m cols rc k:Nat} {ra:Option Addr} {pv pv':Value} {f:Nat→Nat} {s:El} (h:ElAt w lo p R m cols ra rc pv f s)
  (hown:w'.ownsRow lo 3 1 pv' (s.piv.length+1) ((s.piv.map fun k=>.int .i64 (k:Nat)) ++ [.int .i64 (k:Nat)])) (hgr:w.grownBy w' pv.ownBlock) :
  ElAt (w'.setCell ⟨p,2,none⟩ pv') lo p R m cols ra rc pv' f ⟨s.M,s.piv ++ [k],s.det⟩∧Bx w' p 136 (.slice ra R rc :: .int .i64 cols :: pv :: fcs s.det):=by
 have hkeep:∀ b T cs,Bx w b T cs→T≠3→Bx w' b T cs:=fun b T cs hb hT=>hb.grown hgr fun e=>ownsRow_ne h.piv hb (Ne.symm hT) e.symm
 have hbox':=hkeep _ _ _ h.box (by decide)
 have hgs:=gr_cell w' ⟨p,2,none⟩ pv'
 refine⟨⟨hbox'.set 2 pv',h.plo,h.rcap, ?_, ?_⟩,hbox'⟩
 ·exact(h.rw.keep fun b T cs hb hT=>hkeep b T cs hb (by rcases hT with rfl | rfl <;> decide)).other hbox' (by decide) (by decide) hgs
 ·have e:((s.piv ++ [k]).map fun k=>(.int .i64 (k:Nat):Value))=(s.piv.map fun k=>.int .i64 (k:Nat)) ++ [.int .i64 (k:Nat)]:=by simp
  show World.ownsRow _ lo 3 1 pv' (s.piv ++ [k]).length ((s.piv ++ [k]).map fun k=>.int .i64 (k:Nat))
  rw[e,List.length_append]
  exact ownsRow_grown hown hbox' (by decide) hgs
end Gus
end
