/- Proved here: parts of the proof: KPdn KSbl KSsc KSmu KSad KSap KLvc KDlw KIva KRfu KRwa. Conditions: those that each theorem states. -/
import Derived.Test.YthblojaeoiemmaaGreatDoorKSumQ
section
namespace Gus
open Go Go.RowKit Go.Proofs
theorem sumRow_append (qs:List Rat) (i:Nat):∀ (A B:List (Nat×Nat×Rat)),sumRow qs (A ++ B) i=sumRow qs A i+sumRow qs B i
 | [],B=>by simp[sumRow,Rat.zero_add]
 | x :: A,B=>by rw[List.cons_append,sumRow,sumRow,sumRow_append qs i A B,Rat.add_assoc]
theorem sumRow_zero {qs:List Rat} {i:Nat}:∀ {L:List (Nat×Nat×Rat)},(∀ x∈L,x.1≠i)→sumRow qs L i=0
 | [],_=>rfl
 | x :: L,h=>by rw[sumRow,if_neg (h x (.head _)),sumRow_zero (fun y hy=>h y (List.mem_cons_of_mem _ hy)),Rat.zero_add]
theorem rowOf_succ (g:Nat→Rat) (n:Nat):rowOf g (n+1)=rowOf g n ++ if g n=0 then [] else [(n,g n)]:=by
 unfold rowOf
 rw[List.range_succ,List.filter_append,List.map_append]
 congr 1
 by_cases h:g n=0 <;> simp[h]
theorem sumRow_row (qs:List Rat) (g:Nat→Rat) (i:Nat):∀ n,sumRow qs ((rowOf g n).map fun e=>(i,e.1,e.2)) i=sumTo (fun k=>g k*qs.getD k 0) n
 | 0=>rfl
 | n+1=>by
  rw[rowOf_succ,List.map_append,sumRow_append,sumRow_row qs g i n,sumTo]
  congr 1
  by_cases h:g n=0
  ·rw[if_pos h,h,Rat.zero_mul];rfl
  ·rw[if_neg h]
   simp only[List.map_cons,List.map_nil,sumRow,if_true,Rat.add_zero]
theorem items_succ (r c:Nat) (f:Nat→Nat→Rat):items (r+1) c f=items r c f ++ (rowOf (f r) c).map fun e=>(r,e.1,e.2):=by
 unfold items
 rw[mrows_succ,itemsF_append,mrows_length,Nat.zero_add]
 simp only[itemsF,List.append_nil]
theorem sumRow_items (qs:List Rat) (c:Nat) (f:Nat→Nat→Rat) {i:Nat}:∀ r,i<r→sumRow qs (items r c f) i=sumTo (fun k=>f i k*qs.getD k 0) c
 | 0,h=>absurd h (Nat.not_lt_zero _)
 | r+1,h=>by
  rw[items_succ,sumRow_append]
  by_cases hi:i=r
  ·subst hi
   rw[sumRow_zero (L:=items i c f) (fun⟨a,b,q⟩ hx e=>by
    have:=(mem_items.1 hx).1
    simp only at e;omega),Rat.zero_add,sumRow_row]
  ·rw[sumRow_items qs c f r (by omega),sumRow_zero (L:=(rowOf (f r) c).map _) (fun x hx e=>by
    obtain⟨y,_,rfl⟩:=List.mem_map.1 hx
    exact hi e.symm),Rat.add_zero]
theorem app_eq (r c:Nat) (xs ps:List Rat):appL r c (mvals c xs) ps=mappL r c xs ps:=by
 unfold appL mappL
 refine List.map_congr_left fun i hi=>?_
 rw[sumRow_items ps c _ r (List.mem_range.1 hi),dotV]
 exact sumTo_congr c fun k hk=>by rw[rowV_getD xs i hk]
theorem mvals_dense {r c:Nat} (f:Nat→Nat→Rat) {i k:Nat} (hi:i<r) (hk:k<c):mvals c (dense r c f) i k=f i k:=by
 have h:i*c+k<r*c:=by
  have:=Nat.mul_le_mul_right c (Nat.succ_le_of_lt hi)
  rw[Nat.succ_mul] at this;omega
 rw[mvals,dense,List.getD_eq_getElem?_getD,List.getElem?_map,List.getElem?_range h]
 show f ((i*c+k) / c) ((i*c+k) % c)=_
 rw[(pos_of hk).1,(pos_of hk).2]
end Gus
end
section
namespace Gus
open Go Go.RowKit Go.Proofs
theorem SzK_foldAs {j:Nat}:∀ (L:List (Nat×Nat×Rat)) {s:Nat} {f:Nat→Nat→Rat},(∀ a c,SzK s (f a c))→(∀ x∈L,SzK j x.2.2)→∀ a c,SzK (s+L.length*(j+1)) (foldA f L a c)
 | [],s,f,hf,_,a,c=>(hf a c).mono (by simp)
 | x :: L,s,f,hf,hx,a,c=>by
  refine(SzK_foldAs L (f:=addF f x) (SzK_foldA hf (hx _ (.head _))) (fun y hy=>hx y (List.mem_cons_of_mem _ hy)) a c).mono ?_
  rw[List.length_cons,Nat.succ_mul];omega
end Gus
end
section
namespace Gus
open Go Go.RowKit Go.Proofs
theorem goes_ok {w:World} {v:Value} {r c:Nat} {f:Nat→Nat→Rat} (hS:SpM w v r c f) (hr:r≤2048) (hc:c≤2048) (a:Option Addr) (cap:Nat) (ns:List Nat) (hl:LensAt w a ns) (hn:ns.length≤4096) (hs:∀ x∈ns,x≤2048) :
  Calls Tryz.prog 71 #[v,.slice a ns.length cap] w fun e w'=>e=.returned (.int .i64 0)∧Below w.heap.size w w':=by
 have hgo:=goes_any w v r c _ hS.g (by rw[List.length_map,mrows_length];omega) (fun i=>by
  by_cases hi:i<r
  ·have e:((mrows r c f).map fun es=>es.map cI).getD i []=((mrows r c f).getD i []).map cI:=by
    simp only[List.getD_eq_getElem?_getD,List.getElem?_map,List.getElem?_eq_getElem (show i<(mrows r c f).length by rw[mrows_length];exact hi)];rfl
   rw[e,List.length_map]
   exact Nat.le_trans (mrows_row r c f i) (by omega)
  ·rw[List.getD_eq_getElem?_getD,List.getElem?_eq_none (by rw[List.length_map,mrows_length];omega)];exact Nat.zero_le _) a cap ns hl hn
 have hg0:goesS r c ((mrows r c f).map fun es=>es.map cI) ns=0:=by
  unfold goesS
  rw[checkS_valid hr hc,if_neg (by decide),if_pos]
  rw[List.all_eq_true];intro x hx;exact decide_eq_true (hs x hx)
 rw[hg0] at hgo
 exact hgo
set_option maxRecDepth 100000 in
set_option maxHeartbeats 2000000 in
theorem sapp_any {j l:Nat} (w:World) (x y:Value) (r c m:Nat) (qs ps:List Rat) (hx:SpM w x r c (mvals c qs)) (hy:VecAt w y ps) (hl:ps.length=m) (hr:r≤2048) (hc:c≤2048) (hm:m≤2048) (hq:∀ i,SzK j (qs.getD i 0)) (hp:∀ i,SzK l (ps.getD i 0)) (hcap:r*c*(j+l+1)+1<17592186044416) :
  Calls Tryz.prog 28 #[x,y] w fun e w'=>(∃ d e',e=.returned (.tuple #[d,.int .i64 e'])∧VRes (!decide (m=c)) (mappL r c qs ps) w' d e')∧Below w.heap.size w w':=by
 by_cases hmc:m=c
 ·have h1:=apply_ok (j:=j) (l:=l) w x y r c (mvals c qs) ps hx hy hr hc (hl.trans hmc) (fun i k=>hq _) hp hcap
  refine h1.mono ?_
  rintro e w' ⟨g,rfl,hg,hv,hb⟩
  rw[app_eq] at hv
  exact⟨⟨_,_,rfl,.inr ⟨by simp[hmc],rfl,hv.at r (by simp[mappL]) r⟩⟩,hb⟩
 ·have hgo:=fun W (hb:Below w.heap.size w W) a cap (h:LensAt W a [m])=>goes_ok (hx.call hb) hr hc a cap [m] h (by simp) (fun z hz=>by rw[List.mem_singleton.1 hz];exact hm)
  simp only[List.length_singleton] at hgo
  obtain⟨a,cap,rfl⟩:=hx.shape
  obtain⟨va,vc,rfl⟩:=hy.shape
  rw[hl]
  have e1:((m:Int) != c)=true:=by
   have:¬ (m:Int)=c:=by omega
   simpa using this
  have HB:Hid ((!decide (m=c))=true):=Lib.hid (by simp[hmc])
  obtain⟨X,hX⟩:∃ X,X=w.heap.size:=⟨_,rfl⟩
  have HX:=Lib.hid hX
  clear hx hy hl hq hp hcap hmc
  go_enter Tryz.func28,Tryz.ntmps28
  go_wp2_with fail
  have bx:=((Bx.new_at w #[.int .i64 r,.int .i64 c,.slice a r cap] 27 hX).alloc (.cells #[.slice va m vc] 32)).alloc (.cells #[.slice va m vc] 32)
  have bp:=(Bx.new_at (w.alloc (.cells #[.int .i64 r,.int .i64 c,.slice a r cap] 27)) #[.slice va m vc] 32 (n:=X+1) (by rw[World.size_alloc,hX])).alloc (.cells #[.slice va m vc] 32)
  have bl:=Bx.new_at ((w.alloc (.cells #[.int .i64 r,.int .i64 c,.slice a r cap] 27)).alloc (.cells #[.slice va m vc] 32)) #[.slice va m vc] 32 (n:=X+1+1) (by rw[World.size_alloc,World.size_alloc,hX])
  have hin:In X w (((w.alloc (.cells #[.int .i64 r,.int .i64 c,.slice a r cap] 27)).alloc (.cells #[.slice va m vc] 32)).alloc (.cells #[.slice va m vc] 32)):=by rw[hX];exact(((In.self w).alloc _).alloc _).alloc _
  rw[←hX]
  generalize ((w.alloc (.cells #[.int .i64 r,.int .i64 c,.slice a r cap] 27)).alloc (.cells #[.slice va m vc] 32)).alloc (.cells #[.slice va m vc] 32)=W1 at *
  ((with_reducible refine(hgo _ ?_ _ _ ?_).mono ?_))
  ·rw[←hX];exact hin.bel
  ·intro i hi
   have h0:i=0:=by simpa using hi
   subst h0
   exact⟨X+1+1,0,_,_,rfl,bl.lt,bl.c0⟩
  rintro e w2 ⟨rfl,hb2⟩
  have bx2:=bx.call hb2
  have bp2:=bp.call hb2
  have hin2:=hin.call hb2
  have x0:=bx2.c0
  have x1:=bx2.c1
  have p0:=bp2.c0
  have hbx:=bx2.lt
  have hbp:=bp2.lt
  clear hb2 bx bp bl hin hgo hX bx2 bp2
  go_wp2_with fail
  go_ret2
  exact⟨⟨_,_,rfl,.inl ⟨HB.out,rfl,rfl⟩⟩,by rw[←HX.out];exact hin2.bel⟩
end Gus
end
section
namespace Gus
open Go Go.RowKit Go.Proofs
theorem mEl_beyond (qs:List (Int×Int)) {i:Nat} (h:qs.length≤i):mEl qs i=0:=by
 unfold mEl
 rw[List.getD_eq_getElem?_getD,List.getElem?_eq_none h]
 show((0:Int):Rat) / _=0
 rw[Rat.div_def]
 exact Rat.zero_mul _
theorem pv_stop (qs:List (Int×Int)) (n k:Nat) (h:qs.length≤k):pv (mEl qs) n k=mList qs n:=by
 unfold pv mList
 refine List.map_congr_left fun i _=>?_
 by_cases hi:i<k
 ·rw[if_pos hi]
 ·rw[if_neg hi,mEl_beyond qs (by omega)]
set_option maxRecDepth 100000 in
set_option maxHeartbeats 4000000 in
theorem lvec_any (w:World) (a:Option Addr) (cap n:Nat) (qs:List (Int×Int)) (hq:QAt w a qs) (hok:QOk qs) (hn:n≤2048) (_hl:qs.length≤1000) :
  Calls Tryz.prog 12 #[.slice a qs.length cap,.int .i64 n] w fun e w'=>(∃ d,e=.returned d∧VecAt w' d (mList qs n))∧Below w.heap.size w w':=by
 have hmk:=mk_vec n (by omega)
 obtain⟨fc,hfc⟩:∃ fc,fc=fcl (List.replicate n 0):=⟨_,rfl⟩
 rw[←hfc] at hmk
 have HF:=Lib.hid hfc
 obtain⟨L,hL⟩:∃ L,L=qs.length:=⟨_,rfl⟩
 rw[←hL]
 have HL:=Lib.hid hL
 obtain⟨g,hg⟩:∃ g,g=w.heap.size:=⟨_,rfl⟩
 have HG:=Lib.hid hg
 have HQ:=Lib.hid hq
 have bv:VBx (w.alloc (.cells fc.toArray 72)) g (pv (mEl qs) n 0):=by
  have:=Bx.new_at w fc.toArray 72 hg
  show Bx _ g 72 (fcl _)
  rw[pv_zero,←HF.out];exact this
 have hin:=(In.self w).alloc (.cells fc.toArray 72)
 clear hL hfc hq
 go_enter Tryz.func12,Tryz.ntmps12
 go_upto_region 2 with fail
 rw[←hg]
 clear hg hmk
 generalize w.alloc (.cells fc.toArray 72)=W1 at *
 go_wp2_with fail
 go_loopw [6] (fun v6 wr=>∃ k:Nat,k≤n∧v6=.int .i64 k∧In w.heap.size w wr∧VBx wr g (pv (mEl qs) n k)) (fun v6 _=>n - (RowKit.intOf v6).toNat)
 case atStart=>exact⟨0,Nat.zero_le _,rfl,hin,bv⟩
 case round=>
  clear hin bv
  obtain⟨k,hk,rfl,hin,bv⟩:=hrel
  by_cases hkn:k<n
  ·have hkI:(k:Int)<n:=by omega
   by_cases hkl:k<L
   ·have hkJ:(k:Int)<L:=by omega
    have hk0:(0:Int)≤k:=by omega
    obtain⟨N,hN⟩:∃ N,N=(qs.getD k (0,0)).1:=⟨_,rfl⟩
    obtain⟨D,hD⟩:∃ D,D=(qs.getD k (0,0)).2:=⟨_,rfl⟩
    have hb4:-9223372036854775808≤N∧N<9223372036854775808∧0≤D∧D<4294967296:=by
     rw[hN,hD,List.getD_eq_getElem?_getD,List.getElem?_eq_getElem (by rw[←HL.out];exact hkl)]
     exact hok _ (List.getElem_mem _)
    have hmE:mEl qs k=qOf N D:=by rw[hN,hD];rfl
    have hcq:=qOf_any N D hb4.1 hb4.2.1 hb4.2.2.1 hb4.2.2.2
    rw[←hmE] at hcq
    obtain⟨q,hqq⟩:∃ q,q=mEl qs k:=⟨_,rfl⟩
    rw[←hqq] at hcq
    have HE:=Lib.hid hqq
    obtain⟨b,off,rfl,hb,hc0,hc1⟩:=HQ.out k (by rw[←HL.out];exact hkl)
    rw[←hN,Nat.mul_comm 2 k] at hc0
    rw[←hD,Nat.mul_comm 2 k] at hc1
    rw[←hin.cell b _ hb] at hc0 hc1
    have hbw:b<wr.heap.size:=by have:=hin.siz;omega
    clear hN hD hb4 hmE hqq
    go_wp2_with fail
    ((with_reducible refine(hcq _).mono ?_))
    rintro e w3 ⟨rfl,hb⟩
    have hin3:=hin.call hb
    have bv3:=bv.call hb
    have hlt:k<(pv (mEl qs) n k).length:=by rw[pv_length];exact hkn
    obtain⟨_,_,_,_,_,_,c0,c1,c2,c3,c4,f0,f1,f2,f3,f4⟩:=VBx.cells bv3 hlt
    have hgl:=bv3.lt
    have hs:=VBx.set bv3 k q hlt
    rw[show(pv (mEl qs) n k).set k q=pv (mEl qs) n (k+1) by rw[HE.out];exact pv_set _ _ _] at hs
    have H1:=Lib.hid hs
    have H2:=Lib.hid (hin3.put5 (g:=g) (by have:=HG.out;omega) k q)
    have hkw:IntKind.i64.wrap ((k:Int)+1)=((k+1:Nat):Int):=IntWalk.i64_in _ (by omega)
    clear hs hin3 bv3 hin bv hb hcq hc0 hc1 hbw
    go_wp2_with fail
    exact⟨⟨k+1,by omega,by go_num,H2.out,H1.out⟩,by simp[RowKit.intOf];omega⟩
   ·have hkJ:¬ (k:Int)<L:=by omega
    rw[pv_stop qs n k (by rw[←HL.out];omega)] at bv
    have hv:VecAt wr (.slice (some ⟨g,0,none⟩) n n) (mList qs n):=VBx.at bv n (mList_length qs n).symm n
    have H1:=Lib.hid hv
    have H2:=Lib.hid hin
    clear bv hin hv
    go_wp2_with fail
    exact bodyPost_ret (v:=.slice (some ⟨g,0,none⟩) n n) (by simp[results,Tryz.results12,go_sem]) rfl ⟨⟨_,rfl,H1.out⟩,H2.out.bel⟩
  ·obtain rfl:k=n:=by omega
   have hkI:¬ (k:Int)<k:=by omega
   rw[pv_full] at bv
   have hv:VecAt wr (.slice (some ⟨g,0,none⟩) k k) (mList qs k):=VBx.at bv k (mList_length qs k).symm k
   have H1:=Lib.hid hv
   have H2:=Lib.hid hin
   clear bv hin hv
   go_wp2_with fail
   exact bodyPost_ret (v:=.slice (some ⟨g,0,none⟩) k k) (by simp[results,Tryz.results12,go_sem]) rfl ⟨⟨_,rfl,H1.out⟩,H2.out.bel⟩
end Gus
end
section
namespace Gus
open Go Go.RowKit Go.Proofs
theorem SpN.apart {w:World} {lo S:Nat} {v u:Value} {r c:Nat} {f:Nat→Nat→Rat} {cs:List Value} (h:SpN w lo v r c f) (hS:Bx w S 27 cs) (j:Nat):SpN (w.setCell ⟨S,j,none⟩ u) lo v r c f:=by
 obtain⟨R,vs,rfl,h1,h2,h3⟩:=h
 have hRS:R≠S:=fun e=>by
  subst e
  have h4:w.heap[R]?=some (.cells vs.toArray 96 (0,0)):=h2
  have h5:w.heap[R]?=some (.cells cs.toArray 27 (0,0)):=hS
  rw[h4] at h5
  injection h5 with h6
  injection h6 with _ h7
  exact absurd h7 (by decide)
 refine⟨R,vs,rfl,h1,h2.other (a:=⟨S,j,none⟩) (by simp;omega) u,h3.of_block fun i k hi hk=>heap_setCell_other w ⟨S,j,none⟩ k u ?_⟩
 show k≠S
 rintro rfl
 rcases h3.row i hi with ⟨h4,_⟩|⟨g,cap,cur,h4,_,h5,_⟩
 ·rw[h4] at hk;simp[Value.ownBlock] at hk
 ·rw[h4] at hk
  simp[Value.ownBlock] at hk
  subst hk
  have h6:w.heap[g]?=some (.cells cs.toArray 27 (0,0)):=hS
  rw[h6] at h5
  injection h5 with h7
  injection h7 with _ h8
  exact absurd h8 (by decide)
theorem SpN.put3 {w:World} {v x y z:Value} {r c lo S:Nat} {f:Nat→Nat→Rat} {cs:List Value} (h:SpN w lo v r c f) (hS:Bx w S 27 cs) :
  SpN (((w.setCell ⟨S,0,none⟩ x).setCell ⟨S,1,none⟩ y).setCell ⟨S,2,none⟩ z) lo v r c f:=
 ((h.apart hS 0).apart (hS.set 0 x) 1).apart ((hS.set 0 x).set 1 y) 2
end Gus
end
section
namespace Gus
open Go Go.RowKit Go.Proofs
def BadAt (w:World) (v:Value) (err:Int):Prop:=(∃ n m a l cap,v=.agg #[.int .i64 n,.int .i64 m,.slice a l cap])∧(∀ W,Below w.heap.size w W→Calls Tryz.prog 9 #[v] W fun e w'=>e=.returned (.int .i64 err)∧Below W.heap.size W w')∧err≠0
theorem BadAt.call {w w':World} {v:Value} {err:Int} (h:BadAt w v err) (hb:Below w.heap.size w w'):BadAt w' v err:=⟨h.1,fun W hW=>h.2.1 W (hb.trans (hW.mono hb.size)),h.2.2⟩
end Gus
end
section
namespace Gus
open Go Go.RowKit Go.Proofs
abbrev EQ:=Int×Int×Int
def eI (x:EQ):EntI:=(x.1,qOf x.2.1 x.2.2)
def RowF (w:World) (x:Value) (es:List EntI):Prop:=(x=.slice none 0 0∧es=[])∨∃ g cap cur,x=.slice (some ⟨g,0,none⟩) es.length cap∧w.heap[g]?=some (.cells cur 98 (0,0))∧cur.toList.take (es.length*6)=es.flatMap ecsI
theorem ecsI_length (e:EntI):(ecsI e).length=6:=rfl
theorem flatI_at:∀ (es:List EntI) (i j:Nat),i<es.length→j<6→(es.flatMap ecsI)[i*6+j]?=(ecsI (es.getD i (0,0)))[j]?
 | [],i,j,h,_=>absurd h (Nat.not_lt_zero _)
 | e :: es,0,j,_,hj=>by
  rw[List.flatMap_cons,Nat.zero_mul,Nat.zero_add,List.getElem?_append_left (by rw[ecsI_length];exact hj)];rfl
 | e :: es,i+1,j,h,hj=>by
  rw[List.flatMap_cons,List.getElem?_append_right (by rw[ecsI_length];omega),ecsI_length,show(i+1)*6+j - 6=i*6+j by omega,flatI_at es i j (by simpa using h) hj]
  rfl
theorem RowF.own {w:World} {base:Nat} {v:Value} {es:List EntI} (h:w.ownsRow base 98 6 v es.length (es.flatMap ecsI)):RowF w v es:=by
 rcases h.2 with ⟨rfl,hn⟩|⟨g,cap,cur,rfl,_,hg,_,_,_,h4⟩
 ·exact .inl ⟨rfl,List.length_eq_zero_iff.1 hn⟩
 ·exact .inr ⟨g,cap,cur,rfl,hg,h4⟩
theorem RowF.of_block {w w':World} {v:Value} {es:List EntI} (h:RowF w v es) (hb:∀ (g:Nat) (cur:Array Value),w.heap[g]?=some (Obj.cells cur 98 (0,0))→w'.heap[g]?=w.heap[g]?):RowF w' v es:=by
 rcases h with h |⟨g,cap,cur,rfl,hg,h4⟩
 ·exact .inl h
 ·exact .inr ⟨g,cap,cur,rfl,(hb g cur hg).trans hg,h4⟩
theorem RowF.call {w w':World} {v:Value} {es:List EntI} (h:RowF w v es) (hb:Below w.heap.size w w'):RowF w' v es:=h.of_block fun g _ hg=>hb.block g (Array.getElem?_eq_some_iff.1 hg).1
theorem RowF.g {w:World} {v:Value} {es:List EntI} (h:RowF w v es):RowG w v es:=by
 rcases h with ⟨rfl,rfl⟩|⟨g,cap,cur,rfl,hg,h4⟩
 ·exact⟨none,0,rfl,fun i hi=>absurd hi (Nat.not_lt_zero _)⟩
 ·refine⟨some ⟨g,0,none⟩,cap,rfl,fun i hi=>⟨g,0,rfl,(Array.getElem?_eq_some_iff.1 hg).1,fun j hj=>?_⟩⟩
  rw[←flatI_at es i j hi hj,cell_of_row w g _ _ _ _ hg,←h4,List.getElem?_take,if_pos (by omega),Array.getElem?_toList,Nat.zero_add]
theorem RowF.set {w:World} {v x:Value} {es:List EntI} {S:Nat} {cs:List Value} (h:RowF w v es) (hS:Bx w S 27 cs) (j:Nat):RowF (w.setCell ⟨S,j,none⟩ x) v es:=h.of_block fun g cur hg=>heap_setCell_other w ⟨S,j,none⟩ g x (by
 show g≠S
 rintro rfl
 have h6:w.heap[g]?=some (Obj.cells cs.toArray 27 (0,0)):=hS
 rw[h6] at hg
 injection hg with h7
 injection h7 with _ h8
 exact absurd h8 (by decide))
def OutF (w:World) (lo:Nat) (v:Value) (k:Nat) (es:List (List EQ)):Prop:=∃ vs,w.ownsRow lo 96 1 v k vs∧∀ i,i<k→RowF w (vs.getD i undef) ((es.getD i []).map eI)
theorem OutF.call {w w':World} {lo k:Nat} {v:Value} {es:List (List EQ)} (h:OutF w lo v k es) (hb:Below w.heap.size w w'):OutF w' lo v k es:=by
 obtain⟨vs,h1,h2⟩:=h
 exact⟨vs,h1.kept (row:=none) ⟨hb.os,hb.tape,hb.output,hb.size,fun k hk _=>hb.block k hk⟩ (by cases v.ownBlock <;> simp),fun i hi=>(h2 i hi).call hb⟩
theorem OutF.snoc {w w':World} {lo k:Nat} {v v' x:Value} {es:List (List EQ)} {vs:List Value} (h1:w.ownsRow lo 96 1 v k vs) (h2:∀ i,i<k→RowF w (vs.getD i undef) ((es.getD i []).map eI)) (hx:RowF w x ((es.getD k []).map eI))
  (hown:w'.ownsRow lo 96 1 v' (k+1) (vs ++ [x])) (hg:w.grownBy w' v.ownBlock):OutF w' lo v' (k+1) es:=by
 have hvl:vs.length=k:=by have:=h1.1;omega
 have keep:∀ y l,RowF w y l→RowF w' y l:=fun y l hy=>hy.of_block fun g cur hgc=>hg.block g (Array.getElem?_eq_some_iff.1 hgc).1 (fun e=>by
  rcases h1.2 with ⟨rfl,_⟩|⟨g2,cap2,cur2,rfl,_,hg2,_⟩
  ·simp[Value.ownBlock] at e
  ·simp[Value.ownBlock] at e
   subst e
   rw[hgc] at hg2
   injection hg2 with h7
   injection h7 with _ h8
   exact absurd h8 (by decide))
 refine⟨_,hown,fun i hi=>?_⟩
 by_cases hik:i<k
 ·rw[List.getD_eq_getElem?_getD,List.getElem?_append_left (by omega),←List.getD_eq_getElem?_getD]
  exact keep _ _ (h2 i hik)
 ·obtain rfl:i=k:=by omega
  rw[List.getD_eq_getElem?_getD,List.getElem?_append_right (by omega),hvl,Nat.sub_self]
  exact keep _ _ hx
theorem OutF.start (w:World) (lo:Nat) (es:List (List EQ)):OutF w lo (.slice none 0 0) 0 es:=⟨[],World.ownsRow_nil _ _ _ _,fun _ hi=>absurd hi (Nat.not_lt_zero _)⟩
theorem OutF.shape {w:World} {lo k:Nat} {v:Value} {es:List (List EQ)} (h:OutF w lo v k es):∃ a c,v=.slice a k c:=by
 obtain⟨vs,h1,_⟩:=h
 rcases h1.2 with ⟨rfl,hn⟩|⟨g,c,_,rfl,_⟩
 ·exact⟨none,0,by rw[hn]⟩
 ·exact⟨_,_,rfl⟩
theorem SpG.bad {w:World} {v:Value} {n m:Int} {rows:List (List EntI)} (h:SpG w v n m rows) (hr:rows.length≤4096) (hl:∀ i,(rows.getD i []).length≤4096) {err:Int} (he:checkS n m rows=err) (h0:err≠0):BadAt w v err:=
 ⟨by obtain⟨a,cap,rfl,_⟩:=h;exact⟨_,_,_,_,_,rfl⟩,fun W hb=>by subst he;exact scheck_any W v n m rows (h.call hb) hr hl,h0⟩
end Gus
end
