/- Proved here: parts of the proof: KPdn KSbl KSsc KSmu KSad KSap KLvc KDlw KIva KRfu. Conditions: those that each theorem states. -/
import Derived.Test.YthblojaeoiemmaaGreatDoorKSumQ
section
namespace Gus
open Go Go.RowKit Go.Proofs
theorem mvals_dense {r c:Nat} (f:Nat→Nat→Rat) {i k:Nat} (hi:i<r) (hk:k<c):mvals c (dense r c f) i k=f i k:=by
 have h:i*c+k<r*c:=by
  have:=Nat.mul_le_mul_right c (Nat.succ_le_of_lt hi)
  rw[Nat.succ_mul] at this;omega
 rw[mvals,dense,List.getD_eq_getElem?_getD,List.getElem?_map,List.getElem?_range h]
 show f ((i*c+k) / c) ((i*c+k) % c)=_
 rw[(pos_of hk).1,(pos_of hk).2]
end Gus
end
section
namespace Gus
open Go Go.RowKit Go.Proofs
theorem mEl_beyond (qs:List (Int×Int)) {i:Nat} (h:qs.length≤i):mEl qs i=0:=by
 unfold mEl
 rw[List.getD_eq_getElem?_getD,List.getElem?_eq_none h]
 show((0:Int):Rat) / _=0
 rw[Rat.div_def]
 exact Rat.zero_mul _
theorem pv_stop (qs:List (Int×Int)) (n k:Nat) (h:qs.length≤k):pv (mEl qs) n k=mList qs n:=by
 unfold pv mList
 refine List.map_congr_left fun i _=>?_
 by_cases hi:i<k
 ·rw[if_pos hi]
 ·rw[if_neg hi,mEl_beyond qs (by omega)]
set_option maxRecDepth 100000 in
set_option maxHeartbeats 4000000 in
theorem lvec_any (w:World) (a:Option Addr) (cap n:Nat) (qs:List (Int×Int)) (hq:QAt w a qs) (hok:QOk qs) (hn:n≤2048) (_hl:qs.length≤1000) :
  Calls Tryz.prog 12 #[.slice a qs.length cap,.int .i64 n] w fun e w'=>(∃ d,e=.returned d∧VecAt w' d (mList qs n))∧Below w.heap.size w w':=by
 have hmk:=mk_vec n (by omega)
 obtain⟨fc,hfc⟩:∃ fc,fc=fcl (List.replicate n 0):=⟨_,rfl⟩
 rw[←hfc] at hmk
 have HF:=Lib.hid hfc
 obtain⟨L,hL⟩:∃ L,L=qs.length:=⟨_,rfl⟩
 rw[←hL]
 have HL:=Lib.hid hL
 obtain⟨g,hg⟩:∃ g,g=w.heap.size:=⟨_,rfl⟩
 have HG:=Lib.hid hg
 have HQ:=Lib.hid hq
 have bv:VBx (w.alloc (.cells fc.toArray 72)) g (pv (mEl qs) n 0):=by
  have:=Bx.new_at w fc.toArray 72 hg
  show Bx _ g 72 (fcl _)
  rw[pv_zero,←HF.out];exact this
 have hin:=(In.self w).alloc (.cells fc.toArray 72)
 clear hL hfc hq
 go_enter Tryz.func12,Tryz.ntmps12
 go_upto_region 2 with fail
 rw[←hg]
 clear hg hmk
 generalize w.alloc (.cells fc.toArray 72)=W1 at *
 go_wp2_with fail
 go_loopw [6] (fun v6 wr=>∃ k:Nat,k≤n∧v6=.int .i64 k∧In w.heap.size w wr∧VBx wr g (pv (mEl qs) n k)) (fun v6 _=>n - (RowKit.intOf v6).toNat)
 case atStart=>exact⟨0,Nat.zero_le _,rfl,hin,bv⟩
 case round=>
  clear hin bv
  obtain⟨k,hk,rfl,hin,bv⟩:=hrel
  by_cases hkn:k<n
  ·have hkI:(k:Int)<n:=by omega
   by_cases hkl:k<L
   ·have hkJ:(k:Int)<L:=by omega
    have hk0:(0:Int)≤k:=by omega
    obtain⟨N,hN⟩:∃ N,N=(qs.getD k (0,0)).1:=⟨_,rfl⟩
    obtain⟨D,hD⟩:∃ D,D=(qs.getD k (0,0)).2:=⟨_,rfl⟩
    have hb4:-9223372036854775808≤N∧N<9223372036854775808∧0≤D∧D<4294967296:=by
     rw[hN,hD,List.getD_eq_getElem?_getD,List.getElem?_eq_getElem (by rw[←HL.out];exact hkl)]
     exact hok _ (List.getElem_mem _)
    have hmE:mEl qs k=qOf N D:=by rw[hN,hD];rfl
    have hcq:=qOf_any N D hb4.1 hb4.2.1 hb4.2.2.1 hb4.2.2.2
    rw[←hmE] at hcq
    obtain⟨q,hqq⟩:∃ q,q=mEl qs k:=⟨_,rfl⟩
    rw[←hqq] at hcq
    have HE:=Lib.hid hqq
    obtain⟨b,off,rfl,hb,hc0,hc1⟩:=HQ.out k (by rw[←HL.out];exact hkl)
    rw[←hN,Nat.mul_comm 2 k] at hc0
    rw[←hD,Nat.mul_comm 2 k] at hc1
    rw[←hin.cell b _ hb] at hc0 hc1
    have hbw:b<wr.heap.size:=by have:=hin.siz;omega
    clear hN hD hb4 hmE hqq
    go_wp2_with fail
    ((with_reducible refine(hcq _).mono ?_))
    rintro e w3 ⟨rfl,hb⟩
    have hin3:=hin.call hb
    have bv3:=bv.call hb
    have hlt:k<(pv (mEl qs) n k).length:=by rw[pv_length];exact hkn
    obtain⟨_,_,_,_,_,_,c0,c1,c2,c3,c4,f0,f1,f2,f3,f4⟩:=VBx.cells bv3 hlt
    have hgl:=bv3.lt
    have hs:=VBx.set bv3 k q hlt
    rw[show(pv (mEl qs) n k).set k q=pv (mEl qs) n (k+1) by rw[HE.out];exact pv_set _ _ _] at hs
    have H1:=Lib.hid hs
    have H2:=Lib.hid (hin3.put5 (g:=g) (by have:=HG.out;omega) k q)
    have hkw:IntKind.i64.wrap ((k:Int)+1)=((k+1:Nat):Int):=IntWalk.i64_in _ (by omega)
    clear hs hin3 bv3 hin bv hb hcq hc0 hc1 hbw
    go_wp2_with fail
    exact⟨⟨k+1,by omega,by go_num,H2.out,H1.out⟩,by simp[RowKit.intOf];omega⟩
   ·have hkJ:¬ (k:Int)<L:=by omega
    rw[pv_stop qs n k (by rw[←HL.out];omega)] at bv
    have hv:VecAt wr (.slice (some ⟨g,0,none⟩) n n) (mList qs n):=VBx.at bv n (mList_length qs n).symm n
    have H1:=Lib.hid hv
    have H2:=Lib.hid hin
    clear bv hin hv
    go_wp2_with fail
    exact bodyPost_ret (v:=.slice (some ⟨g,0,none⟩) n n) (by simp[results,Tryz.results12,go_sem]) rfl ⟨⟨_,rfl,H1.out⟩,H2.out.bel⟩
  ·obtain rfl:k=n:=by omega
   have hkI:¬ (k:Int)<k:=by omega
   rw[pv_full] at bv
   have hv:VecAt wr (.slice (some ⟨g,0,none⟩) k k) (mList qs k):=VBx.at bv k (mList_length qs k).symm k
   have H1:=Lib.hid hv
   have H2:=Lib.hid hin
   clear bv hin hv
   go_wp2_with fail
   exact bodyPost_ret (v:=.slice (some ⟨g,0,none⟩) k k) (by simp[results,Tryz.results12,go_sem]) rfl ⟨⟨_,rfl,H1.out⟩,H2.out.bel⟩
end Gus
end
section
namespace Gus
open Go Go.RowKit Go.Proofs
theorem SpN.apart {w:World} {lo S:Nat} {v u:Value} {r c:Nat} {f:Nat→Nat→Rat} {cs:List Value} (h:SpN w lo v r c f) (hS:Bx w S 27 cs) (j:Nat):SpN (w.setCell ⟨S,j,none⟩ u) lo v r c f:=by
 obtain⟨R,vs,rfl,h1,h2,h3⟩:=h
 have hRS:R≠S:=fun e=>by
  subst e
  have h4:w.heap[R]?=some (.cells vs.toArray 96 (0,0)):=h2
  have h5:w.heap[R]?=some (.cells cs.toArray 27 (0,0)):=hS
  rw[h4] at h5
  injection h5 with h6
  injection h6 with _ h7
  exact absurd h7 (by decide)
 refine⟨R,vs,rfl,h1,h2.other (a:=⟨S,j,none⟩) (by simp;omega) u,h3.of_block fun i k hi hk=>heap_setCell_other w ⟨S,j,none⟩ k u ?_⟩
 show k≠S
 rintro rfl
 rcases h3.row i hi with ⟨h4,_⟩|⟨g,cap,cur,h4,_,h5,_⟩
 ·rw[h4] at hk;simp[Value.ownBlock] at hk
 ·rw[h4] at hk
  simp[Value.ownBlock] at hk
  subst hk
  have h6:w.heap[g]?=some (.cells cs.toArray 27 (0,0)):=hS
  rw[h6] at h5
  injection h5 with h7
  injection h7 with _ h8
  exact absurd h8 (by decide)
theorem SpN.put3 {w:World} {v x y z:Value} {r c lo S:Nat} {f:Nat→Nat→Rat} {cs:List Value} (h:SpN w lo v r c f) (hS:Bx w S 27 cs) :
  SpN (((w.setCell ⟨S,0,none⟩ x).setCell ⟨S,1,none⟩ y).setCell ⟨S,2,none⟩ z) lo v r c f:=
 ((h.apart hS 0).apart (hS.set 0 x) 1).apart ((hS.set 0 x).set 1 y) 2
end Gus
end
section
namespace Gus
open Go Go.RowKit Go.Proofs
def BadAt (w:World) (v:Value) (err:Int):Prop:=(∃ n m a l cap,v=.agg #[.int .i64 n,.int .i64 m,.slice a l cap])∧(∀ W,Below w.heap.size w W→Calls Tryz.prog 9 #[v] W fun e w'=>e=.returned (.int .i64 err)∧Below W.heap.size W w')∧err≠0
theorem BadAt.call {w w':World} {v:Value} {err:Int} (h:BadAt w v err) (hb:Below w.heap.size w w'):BadAt w' v err:=⟨h.1,fun W hW=>h.2.1 W (hb.trans (hW.mono hb.size)),h.2.2⟩
set_option maxRecDepth 100000 in
set_option maxHeartbeats 2000000 in
theorem sdense_bad {w:World} {v:Value} {err:Int} (hbad:BadAt w v err) :
  Calls Tryz.prog 69 #[v] w fun e w'=>e=.returned (.tuple #[zeroSp,.int .i64 err])∧Below w.heap.size w w':=by
 obtain⟨⟨n,m,a,l,cap,rfl⟩,hck,h0⟩:=hbad
 have hne:(err != 0)=true:=by simpa using h0
 have heq:(err == 0)=false:=by simpa using h0
 obtain⟨X,hX⟩:∃ X,X=w.heap.size:=⟨_,rfl⟩
 have HX:=Lib.hid hX
 go_enter Tryz.func69,Tryz.ntmps69
 go_wp2_with fail
 ((with_reducible refine(hck _ ?_).mono ?_))
 ·exact(((In.self w).alloc _).alloc _).bel
 rintro e w2 ⟨rfl,hb⟩
 have hin:=(((In.self w).alloc (.cells #[.int .i64 n,.int .i64 m,.slice a l cap] 27)).alloc (.cells #[.int .i64 0,.int .i64 0,.slice none 0 0] 37)).call hb
 have bq:=(Bx.new_at (w.alloc (.cells #[.int .i64 n,.int .i64 m,.slice a l cap] 27)) #[.int .i64 0,.int .i64 0,.slice none 0 0] 37 (n:=X+1) (by simp[hX])).call hb
 have bx:=hb
 rw[←hX]
 clear hX hck hb
 (have r0:=bq.c0;
       have r1:=bq.c1;
       have r2:=bq.c2;
       (have f0:=bq.frozen 0);
       (have f1:=bq.frozen 1);
       (have f2:=bq.frozen 2);
       have hrl:=bq.lt;
       (have H1:=Lib.hid (((bq.set 0 (.int .i64 0)).set 1 (.int .i64 0)).set 2 (.slice none 0 0)));
       (have H2:=Lib.hid (((hin.setCell (p:=⟨(X+1),0,none⟩) (by first |(simp;done)|(have:=HX.out;simp;omega)) (.int .i64 0)).setCell (p:=⟨(X+1),1,none⟩) (by first |(simp;done)|(have:=HX.out;simp;omega)) (.int .i64 0)).setCell (p:=⟨(X+1),2,none⟩) (by first |(simp;done)|(have:=HX.out;simp;omega)) (.slice none 0 0)));
       clear bq hin bx;
       go_wp2_with fail;
       have g1:=H1.out;
       have g2:=H2.out;
       clear H1 H2 r0 r1 r2 f0 f1 f2 hrl;
       (generalize ((w2.setCell ⟨(X+1),0,none⟩ (.int .i64 0)).setCell ⟨(X+1),1,none⟩ (.int .i64 0)).setCell ⟨(X+1),2,none⟩ (.slice none 0 0)=W5 at *);
       (have e0:W5.cell? ⟨(X+1),0,none⟩=some (.int .i64 0):=g1.cell 0);
       (have e1:W5.cell? ⟨(X+1),1,none⟩=some (.int .i64 0):=g1.cell 1);
       (have e2:W5.cell? ⟨(X+1),2,none⟩=some (.slice none 0 0):=g1.cell 2);
       have hz:=g2.bel;
       (refine bodyPost_ret (v:=.tuple #[zeroSp,.int .i64 err]) ?_ rfl ⟨rfl,hz⟩);
       (simp[results,Tryz.results69,go_sem,e0,e1,e2]))
end Gus
end
