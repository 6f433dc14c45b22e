/- Proved here: parts of the proof: KSrb KSrc. Conditions: those that each theorem states. -/
import Derived.Test.YthblojaeoiemmaaGreatDoorKSqwQ
section
namespace Gus
open Go Go.RowKit Go.Proofs
def rowsM (c:Nat) (xs:List Int):Nat→Nat→Rat:=fun i k=>((xs.getD (i*c+k) 0:Int):Rat)
theorem rowsM_dense {r c:Nat} {xs:List Int} (hx:xs.length=r*c):dense r c (rowsM c xs)=(List.range xs.length).map fun i=>((xs.getD i 0:Int):Rat):=by
 unfold dense
 rw[hx]
 refine List.map_congr_left fun p hp=>?_
 show((xs.getD (p / c*c+p % c) 0:Int):Rat)=_
 rw[Nat.mul_comm,Nat.div_add_mod]
set_option maxRecDepth 100000 in
set_option maxHeartbeats 2000000 in
theorem mofs_any (w:World) (r c:Nat) (a:Option Addr) (cap:Nat) (xs:List Int) (hx:IntsAt w a xs) (hl:xs.length=r*c) (hr:r≤32) (hc:c≤32) (hb:∀ i,-9223372036854775808≤xs.getD i 0∧xs.getD i 0<9223372036854775808) :
  Calls Tryz.prog 40 #[.int .i64 r,.int .i64 c,.slice a xs.length cap] w fun e w'=>(∃ d,e=.returned (.tuple #[d,.int .i64 0])∧MatS w' d r c (rowsM c xs))∧Below w.heap.size w w':=by
 have hrc:r*c≤32*32:=Nat.mul_le_mul hr hc
 have cv:∀ W,In w.heap.size w W→Calls Tryz.prog 41 #[.slice a xs.length cap] W fun e w'=>(∃ g,e=.returned (.slice (some ⟨g,0,none⟩) xs.length xs.length)∧VBx w' g ((List.range xs.length).map fun i=>((xs.getD i 0:Int):Rat)))∧Below W.heap.size W w':=fun W h=>(vof_any W a cap xs (hx.call h.bel) (by omega) hb).mono fun _ _ ⟨g,h1,_,h2,h3⟩=>⟨⟨g,h1,h2⟩,h3⟩
 have ck:=fun g=>mcheck_any (r:Int) (c:Int) g xs.length xs.length
 rw[show checkM (r:Int) (c:Int) xs.length=0 by
  unfold checkM
  rw[show sidesE r c=0 by unfold sidesE;rw[if_neg (by omega),if_neg (by omega)],if_pos rfl,if_pos (by rw[hl];exact Int.natCast_mul r c)]] at ck
 rw[←rowsM_dense hl] at cv
 obtain⟨L,hL⟩:∃ L,L=xs.length:=⟨_,rfl⟩
 rw[←hL] at cv ck hl ⊢
 have HL:=Lib.hid hl
 clear hx hb hL hl hrc
 have hin:=In.self w
 go_enter Tryz.func40,Tryz.ntmps40
 go_upto_region 1 with fail
 ((obtain⟨X,hXX⟩:∃ z,z=w.heap.size:=⟨_,rfl⟩);(have bV0:=(Bx.new_at w #[.int .i64 0,.int .i64 0,.slice none 0 0] 37 (n:=X) (by simp[hXX])));(have hV:=((In.self w).alloc (.cells #[.int .i64 0,.int .i64 0,.slice none 0 0] 37)));(rw[←hXX] at hV ⊢);(have HX:=Lib.hid hXX);clear hXX;(generalize w.alloc (.cells #[.int .i64 0,.int .i64 0,.slice none 0 0] 37)=V at *))
 have hV0:=hV
 rw[HX.out] at hV0
 have cv1:=cv V hV0
 clear cv hin hV0
 (go_wp2_with fail;(((with_reducible refine(cv1).mono ?_)));(rintro e w2 ⟨⟨g,rfl,hvb⟩,hb⟩);clear cv1;replace hV:=hV.call hb;replace bV0:=bV0.call hb;clear hb)
 go_upto_region 2 with fail
 ((obtain⟨D,hD⟩:∃ z,z=w2.heap.size:=⟨_,rfl⟩);(have bD:=Bx.new_at w2 #[.int .i64 r,.int .i64 c,.slice (some ⟨g,0,none⟩) L L] 37 hD);(replace hV:=hV.alloc (.cells #[.int .i64 r,.int .i64 c,.slice (some ⟨g,0,none⟩) L L] 37));(replace bV0:=bV0.alloc (.cells #[.int .i64 r,.int .i64 c,.slice (some ⟨g,0,none⟩) L L] 37));(replace hvb:=hvb.call ((Below.refl _ _).alloc (Nat.le_refl _) (.cells #[.int .i64 r,.int .i64 c,.slice (some ⟨g,0,none⟩) L L] 37)));(rw[←hD]);clear hD;(generalize w2.alloc (.cells #[.int .i64 r,.int .i64 c,.slice (some ⟨g,0,none⟩) L L] 37)=w3 at *))
 (have d0:=bD.c0;have d1:=bD.c1;have d2:=bD.c2;have dl:=bD.lt)
 (go_wp2_with fail;(((with_reducible refine(ck _ _).mono ?_)));rintro e w4 ⟨rfl,hb⟩;clear d0 d1 d2 dl ck;replace hV:=hV.call hb;replace hvb:=hvb.call hb;replace bV0:=bV0.call hb;replace bD:=bD.call hb;clear hb)
 (have d0:=bD.c0;have d1:=bD.c1;have d2:=bD.c2;have dl:=bD.lt)
 go_upto_region 5 with fail
 have hd:MatS w4 (.agg #[.int .i64 r,.int .i64 c,.slice (some ⟨g,0,none⟩) L L]) r c (rowsM c xs):=⟨g,L,HL.out,rfl,hvb⟩
 have hin:=hV
 have bq:=bV0
 clear hV bV0 hvb bD
 ((have K5:=Lib.hid (hd.put3 (p':=((r:Nat):Int)) (q':=((c:Nat):Int)) (ao':=(some ⟨g,0,none⟩)) (n':=L) (k':=L) bq));
       have r0:=bq.c0;
       have r1:=bq.c1;
       have r2:=bq.c2;
       (have f0:=bq.frozen 0);
       (have f1:=bq.frozen 1);
       (have f2:=bq.frozen 2);
       have ql:=bq.lt;
       (have K1:=Lib.hid (((bq.set 0 (.int .i64 ((r:Nat):Int))).set 1 (.int .i64 ((c:Nat):Int))).set 2 (.slice (some ⟨g,0,none⟩) L L)));
       (have K2:=Lib.hid (((hin.setCell (p:=⟨X,0,none⟩) (by first |(simp;done)|(have:=HX.out;simp;omega)) (.int .i64 ((r:Nat):Int))).setCell (p:=⟨X,1,none⟩) (by first |(simp;done)|(have:=HX.out;simp;omega)) (.int .i64 ((c:Nat):Int))).setCell (p:=⟨X,2,none⟩) (by first |(simp;done)|(have:=HX.out;simp;omega)) (.slice (some ⟨g,0,none⟩) L L)));
       clear bq hin hd;
       go_wp2_with fail;
       have k1:=K1.out;
       have k2:=K2.out;
       have hm:=K5.out;
       clear r0 r1 r2 f0 f1 f2 ql K1 K2 K5;
       (generalize (((w4.setCell ⟨X,0,none⟩ (.int .i64 ((r:Nat):Int))).setCell ⟨X,1,none⟩ (.int .i64 ((c:Nat):Int))).setCell ⟨X,2,none⟩ (.slice (some ⟨g,0,none⟩) L L))=W9 at *);
       (have e0:W9.cell? ⟨X,0,none⟩=some (.int .i64 ((r:Nat):Int)):=k1.cell 0);
       (have e1:W9.cell? ⟨X,1,none⟩=some (.int .i64 ((c:Nat):Int)):=k1.cell 1);
       (have e2:W9.cell? ⟨X,2,none⟩=some (.slice (some ⟨g,0,none⟩) L L):=k1.cell 2);
       have hz:=k2.bel;
       (refine bodyPost_ret (v:=.tuple #[.agg #[.int .i64 ((r:Nat):Int),.int .i64 ((c:Nat):Int),.slice (some ⟨g,0,none⟩) L L],.int .i64 0]) ?_ rfl ⟨⟨_,rfl,hm⟩,by rw[←HX.out];exact hz⟩);
       (simp[results,Tryz.results40,go_sem,e0,e1,e2]))
def dmatT (r c:Nat) (F:Nat→Nat→Rat):List UInt8:=Lib.join ((List.range r).map fun i=>vecT (rowV c (dense r c F) i)) [32]
def svs (F:Nat→List UInt8) (k:Nat):List Value:=(List.range k).map fun i=>strV (F i)
theorem svs_succ (F:Nat→List UInt8) (k:Nat):svs F (k+1)=svs F k ++ [strV (F k)]:=by
 unfold svs;rw[List.range_succ,List.map_append];rfl
theorem vecT_len {qs:List Rat} {m:Nat} (h:∀ q∈qs,(ratT q).length≤m):(vecT qs).length≤qs.length*(m+1)+2:=by
 have:=join_le (qs.map ratT) (m:=m) (fun x hx=>by
  obtain⟨q,hq,rfl⟩:=List.mem_map.1 hx
  exact h q hq)
 rw[List.length_map] at this
 unfold vecT
 rw[List.length_cons,List.length_append,List.length_singleton]
 omega
set_option maxRecDepth 100000 in
set_option maxHeartbeats 4000000 in
theorem mtextR_any (w:World) (v:Value) (r c m:Nat) (F:Nat→Nat→Rat) (hv:MatS w v r c F) (hr:r≤32) (hr0:0<r) (hc:c≤32) (hx:∀ W,∀ i k,i<r→k<c→RatTx W (F i k)∧(ratT (F i k)).length≤m) (hm:m≤1000) :
  Calls Tryz.prog 42 #[v] w fun e w'=>e=.returned (strV (dmatT r c F))∧Below w.heap.size w w':=by
 have hfr:∀ i k,i<r→k<c→(rowV c (dense r c F) i).getD k 0=F i k:=fun i k hi hk=>by
  rw[rowV_getD _ _ hk,mvals_dense F hi hk]
 have ct:=fun W x i (hi:i<r) (h:VecAt W x (rowV c (dense r c F) i))=>vtext_any W W x (rowV c (dense r c F) i) m h (In.self W) (by rw[rowV_length];omega) (fun k hk=>by
  rw[rowV_length] at hk
  rw[hfr i k hi hk]
  exact hx W i k hi hk) (by rw[rowV_length];have:c*(m+1)≤32*1001:=Nat.mul_le_mul hc (by omega);omega)
 have cr:=fun W i (hi:i<r) (h:MatS W v r c F)=>mrow2_any W v r c i (dense r c F) h.mat h.cap hi (by omega) (by omega)
 have ck:=fun g=>mcheck_any (r:Int) (c:Int) g (r*c) (r*c)
 rw[show checkM (r:Int) (c:Int) (r*c)=0 by
  unfold checkM
  rw[show sidesE r c=0 by unfold sidesE;rw[if_neg (by omega),if_neg (by omega)],if_pos rfl,if_pos (Int.natCast_mul r c)]] at ck
 obtain⟨G,hG⟩:∃ G:Nat→List UInt8,∀ i,G i=vecT (rowV c (dense r c F) i):=⟨_,fun _=>rfl⟩
 have hgl:∀ i,i<r→(G i).length≤40000:=fun i hi=>by
  rw[hG]
  have:=vecT_len (qs:=rowV c (dense r c F) i) (m:=m) (fun q hq=>by
   obtain⟨k,hk,rfl⟩:=List.getElem_of_mem hq
   have hk2:=hk
   rw[rowV_length] at hk2
   have e:=hfr i k hi hk2
   rw[List.getD_eq_getElem?_getD,List.getElem?_eq_getElem hk] at e
   replace e:(rowV c (dense r c F) i)[k]=F i k:=e
   rw[e]
   exact(hx w i k hi hk2).2)
  rw[rowV_length] at this
  have h2:c*(m+1)≤32*1001:=Nat.mul_le_mul hc (by omega)
  omega
 have hdm:dmatT r c F=Lib.join ((List.range r).map G) [32]:=by
  unfold dmatT
  congr 1
  exact List.map_congr_left fun i _=>(hG i).symm
 have ct2:∀ W x i,i<r→VecAt W x (rowV c (dense r c F) i)→Calls Tryz.prog 43 #[x] W fun e w'=>e=.returned (strV (G i))∧Below W.heap.size W w':=fun W x i hi h=>by rw[hG];exact ct W x i hi h
 rw[hdm]
 obtain⟨g,n,hn,rfl,hbx⟩:=id hv
 rw[←hn] at ck
 have HG:=Lib.hid hgl
 have HV:=Lib.hid hv
 obtain⟨i0,hi0,hi1,hi2,hi3⟩:=info_parts info_str
 clear hfr ct hx hG hdm hn hbx hv hgl
 have hin:=In.self w
 go_enter Tryz.func42,Tryz.ntmps42
 go_upto_region 1 with fail
 ((obtain⟨X,hXX⟩:∃ z,z=w.heap.size:=⟨_,rfl⟩);(have bV0:=(Bx.new_at w #[.int .i64 r,.int .i64 c,.slice (some ⟨g,0,none⟩) n n] 37 (n:=X) (by simp[hXX])));(have hV:=((In.self w).alloc (.cells #[.int .i64 r,.int .i64 c,.slice (some ⟨g,0,none⟩) n n] 37)));(rw[←hXX] at hV ⊢);(have HX:=Lib.hid hXX);clear hXX;(generalize w.alloc (.cells #[.int .i64 r,.int .i64 c,.slice (some ⟨g,0,none⟩) n n] 37)=V at *))
 have hV0:=hV
 rw[HX.out] at hV0
 have hm:=HV.out.call hV0.bel
 clear hin hV0 HV
 (have x0:=bV0.c0;have x1:=bV0.c1;have x2:=bV0.c2;have xl:=bV0.lt)
 (go_wp2_with fail;(((with_reducible refine(ck _ _).mono ?_)));rintro e w2 ⟨rfl,hb⟩;clear x0 x1 x2 xl ck;replace hV:=hV.call hb;replace hm:=hm.call hb;replace bV0:=bV0.call hb;clear hb)
 have hs2:=In.self w2
 have HV2:=Lib.hid hV
 (have x0:=bV0.c0;have x1:=bV0.c1;have x2:=bV0.c2;have xl:=bV0.lt)
 go_wp2_with fail
 have HBX:=Lib.hid bV0
 have HM:=Lib.hid hm
 clear hV bV0 hm x0 x1 x2 xl
 go_loopw [3,10] (fun v3 v10 wr=>∃ i:Nat,i≤r∧v10=.int .i64 i∧In w2.heap.size w2 wr∧wr.ownsRow w2.heap.size 9 1 v3 i (svs G i)) (fun _ v10 _=>r - (RowKit.intOf v10).toNat)
 case atStart=>exact⟨0,Nat.zero_le _,rfl,hs2,World.ownsRow_nil _ _ _ _⟩
 case round=>
  clear hs2
  obtain⟨i,hi,rfl,hin,hown⟩:=hrel
  by_cases hiR:i<r
  ·have iI:(i:Int)<r:=by omega
   have i0':(0:Int)≤i:=by omega
   have iw:IntKind.i64.wrap ((i:Int)+1)=((i+1:Nat):Int):=IntWalk.i64_in _ (by omega)
   have bx:=HBX.out.call hin.bel
   have cr1:=cr wr i hiR (HM.out.call hin.bel)
   have HOWN:=Lib.hid hown
   have HIN:=Lib.hid hin
   clear hin hown
   have x0:=bx.c0;have x1:=bx.c1;have x2:=bx.c2;have xl:=bx.lt
   go_wp2_with fail
   (with_reducible refine cr1.mono ?_)
   rintro e w4 ⟨⟨x,rfl,hvx⟩,hb⟩
   replace HIN:=Lib.hid (HIN.out.call hb)
   replace HOWN:=Lib.hid (ownsRow_bel HOWN.out hb)
   have ct1:=ct2 w4 x i hiR hvx
   obtain⟨tx,htx⟩:∃ tx,tx=G i:=⟨_,rfl⟩
   rw[←htx] at ct1
   have HTX:=Lib.hid htx
   clear hb hvx cr1 bx x0 x1 x2 xl htx
   go_wp2_with fail
   (with_reducible refine ct1.mono ?_)
   rintro e w5 ⟨rfl,hb⟩
   replace HIN:=Lib.hid (HIN.out.call hb)
   replace HOWN:=Lib.hid (ownsRow_bel HOWN.out hb)
   clear hb ct1
   have hsz:=HIN.out.siz
   go_wp2_with (at_builtin;go_loud (refine wpList_append_own _ rfl (.tmp 13) (.tmp 18) 160 rfl w2.heap.size 9 i0 (.string ⟨#[]⟩) 1 16 Tryz.underlying160 hi0 hi1 hi2 hi3 rfl (by decide) u3 i (svs G i) rfl (HOWN.out.alloc _) ⟨w5.heap.size,0,none⟩ 1 1 [strV tx] rfl rfl ?c1 ?c2 ?c3 ?c4 ?c5 ?_))
   case c1=>intro j u hj;rw[Addr.add_lit,Nat.zero_add,(Bx.new_at w5 #[strV tx] 9 rfl).cell j];exact hj
   case c2=>(first | rfl |(intro u hu;simp only[List.mem_cons,List.not_mem_nil,or_false] at hu;subst hu;rfl))
   case c3=>simp only[maxLen];omega
   case c4=>omega
   case c5=>rw[World.size_alloc];omega
   intro v' w6 hown6 hgr _
   have hin6:=own_in (HIN.out.alloc (.cells #[strV tx] 9)) (HOWN.out.alloc (.cells #[strV tx] 9)) hgr
   have HR6:Hid (w6.ownsRow w2.heap.size 9 1 v' (i+1) (svs G (i+1))):=Lib.hid (by rw[svs_succ,←HTX.out];exact hown6)
   have HIN6:=Lib.hid hin6
   clear hown6 hgr hin6 hsz HOWN HIN
   go_wp2_with fail
   exact⟨⟨i+1,by omega,by go_num,HIN6.out,HR6.out⟩,by simp[RowKit.intOf];omega⟩
  ·obtain rfl:i=r:=by omega
   have iI:¬ (i:Int)<i:=by omega
   obtain⟨gb,gc,rfl⟩:∃ gb gc,u3=.slice (some ⟨gb,0,none⟩) i gc:=by
    obtain⟨k,hk⟩:∃ k,i=k+1:=⟨i - 1,by omega⟩
    rw[hk] at hown ⊢
    exact owns_cons hown
   have hxs:((List.range (i)).map fun j=>(⟨(G j).toArray⟩:ByteArray)).length=i:=by simp
   have hj:Lib.join (((List.range (i)).map fun j=>(⟨(G j).toArray⟩:ByteArray)).map (·.data.toList)) [32]=Lib.join ((List.range (i)).map G) [32]:=by
    congr 1
    rw[List.map_map]
    exact List.map_congr_left fun j _=>by simp
   have hjl:(Lib.join ((List.range (i)).map G) [32]).length≤140737488355328:=by
    refine Nat.le_trans (join_le (m:=40000) _ fun x hx=>?_) (by rw[List.length_map,List.length_range];omega)
    obtain⟨j,hj,rfl⟩:=List.mem_map.1 hx
    exact HG.out j (List.mem_range.1 hj)
   have hcells:=fun j u (h:(svs G (i))[j]?=some u)=>hown.cells (g:=gb) rfl j u h
   have cj:=Tryz.strings_Join gb 0 gc ((List.range (i)).map fun j=>(⟨(G j).toArray⟩:ByteArray)) ⟨#[32]⟩ wr (fun j x hx=>by
    have hjL:j<i:=by
     have:=(List.getElem?_eq_some_iff.1 hx).1
     rw[hxs] at this;exact this
    rw[List.getElem?_map,List.getElem?_range hjL] at hx
    cases hx
    have:=hcells j (strV (G j)) (by unfold svs;rw[List.getElem?_map,List.getElem?_range hjL];rfl)
    rw[Addr.add_lit] at this
    exact this) (hown.lt gb rfl).2 (by rw[hxs];omega) (by rw[hxs];exact(by rcases hown.2 with ⟨h,_⟩|⟨_,_,_,h,_,_,h1,_⟩;cases h;cases h;exact h1)) (by rw[show(⟨#[32]⟩:ByteArray).data.toList=[32] from rfl,hj];exact hjl)
   rw[hxs,show(⟨#[32]⟩:ByteArray).data.toList=[32] from rfl,hj] at cj
   obtain⟨lj,hlj⟩:∃ lj,lj=Lib.join ((List.range (i)).map G) [32]:=⟨_,rfl⟩
   rw[←hlj] at cj
   have HLJ:=Lib.hid hlj
   have HIN:=Lib.hid hin
   clear hxs hj hjl hcells hown hin hlj
   go_wp2_with fail
   (with_reducible refine cj.mono ?_)
   rintro e w6 ⟨rfl,hb6⟩
   have hbel:=(HV2.out.call (HIN.out.call hb6).bel).bel
   rw[HX.out] at hbel
   clear cj hb6
   go_wp2_with fail
   exact bodyPost_ret (v:=strV lj) (by simp[results,Tryz.results42,go_sem]) rfl ⟨by rw[←HLJ.out],hbel⟩
end Gus
end
section
namespace Gus
open Go Go.RowKit Go.Proofs
abbrev wxM:List Int:=[2,1,0,1,3,1,0,1,2]
abbrev wM:Mx:=rowsM 3 wxM
def lv (l:List Int):Vc:=fun i=>((l.getD i 0:Int):Rat)
theorem NS.of {n:Nat} {A:Mx} (h:(elim n A n).piv.length=n):NS n A:=full_iff.1 h
theorem wM_ns0:NS 1 (sub wM [0] [0]):=NS.of (by decide +kernel)
theorem wM_ns20:NS 2 (sub wM [2,0] [2,0]):=NS.of (by decide +kernel)
theorem wM_z:Mz 3 3 2 wM:=fun r c hr hc=>by
 have h:∀ i:Nat,i<9→SzK 2 ((wxM.getD i 0:Int):Rat):=fun i hi=>by
  have:i=0∨i=1∨i=2∨i=3∨i=4∨i=5∨i=6∨i=7∨i=8:=by omega
  rcases this with rfl | rfl | rfl | rfl | rfl | rfl | rfl | rfl | rfl <;> (unfold SzK;decide +kernel)
 exact h (r*3+c) (by omega)
abbrev wS0:Mx:=schur wM [0] [1,2] (invM 1 (sub wM [0] [0]))
abbrev wS20:Mx:=schur wM [2,0] [1] (invM 2 (sub wM [2,0] [2,0]))
theorem wS0_r0:rowV 2 (dense 2 2 wS0) 0=[5 / 2,1]:=by decide +kernel
theorem wS0_r1:rowV 2 (dense 2 2 wS0) 1=[1,2]:=by decide +kernel
theorem wS20_r0:rowV 1 (dense 1 1 wS20) 0=[2]:=by decide +kernel
theorem wS0_q:∀ i k,i<2→k<2→(wS0 i k).num.natAbs<100∧(wS0 i k).den<100:=fun i k hi hk=>
 (show ∀ i,i<2→∀ k,k<2→(wS0 i k).num.natAbs<100∧(wS0 i k).den<100 by decide +kernel) i hi k hk
theorem wS20_q:∀ i k,i<1→k<1→(wS20 i k).num.natAbs<100∧(wS20 i k).den<100:=fun i k hi hk=>
 (show ∀ i,i<1→∀ k,k<1→(wS20 i k).num.natAbs<100∧(wS20 i k).den<100 by decide +kernel) i hi k hk
theorem wt_a:vecT [5 / 2,1]=[91,53,47,50,32,49,93]:=by
 have n0:(5 / 2:Rat).num=5:=by decide +kernel
 have d0:(5 / 2:Rat).den=2:=by decide +kernel
 simp[vecT,ratT,intT,natT,Lib.decDigits,Lib.join,List.intercalate,n0,d0]
theorem wt_b:vecT [1,2]=[91,49,32,50,93]:=by
 simp[vecT,ratT,intT,natT,Lib.decDigits,Lib.join,List.intercalate]
theorem wt_c:vecT [2]=[91,50,93]:=by
 simp[vecT,ratT,intT,natT,Lib.decDigits,Lib.join,List.intercalate]
theorem wt_d:vecT [0,1]=[91,48,32,49,93]:=by
 simp[vecT,ratT,intT,natT,Lib.decDigits,Lib.join,List.intercalate]
theorem wt_e:vecT [-1,4,6]=[91,45,49,32,52,32,54,93]:=by
 have n0:(-1:Rat).num=-1:=by decide +kernel
 have d0:(-1:Rat).den=1:=by decide +kernel
 simp[vecT,ratT,intT,natT,Lib.decDigits,Lib.join,List.intercalate,n0,d0]
theorem wt_f:vecT [1,1,1]=[91,49,32,49,32,49,93]:=by
 simp[vecT,ratT,intT,natT,Lib.decDigits,Lib.join,List.intercalate]
theorem wt_A:dmatT 2 2 wS0=[91,53,47,50,32,49,93,32,91,49,32,50,93]:=by
 unfold dmatT
 rw[show(List.range 2).map (fun i=>vecT (rowV 2 (dense 2 2 wS0) i))=[vecT (rowV 2 (dense 2 2 wS0) 0),vecT (rowV 2 (dense 2 2 wS0) 1)] from rfl,wS0_r0,wS0_r1,wt_a,wt_b]
 rfl
theorem wt_B:dmatT 1 1 wS20=[91,50,93]:=by
 unfold dmatT
 rw[show(List.range 1).map (fun i=>vecT (rowV 1 (dense 1 1 wS20) i))=[vecT (rowV 1 (dense 1 1 wS20) 0)] from rfl,wS20_r0,wt_c]
 rfl
theorem wv_side:vl 2 (condV wM [0] [1,2] (invM 1 (sub wM [0] [0])) (lv [2,1,1]))=[0,1]:=by decide +kernel
theorem wv_ext:vl 3 (put2 [0] [1,2] (innV wM [0] [1,2] (invM 1 (sub wM [0] [0])) (lv [2,1,1]) (lv [4,6])) (lv [4,6]))=[-1,4,6]:=by decide +kernel
theorem wv_solve:vl 3 (nestV 1 [[1]] 3 wM (lv [3,5,3]))=[1,1,1]:=by decide +kernel
theorem wv_nest:vl 3 (nestV 2 [[0],[2]] 3 wM (lv [3,5,3]))=[1,1,1]:=by decide +kernel
def nestB:Nat→List (List Nat)→Nat→Mx→Bool
 | 0,_,n,M=>decide ((elim n M n).piv.length=n)
 | _+1,[],n,M=>decide ((elim n M n).piv.length=n)
 | k+1,g :: gs,n,M=>decide ((elim g.length (sub M g g) g.length).piv.length=g.length) && nestB k (gs.map (places (outer n g))) (outer n g).length (schur M g (outer n g) (invM g.length (sub M g g)))
theorem nestB_ok:∀ (k:Nat) (gs:List (List Nat)) (n:Nat) (M:Mx),nestB k gs n M=true→nestOk k gs n M
 | 0,_,_,_,h=>NS.of (of_decide_eq_true h)
 | _+1,[],_,_,h=>NS.of (of_decide_eq_true h)
 | k+1,g :: gs,n,M,h=>by
  unfold nestB at h
  rw[Bool.and_eq_true] at h
  exact⟨NS.of (of_decide_eq_true h.1),nestB_ok k _ _ _ h.2⟩
theorem wv_ok1:nestOk 1 [[1]] 3 wM:=nestB_ok _ _ _ _ (by decide +kernel)
theorem wv_ok2:nestOk 2 [[0],[2]] 3 wM:=nestB_ok _ _ _ _ (by decide +kernel)
theorem nestC_of:∀ (k:Nat) (gs:List (List Nat)) (n:Nat) (M:Mx) (z:Nat),gs.length=k→Grp n gs.flatten→(∀ g∈gs,0<g.length)→nestZ (gs.map List.length) n z<17592186044416→NestC k gs n M z
 | 0,gs,n,M,z,h,_,_,hc=>by
  obtain rfl:gs=[]:=List.eq_nil_of_length_eq_zero h
  simpa[nestZ,NestC] using hc
 | k+1,[],_,_,_,h,_,_,_=>absurd h (by simp)
 | k+1,g :: gs,n,M,z,h,hg,hp,hc=>by
  obtain⟨h1,h2,h3⟩:=hg.cons
  have hlen:=h1.split.len
  have hg0:=hp g (.head _)
  have hZ:nestZ ((g :: gs).map List.length) n z=ez g.length (n - g.length) z (nestZ (gs.map List.length) (n - g.length) (gz g.length z))+nestZ (gs.map List.length) (n - g.length) (gz g.length z)+(5*(z*5 ^ g.length)+2)+gz g.length z:=rfl
  rw[hZ] at hc
  have e1:(gs.map (places (outer n g))).map List.length=gs.map List.length:=by
   rw[List.map_map]
   exact List.map_congr_left fun l _=>places_length _ l
  have eo:(outer n g).length=n - g.length:=by omega
  obtain⟨Y,hY⟩:∃ Y,Y=nestZ (gs.map List.length) (n - g.length) (gz g.length z):=⟨_,rfl⟩
  rw[←hY] at hc
  have hez:ez g.length (n - g.length) z Y=1+g.length*(jz g.length z+(z+(1+(n - g.length)*(z+Y+1))+1)+1):=rfl
  have hmul:jz g.length z+(z+(1+(n - g.length)*(z+Y+1))+1)+1≤g.length*(jz g.length z+(z+(1+(n - g.length)*(z+Y+1))+1)+1):=Nat.le_mul_of_pos_left _ hg0
  refine⟨by omega,fun _=>⟨by omega,nestC_of k _ _ _ _ (by simpa using h) h3 (fun l hl=>?_) (by rw[e1,eo,←hY];omega),fun _=>⟨?_, ?_⟩⟩⟩
  ·obtain⟨l',hl',rfl⟩:=List.mem_map.1 hl
   rw[places_length];exact hp l' (List.mem_cons_of_mem _ hl')
  ·rw[eo,←hY];omega
  ·rw[eo,←hY];omega
theorem lv_z {l:List Int} {z n:Nat} (h:∀ i,i<n→SzK z (((l.getD i 0:Int)):Rat)):Vz n z (lv l):=h
end Gus
end
