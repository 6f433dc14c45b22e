/- Proved here: parts of the proof: KSre KSrf KSrd. Conditions: those that each theorem states. -/
import Derived.Test.YthblojaeoiemmaaGreatDoorKSrbQ
section
namespace Gus
open Go Go.RowKit Go.Proofs
set_option maxRecDepth 100000 in
set_option maxHeartbeats 2000000 in
theorem lsparse_any {j:Nat} (w:World) (v:Value) (r c:Nat) (F:Mx) (hM:MatS w v r c F) (hr:r≤64) (hc:c≤64) (hz:Mz r c j F) (hj:0<j) (hcap:j≤1000000000) :
  Calls Tryz.prog 23 #[v] w fun e w'=>(∃ s,e=.returned s∧SpM w' s r c F)∧Below w.heap.size w w':=by
 have hrc:r*c*(j+1)≤64*64*1000000001:=Nat.mul_le_mul (Nat.mul_le_mul hr hc) (by omega)
 have cp:∀ W,In w.heap.size w W→Calls Tryz.prog 61 #[v] W fun e w'=>(∃ s,e=.returned (.tuple #[s,.int .i64 0])∧SpN w' W.heap.size s r c F)∧Below W.heap.size W w':=fun W h=>
  (ofd_any W v r c (dense r c F) (hM.call h.bel).mat (by omega) (by omega) (dense_szk2 hz hj) (by omega)).mono fun _ _ ⟨⟨s,h1,h2⟩,hb⟩=>⟨⟨s,h1,SpN.congr h2 fun i k hi hk=>mvals_dense F hi hk⟩,hb⟩
 obtain⟨g,N,-,rfl,-⟩:=hM
 have hin:=In.self w
 clear hz hcap hrc
 go_enter Tryz.func23,Tryz.ntmps23
 go_upto_region 1 with fail
 ((obtain⟨X,hXX⟩:∃ z,z=w.heap.size:=⟨_,rfl⟩);(have bV0:=((Bx.new_at w #[.int .i64 r,.int .i64 c,.slice (some ⟨g,0,none⟩) N N] 37 (n:=X) (by simp[hXX])).alloc (.cells #[.int .i64 0,.int .i64 0,.slice none 0 0] 27)));(have bV1:=(Bx.new_at (w.alloc (.cells #[.int .i64 r,.int .i64 c,.slice (some ⟨g,0,none⟩) N N] 37)) #[.int .i64 0,.int .i64 0,.slice none 0 0] 27 (n:=X+1) (by simp[hXX])));(have hV:=(((In.self w).alloc (.cells #[.int .i64 r,.int .i64 c,.slice (some ⟨g,0,none⟩) N N] 37)).alloc (.cells #[.int .i64 0,.int .i64 0,.slice none 0 0] 27)));(rw[←hXX] at hV ⊢);(have HX:=Lib.hid hXX);clear hXX;(generalize (w.alloc (.cells #[.int .i64 r,.int .i64 c,.slice (some ⟨g,0,none⟩) N N] 37)).alloc (.cells #[.int .i64 0,.int .i64 0,.slice none 0 0] 27)=V at *))
 have hV0:=hV
 rw[HX.out] at hV0
 have cd:=cp V hV0
 clear hV0 cp hin
 (have x0:=bV0.c0;have x1:=bV0.c1;have x2:=bV0.c2;have xl:=bV0.lt)
 (go_wp2_with fail;(((with_reducible refine(cd).mono ?_)));(rintro e w2 ⟨⟨s,rfl,hs⟩,hb⟩);clear x0 x1 x2 xl cd;replace hV:=hV.call hb;replace bV0:=bV0.call hb;replace bV1:=bV1.call hb;clear hb)
 obtain⟨sa,sk,rfl⟩:=hs.m.shape
 go_upto_region 2 with fail
 ((obtain⟨D,hD⟩:∃ z,z=w2.heap.size:=⟨_,rfl⟩);(have bD:=Bx.new_at w2 #[.int .i64 r,.int .i64 c,.slice sa r sk] 27 hD);(replace hV:=hV.alloc (.cells #[.int .i64 r,.int .i64 c,.slice sa r sk] 27));(replace bV0:=bV0.alloc (.cells #[.int .i64 r,.int .i64 c,.slice sa r sk] 27));(replace bV1:=bV1.alloc (.cells #[.int .i64 r,.int .i64 c,.slice sa r sk] 27));(replace hs:=hs.call ((Below.refl _ _).alloc (Nat.le_refl _) (.cells #[.int .i64 r,.int .i64 c,.slice sa r sk] 27)));(rw[←hD]);clear hD;(generalize w2.alloc (.cells #[.int .i64 r,.int .i64 c,.slice sa r sk] 27)=w3 at *))
 (have z0:=bD.c0;have z1:=bD.c1;have z2:=bD.c2;have zl:=bD.lt)
 have HSP:=Lib.hid (hs.put3 bV1 (x:=.int .i64 r) (y:=.int .i64 c) (z:=.slice sa r sk)).m
 have K1:=Lib.hid (((bV1.set 0 (.int .i64 r)).set 1 (.int .i64 c)).set 2 (.slice sa r sk))
 have K2:=Lib.hid (((hV.setCell (p:=⟨X+1,0,none⟩) (by simp) (.int .i64 r)).setCell (p:=⟨X+1,1,none⟩) (by simp) (.int .i64 c)).setCell (p:=⟨X+1,2,none⟩) (by simp) (.slice sa r sk))
 have r0:=bV1.c0
 have r1:=bV1.c1
 have r2:=bV1.c2
 have f0:=bV1.frozen 0
 have f1:=bV1.frozen 1
 have f2:=bV1.frozen 2
 have ql:=bV1.lt
 clear hV bV0 bV1 bD hs
 go_wp2_with fail
 have hm:=HSP.out
 have k1:=K1.out
 have hz:=K2.out.bel
 clear r0 r1 r2 f0 f1 f2 ql K1 K2 HSP
 generalize ((w3.setCell ⟨X+1,0,none⟩ (.int .i64 r)).setCell ⟨X+1,1,none⟩ (.int .i64 c)).setCell ⟨X+1,2,none⟩ (.slice sa r sk)=W9 at *
 have e0:W9.cell? ⟨X+1,0,none⟩=some (.int .i64 r):=k1.cell 0
 have e1:W9.cell? ⟨X+1,1,none⟩=some (.int .i64 c):=k1.cell 1
 have e2:W9.cell? ⟨X+1,2,none⟩=some (.slice sa r sk):=k1.cell 2
 refine bodyPost_ret (v:=.agg #[.int .i64 r,.int .i64 c,.slice sa r sk]) ?_ rfl ⟨⟨_,rfl,hm⟩,by rw[←HX.out];exact hz⟩
 simp[results,Tryz.results23,go_sem,e0,e1,e2]
end Gus
end
section
namespace Gus
open Go Go.RowKit Go.Proofs
theorem ext_nat {l m:List Nat} (h:l.length=m.length) (h2:∀ i,i<l.length→l.getD i 0=m.getD i 0):l=m:=by
 apply List.ext_getElem h
 intro i h1 h3
 have:=h2 i h1
 rwa [List.getD_eq_getElem?_getD,List.getD_eq_getElem?_getD,List.getElem?_eq_getElem h1,List.getElem?_eq_getElem h3] at this
set_option maxRecDepth 100000 in
set_option maxHeartbeats 4000000 in
theorem lsame_any (w:World) (x y:Value) (l m:List Nat) (hx:GrpAt w x l) (hy:GrpAt w y m) (hl:l.length≤4096) (hm:m.length≤4096) :
  Calls Tryz.prog 33 #[x,y] w fun e w'=>e=.returned (.bool (decide (l=m)))∧Below w.heap.size w w':=by
 obtain⟨a,c,rfl,ha⟩:=hx
 obtain⟨a',c',rfl,ha'⟩:=hy
 have HA:=Lib.hid ha
 have HA':=Lib.hid ha'
 obtain⟨L,hL⟩:∃ L,L=l.length:=⟨_,rfl⟩
 obtain⟨M,hM⟩:∃ M,M=m.length:=⟨_,rfl⟩
 rw[←hL] at hl ⊢
 rw[←hM] at hm ⊢
 have HL:=Lib.hid hL
 have HM:=Lib.hid hM
 clear ha ha' hL hM
 have hbel:=Below.refl w.heap.size w
 by_cases hLM:L=M
 ·subst hLM
  go_enter Tryz.func33,Tryz.ntmps33
  go_wp2_with fail
  go_loopw [5] (fun v5 wr=>∃ i:Nat,i≤L∧v5=.int .i64 i∧In w.heap.size w wr∧(∀ j,j<i→l.getD j 0=m.getD j 0)) (fun v5 _=>L - (RowKit.intOf v5).toNat)
  case atStart=>exact⟨0,Nat.zero_le _,rfl,In.self w,fun j hj=>absurd hj (Nat.not_lt_zero _)⟩
  case round=>
   obtain⟨i,hi,rfl,hin,he⟩:=hrel
   by_cases hiL:i<L
   ·have iI:(i:Int)<L:=by omega
    have i0':(0:Int)≤i:=by omega
    have iw:IntKind.i64.wrap ((i:Int)+1)=((i+1:Nat):Int):=IntWalk.i64_in _ (by omega)
    have hil:i<l.length:=by rw[←HL.out];exact hiL
    have him:i<m.length:=by rw[←HM.out];exact hiL
    obtain⟨b,o,rfl,hb,hc⟩:=(HA.out.call hin.bel) i (by rw[zl_length];exact hil)
    obtain⟨b',o',rfl,hb',hc'⟩:=(HA'.out.call hin.bel) i (by rw[zl_length];exact him)
    rw[zl_getD hil] at hc
    rw[zl_getD him] at hc'
    obtain⟨p,hp⟩:∃ p,p=l.getD i 0:=⟨_,rfl⟩
    obtain⟨q,hq⟩:∃ q,q=m.getD i 0:=⟨_,rfl⟩
    rw[←hp] at hc
    rw[←hq] at hc'
    have HP:=Lib.hid hp
    have HQ:=Lib.hid hq
    have HE:=Lib.hid he
    clear hp hq he hil him
    go_upto_region 6 with fail
    refine wp_region_mixT (In wr.heap.size wr) 8 (.quiet 0 (.quiet 1 (.quiet 2 (.quiet 3 (.quiet 4 (.quiet 5 (.quiet 6 (.quiet 7 (.one 8 .done))))))))) (by kernel_rfl) (by kernel_rfl) (by kernel_rfl) (by kernel_rfl) (by kernel_rfl) (by kernel_rfl) (by kernel_rfl) (by kernel_rfl) (fun _ _ d _ _ h=>by cases d <;> exact h) ?_ ?_
    ·exact(In.self wr).drew
    (repeat (apply mixT_take;(focus rfl);(focus rfl);(focus (intro w' hw';have hc':=hw'.cell;go_simp;exact rfl));refine tput ?_))
    have hind:=(In.self wr).drew
    replace hin:=hin.call hind.bel
    clear hc hc' hb hb' hind
    generalize wr.drew=w3 at *
    (apply mixT_run;(focus rfl);(focus rfl);intro K hK;go_simp)
    refine hK _ _ (fun h=>absurd h (by decide)) ?_
    clear hK K
    refine mixT_done ?_
    have HIN:=Lib.hid hin
    clear hin
    by_cases hpq:p=q
    ·have HPQ:=Lib.hid hpq
     have f1:((p:Int) != (q:Int))=false:=by rw[hpq];simp
     clear hpq
     go_wp2_with fail
     exact⟨⟨i+1,by omega,by go_num,HIN.out,fun j hj=>by
      rcases Nat.lt_or_ge j i with h | h
      ·exact HE.out j h
      ·obtain rfl:j=i:=by omega
       rw[←HP.out,←HQ.out];exact HPQ.out⟩,by simp[RowKit.intOf];omega⟩
    ·have hne:¬ l=m:=fun h=>hpq (by rw[HP.out,HQ.out,h])
     have f1:((p:Int) != (q:Int))=true:=bne_iff_ne.2 (by omega)
     have HN:=Lib.hid (decide_eq_false hne)
     clear hpq hne
     go_wp2_with fail
     exact bodyPost_ret (v:=.bool false) (by simp[results,Tryz.results33,go_sem]) rfl ⟨by rw[HN.out],HIN.out.bel⟩
   ·obtain rfl:i=L:=by omega
    have iI:¬ (i:Int)<i:=by omega
    have he2:l=m:=ext_nat (by rw[←HL.out,←HM.out]) fun j hj=>he j (by rw[HL.out];exact hj)
    have HN:=Lib.hid (decide_eq_true he2)
    have HIN:=Lib.hid hin
    clear he he2 hin
    go_wp2_with fail
    exact bodyPost_ret (v:=.bool true) (by simp[results,Tryz.results33,go_sem]) rfl ⟨by rw[HN.out],HIN.out.bel⟩
 ·have hne:¬ l=m:=fun h=>hLM (by rw[HL.out,HM.out,h])
  have f1:((L:Int) != (M:Int))=true:=bne_iff_ne.2 (by omega)
  have HN:=Lib.hid (decide_eq_false hne)
  clear hne hLM
  go_enter Tryz.func33,Tryz.ntmps33
  go_wp2_with fail
  exact bodyPost_ret (v:=.bool false) (by simp[results,Tryz.results33,go_sem]) rfl ⟨by rw[HN.out],hbel⟩
end Gus
end
section
namespace Gus
open Go Go.RowKit Go.Proofs
theorem ints_box {w:World} {b:Nat} {T:TypeId} {xs:List Int} (h:Bx w b T (xs.map fun x=>.int .i64 x)):IntsAt w (some ⟨b,0,none⟩) xs:=fun i hi=>by
 refine⟨b,0,rfl,h.lt, ?_⟩
 rw[Nat.zero_add,h.cell i,List.getElem?_map,List.getElem?_eq_getElem hi,List.getD_eq_getElem?_getD,List.getElem?_eq_getElem hi];rfl
theorem grp_new {N:Nat} {w:World} {v:Value} {l:List Nat} (h:NewS N 3 (icl l) l.length v w):GrpAt w v l:=by
 obtain⟨b,rfl,_,hb⟩:=h
 refine⟨_,_,rfl,ints_box (T:=3) (xs:=zl l) ?_⟩
 unfold icl at hb
 unfold zl
 rw[List.map_map]
 exact hb
theorem w_of {N:Nat} (l:List Int) (hl:l.length≤64) (hb:∀ i,-9223372036854775808≤l.getD i 0∧l.getD i 0<9223372036854775808) (W:World) (v:Value) (h:NewS N 2 (l.map fun x=>.int .i64 x) l.length v W) :
  Calls Tryz.prog 41 #[v] W fun e w'=>(∃ d,e=.returned d∧VcQ (vl l.length (lv l)) d w')∧Below W.heap.size W w':=by
 obtain⟨G,rfl,_,hG⟩:=h
 refine(vof_any W (some ⟨G,0,none⟩) l.length l (ints_box hG) (by omega) hb).mono ?_
 rintro e w' ⟨g,rfl,hg,hv,hb⟩
 exact⟨⟨_,rfl,VBx.at hv l.length (by simp) l.length⟩,hb⟩
def TupMV (x:Value):Prop:=∃ n m a l k b j p e,x=.tuple #[.agg #[.int .i64 n,.int .i64 m,.slice a l k],.slice b j p,.int .i64 e]
def MvMV (y x:Value):Prop:=x=y∧TupMV x
def FstMV (y x:Value):Prop:=∃ n m a l k b j p e,y=.tuple #[.agg #[.int .i64 n,.int .i64 m,.slice a l k],.slice b j p,.int .i64 e]∧x=.agg #[.int .i64 n,.int .i64 m,.slice a l k]
def SndMV (y x:Value):Prop:=∃ n m a l k b j p e,y=.tuple #[.agg #[.int .i64 n,.int .i64 m,.slice a l k],.slice b j p,.int .i64 e]∧x=.slice b j p
def ThdMV (y x:Value):Prop:=∃ n m a l k b j p e,y=.tuple #[.agg #[.int .i64 n,.int .i64 m,.slice a l k],.slice b j p,.int .i64 e]∧x=.int .i64 e
def RedQ (r:Nat) (F:Mx) (L:List Rat) (x:Value) (w:World):Prop:=TupMV x∧∃ d u,x=.tuple #[d,u,.int .i64 0]∧MatS w d r r F∧VecAt w u L
theorem stable_redq (r:Nat) (F:Mx) (L:List Rat):Stable (RedQ r F L):=fun _ _ _ ⟨h1,d,u,h2,h3,h4⟩ hs=>⟨h1,d,u,h2,h3.call hs,h4.call hs⟩
theorem redq_out {r:Nat} {F:Mx} {L:List Rat} {w:World} {x y a b c:Value} (h:RedQ r F L x w) (h1:MvMV x y) (h2:FstMV y a) (h3:SndMV y b) (h4:ThdMV y c):∃ g N k j,y=.tuple #[.agg #[.int .i64 r,.int .i64 r,.slice (some ⟨g,0,none⟩) N N],.slice k L.length j,.int .i64 0]∧a=.agg #[.int .i64 r,.int .i64 r,.slice (some ⟨g,0,none⟩) N N]∧b=.slice k L.length j∧c=.int .i64 0∧MatS w (.agg #[.int .i64 r,.int .i64 r,.slice (some ⟨g,0,none⟩) N N]) r r F∧VecAt w (.slice k L.length j) L:=by
 obtain⟨_,d,u,rfl,h5,h6⟩:=h
 obtain⟨g,N,hN,rfl,hb⟩:=h5
 obtain⟨k,j,rfl⟩:=h6.shape
 obtain⟨rfl,_⟩:=h1
 obtain⟨_,_,_,_,_,_,_,_,_,e1,rfl⟩:=h2
 obtain⟨_,_,_,_,_,_,_,_,_,e2,rfl⟩:=h3
 obtain⟨_,_,_,_,_,_,_,_,_,e3,rfl⟩:=h4
 simp only[Value.tuple.injEq,Value.agg.injEq,Array.mk.injEq,List.cons.injEq,Value.slice.injEq,Value.int.injEq,true_and,and_true] at e1 e2 e3
 obtain⟨⟨rfl,rfl,rfl,rfl,rfl⟩,-⟩:=e1
 obtain⟨-,⟨rfl,rfl,rfl⟩,-⟩:=e2
 obtain⟨-,-,rfl⟩:=e3
 exact⟨g,N,_,_,rfl,rfl,rfl,rfl,⟨g,N,hN,rfl,hb⟩,h6⟩
def GsQ (ls:List (List Int)) (v:Value) (w:World):Prop:=GsAt w v ls∧CapS v
theorem stable_gsq (ls:List (List Int)):Stable (GsQ ls):=fun _ _ _ ⟨h1,h2⟩ hs=>⟨h1.call hs,h2⟩
theorem w_tv {w:World} {L:List Rat} {d:Value} (h:VecAt w d L):TupV L (.tuple #[d,.int .i64 0]) w:=by
 obtain⟨a,k,he⟩:=h.shape
 subst he
 exact⟨⟨_,_,_,_,rfl⟩,_,rfl,h⟩
theorem w_red (W:World) (s x v:Value) (hs:SpM W s 3 3 wM) (hx:GrpAt W x [0]) (hv:VecAt W v (vl 3 (lv [2,1,1]))) :
  Calls Tryz.prog 15 #[s,x,v] W fun e w'=>(∃ d,e=.returned d∧RedQ 2 wS0 [0,1] d w')∧Below W.heap.size W w':=by
 refine(sreduced_ok (z:=2) W s x v 3 [0] wM (lv [2,1,1]) hv (lv_z fun i hi=>by
  have:i=0∨i=1∨i=2:=by omega
  rcases this with rfl | rfl | rfl <;> (unfold SzK;decide +kernel)) hs hx ⟨by decide,by decide⟩ (by decide) (by decide) wM_z (by decide) (fun _=>by decide)).mono ?_
 rintro e w' ⟨⟨_,d,v,rfl,h1,h2⟩|⟨h,_⟩,hb⟩
 ·rw[show outer 3 [0]=[1,2] by decide] at h1 h2
  obtain⟨g,N,hN,rfl,h3⟩:=h1
  replace h2:VecAt w' v [0,1]:=by rw[←wv_side];exact h2
  obtain⟨k,j,rfl⟩:=h2.shape
  exact⟨⟨_,rfl,⟨_,_,_,_,_,_,_,_,_,rfl⟩,_,_,rfl,⟨g,N,hN,rfl,h3⟩,h2⟩,hb⟩
 ·exact absurd wM_ns0 h
theorem w_ext (W:World) (s x v y:Value) (hs:SpM W s 3 3 wM) (hx:GrpAt W x [0]) (hv:VecAt W v (vl 3 (lv [2,1,1]))) (hy:VecAt W y (vl 2 (lv [4,6]))) :
  Calls Tryz.prog 16 #[s,x,v,y] W fun e w'=>(∃ d,e=.returned d∧TupV [-1,4,6] d w')∧Below W.heap.size W w':=by
 refine(sextend_ok (z:=2) (yz:=4) W s x v y 3 [0] wM (lv [2,1,1]) (lv [4,6]) hv (lv_z fun i hi=>by
  have:i=0∨i=1∨i=2:=by omega
  rcases this with rfl | rfl | rfl <;> (unfold SzK;decide +kernel)) (by rw[show outer 3 [0]=[1,2] by decide];exact hy) (by decide) (by
  rw[show outer 3 [0]=[1,2] by decide]
  exact lv_z fun i hi=>by
   have:i=0∨i=1:=by simp at hi;omega
   rcases this with rfl | rfl <;> (unfold SzK;decide +kernel)) hs hx ⟨by decide,by decide⟩ (by decide) (by decide) wM_z (by decide) (fun _=>by decide) (by decide) (by decide)).mono ?_
 rintro e w' ⟨⟨_,d,rfl,h1⟩|⟨h,_⟩,hb⟩
 ·rw[show outer 3 [0]=[1,2] by decide] at h1
  replace h1:VecAt w' d [-1,4,6]:=by rw[←wv_ext];exact h1
  exact⟨⟨_,rfl,w_tv h1⟩,hb⟩
 ·exact absurd wM_ns0 h
theorem w_v353:Vz 3 4 (lv [3,5,3]):=lv_z fun i hi=>by
 have:i=0∨i=1∨i=2:=by omega
 rcases this with rfl | rfl | rfl <;> (unfold SzK;decide +kernel)
theorem w_solve (W:World) (s x v:Value) (hs:SpM W s 3 3 wM) (hx:GrpAt W x [1]) (hv:VecAt W v (vl 3 (lv [3,5,3]))) :
  Calls Tryz.prog 17 #[s,x,v] W fun e w'=>(∃ d,e=.returned d∧TupV [1,1,1] d w')∧Below W.heap.size W w':=by
 refine(sSolve_ok (z:=4) W s x v 3 [1] wM (lv [3,5,3]) hv w_v353 hs hx ⟨by decide,by decide⟩ (by decide) (by decide) (wM_z.mono (by decide)) (nestC_of _ _ _ _ _ rfl ⟨by decide,by decide⟩ (by decide) (by decide))).mono ?_
 rintro e w' ⟨⟨_,d,rfl,h1⟩|⟨h,_⟩,hb⟩
 ·replace h1:VecAt w' d [1,1,1]:=by rw[←wv_solve];exact h1
  exact⟨⟨_,rfl,w_tv h1⟩,hb⟩
 ·exact absurd wv_ok1 h
theorem w_nest (W:World) (s x v:Value) (hs:SpM W s 3 3 wM) (hx:GsQ [zl [0],zl [2]] x W) (hv:VecAt W v (vl 3 (lv [3,5,3]))) :
  Calls Tryz.prog 18 #[s,x,v] W fun e w'=>(∃ d,e=.returned d∧TupV [1,1,1] d w')∧Below W.heap.size W w':=by
 refine(sNested_ok (z:=4) W s x v 3 [[0],[2]] wM (lv [3,5,3]) hv w_v353 hs hx.1 hx.2 ⟨by decide,by decide⟩ (by decide) (by decide) (by decide) (wM_z.mono (by decide)) (nestC_of _ _ _ _ _ rfl ⟨by decide,by decide⟩ (by decide) (by decide))).mono ?_
 rintro e w' ⟨⟨_,d,rfl,h1⟩|⟨h,_⟩,hb⟩
 ·replace h1:VecAt w' d [1,1,1]:=by rw[←wv_nest];exact h1
  exact⟨⟨_,rfl,w_tv h1⟩,hb⟩
 ·exact absurd wv_ok2 h
theorem w_cmp0 (W:World) (s x:Value) (hs:SpM W s 3 3 wM) (hx:GrpAt W x [0]) :
  Calls Tryz.prog 14 #[s,x] W fun e w'=>(∃ d,e=.returned (.tuple #[d,.int .i64 0])∧MatS w' d 2 2 wS0)∧Below W.heap.size W w':=by
 refine(scomplement_ok (z:=2) W s x 3 [0] wM hs hx ⟨by decide,by decide⟩ (by decide) (by decide) wM_z (by decide) (fun _=>by decide)).mono ?_
 rintro e w' ⟨⟨_,d,rfl,h1⟩|⟨h,_⟩,hb⟩
 ·rw[show outer 3 [0]=[1,2] by decide] at h1
  exact⟨⟨_,rfl,h1⟩,hb⟩
 ·exact absurd wM_ns0 h
theorem w_cmp20 (W:World) (s x:Value) (hs:SpM W s 3 3 wM) (hx:GrpAt W x [2,0]) :
  Calls Tryz.prog 14 #[s,x] W fun e w'=>(∃ d,e=.returned (.tuple #[d,.int .i64 0])∧MatS w' d 1 1 wS20)∧Below W.heap.size W w':=by
 refine(scomplement_ok (z:=2) W s x 3 [2,0] wM hs hx ⟨by decide,by decide⟩ (by decide) (by decide) wM_z (by decide) (fun _=>by decide)).mono ?_
 rintro e w' ⟨⟨_,d,rfl,h1⟩|⟨h,_⟩,hb⟩
 ·rw[show outer 3 [2,0]=[1] by decide] at h1
  exact⟨⟨_,rfl,h1⟩,hb⟩
 ·exact absurd wM_ns20 h
end Gus
end
