/- Proved here: parts of the proof: KSqw KSqx KSqy. Conditions: those that each theorem states. -/
import Derived.Test.YthblojaeoiemmaaGreatDoorKSquQ
section
namespace Gus
open Go Go.RowKit Go.Proofs
set_option maxRecDepth 100000 in
set_option maxHeartbeats 8000000 in
theorem sNested_ok {z:Nat} (w:World) (s gv bv:Value) (n:Nat) (gs:List (List Nat)) (M:Mx) (b:Vc) (hb0:VecAt w bv (vl n b)) (hbz:Vz n z b) (hS:SpM w s n n M) (hG:GsAt w gv (gs.map zl)) (hC:CapS gv) (hg:Grp n gs.flatten) (hgl:gs.length≤4096) (hn:n≤16) (hz:1≤z) (hzM:Mz n n z M) (hcap:NestC gs.length gs n M z) :
  Calls Tryz.prog 18 #[s,gv,bv] w (NestP w gs.length gs n M b):=by
 obtain⟨ba,bc,rfl⟩:=hb0.shape
 rw[vl_length] at hb0 ⊢
 have HS:=Lib.hid hS
 obtain⟨sa,sc,rfl⟩:=hS.shape
 have HG:=Lib.hid hG
 have HC:=Lib.hid hC
 obtain⟨ga,gc,rfl⟩:=hG.shape
 obtain⟨L,hL⟩:∃ L,L=gs.length:=⟨_,rfl⟩
 rw[List.length_map,←hL] at HG HC ⊢
 rw[←hL] at hcap
 have HL:=Lib.hid hL
 have hE:=grpE_ok (by omega) hg
 have HGR:=Lib.hid hg
 have HGL:=Lib.hid hgl
 have HZ:=Lib.hid hzM
 have HBZ:=Lib.hid hbz
 have HCAP:=Lib.hid hcap
 clear hS hG hC hL hg hgl hzM hbz hcap
 have hin:=In.self w
 go_enter Tryz.func18,Tryz.ntmps18
 go_upto_region 1 with fail
 ((obtain⟨X,hXX⟩:∃ z,z=w.heap.size:=⟨_,rfl⟩);(have bV0:=(Bx.new_at w #[.int .i64 n,.int .i64 n,.slice sa n sc] 27 (n:=X) (by simp[hXX])));(have hV:=((In.self w).alloc (.cells #[.int .i64 n,.int .i64 n,.slice sa n sc] 27)));(rw[←hXX] at hV ⊢);(have HX:=Lib.hid hXX);clear hXX;(generalize w.alloc (.cells #[.int .i64 n,.int .i64 n,.slice sa n sc] 27)=V at *))
 have hV0:=hV
 rw[HX.out] at hV0
 have hS:=HS.out.call hV0.bel
 have hG:=HG.out.call hV0.bel
 replace hb0:=hb0.call hV0.bel
 clear hV0 HS HG hin
 have cd:=sdense_ok V _ _ n M (gs.map zl) hS (by omega) hG (by rw[List.length_map];exact HGL.out)
 rw[hE] at cd
 (have x0:=bV0.c0;have x1:=bV0.c1;have x2:=bV0.c2;have xl:=bV0.lt)
 (go_wp2_with fail;(((with_reducible refine(cd).mono ?_)));(rintro e w2 ⟨⟨d,rfl,hd⟩,hb⟩);clear x0 x1 x2 xl cd hS hE;replace hV:=hV.call hb;replace hG:=hG.call hb;replace hb0:=hb0.call hb;replace bV0:=bV0.call hb;clear hb)
 obtain⟨g,N,hN,hde,hbd⟩:=id hd
 subst hde
 clear hN hbd
 go_upto_region 2 with fail
 ((obtain⟨D,hD⟩:∃ z,z=w2.heap.size:=⟨_,rfl⟩);(have bD:=Bx.new_at w2 #[.int .i64 (n:Nat),.int .i64 (n:Nat),.slice (some ⟨g,0,none⟩) N N] 37 hD);(replace hV:=hV.alloc (.cells #[.int .i64 (n:Nat),.int .i64 (n:Nat),.slice (some ⟨g,0,none⟩) N N] 37));(replace bV0:=bV0.alloc (.cells #[.int .i64 (n:Nat),.int .i64 (n:Nat),.slice (some ⟨g,0,none⟩) N N] 37));(replace hG:=hG.call ((Below.refl _ _).alloc (Nat.le_refl _) (.cells #[.int .i64 (n:Nat),.int .i64 (n:Nat),.slice (some ⟨g,0,none⟩) N N] 37)));(replace hb0:=hb0.call ((Below.refl _ _).alloc (Nat.le_refl _) (.cells #[.int .i64 (n:Nat),.int .i64 (n:Nat),.slice (some ⟨g,0,none⟩) N N] 37)));(replace hd:=hd.call ((Below.refl _ _).alloc (Nat.le_refl _) (.cells #[.int .i64 (n:Nat),.int .i64 (n:Nat),.slice (some ⟨g,0,none⟩) N N] 37)));(rw[←hD]);clear hD;(generalize w2.alloc (.cells #[.int .i64 (n:Nat),.int .i64 (n:Nat),.slice (some ⟨g,0,none⟩) N N] 37)=w3 at *))
 have cl:=fun W=>slength_any W ba n bc n
 rw[lenE_ok (by omega)] at cl
 (have x0:=bV0.c0;have x1:=bV0.c1;have x2:=bV0.c2;have xl:=bV0.lt)
 (go_wp2_with fail;(((with_reducible refine(cl _).mono ?_)));rintro e w4 ⟨rfl,hb⟩;clear x0 x1 x2 xl cl;replace hV:=hV.call hb;replace hG:=hG.call hb;replace hb0:=hb0.call hb;replace hd:=hd.call hb;replace bV0:=bV0.call hb;replace bD:=bD.call hb;clear hb)
 have cn:=snested_any L gs z w4 _ _ _ n M b HL.out.symm (by rw[HL.out];exact HGL.out) hd hG HC.out HGR.out hb0 hn hz HZ.out HBZ.out HCAP.out
 (have x0:=bD.c0;have x1:=bD.c1;have x2:=bD.c2;have xl:=bD.lt)
 (go_wp2_with fail;(((with_reducible refine(cn).mono ?_)));(rintro e w5 ⟨hI,hb⟩);clear x0 x1 x2 xl cn hd hG;replace hV:=hV.call hb;replace hb0:=hb0.call hb;replace bV0:=bV0.call hb;replace bD:=bD.call hb;clear hb)
 have hbel:=hV.bel
 rw[HX.out] at hbel
 clear hV bV0 bD hb0
 rcases hI with ⟨hns,d,rfl,hd⟩|⟨hns,rfl⟩
 ·obtain⟨da,dc,rfl⟩:=hd.shape
  rw[vl_length] at hd ⊢
  have H1:=Lib.hid hd
  have HNS:=Lib.hid hns
  clear hns hd
  go_wp2_with fail
  exact bodyPost_ret (v:=.tuple #[.slice da n dc,.int .i64 0]) (by simp[results,Tryz.results18,go_sem]) rfl ⟨.inl ⟨HNS.out,_,rfl,H1.out⟩,hbel⟩
 ·have HNS:=Lib.hid hns
  clear hns
  go_wp2_with fail
  exact bodyPost_ret (v:=.tuple #[.slice none 0 0,.int .i64 6]) (by simp[results,Tryz.results18,go_sem]) rfl ⟨.inr ⟨HNS.out,rfl⟩,hbel⟩
set_option maxRecDepth 100000 in
set_option maxHeartbeats 8000000 in
theorem sSolve_ok {z:Nat} (w:World) (s gv bv:Value) (n:Nat) (ii:List Nat) (M:Mx) (b:Vc) (hb0:VecAt w bv (vl n b)) (hbz:Vz n z b) (hS:SpM w s n n M) (hG:GrpAt w gv ii) (hg:Grp n ii) (hn:n≤16) (hz:1≤z) (hzM:Mz n n z M) (hcap:NestC 1 [ii] n M z) :
  Calls Tryz.prog 17 #[s,gv,bv] w (NestP w 1 [ii] n M b):=by
 have cn:=fun W gv (h:In w.heap.size w W) (hgs:GsAt W gv ([ii].map zl)) (hc:CapS gv)=>sNested_ok W s gv bv n [ii] M b (hb0.call h.bel) hbz (hS.call h.bel) hgs hc (by simpa using hg) (by simp) hn hz hzM hcap
 obtain⟨ba,bc,rfl⟩:=hb0.shape
 rw[vl_length] at hb0 cn ⊢
 obtain⟨sa,sc,rfl⟩:=hS.shape
 have HG:=Lib.hid hG
 obtain⟨a0,c0,rfl⟩:=hG.shape
 obtain⟨L,hL⟩:∃ L,L=ii.length:=⟨_,rfl⟩
 rw[←hL] at HG ⊢
 have HL:=Lib.hid hL
 clear hS hG hL hg hzM hbz hcap hb0
 have hin:=In.self w
 go_enter Tryz.func17,Tryz.ntmps17
 go_upto_region 1 with fail
 ((obtain⟨X,hXX⟩:∃ z,z=w.heap.size:=⟨_,rfl⟩);(have bV0:=(Bx.new_at w #[.int .i64 n,.int .i64 n,.slice sa n sc] 27 (n:=X) (by simp[hXX])));(have hV:=((In.self w).alloc (.cells #[.int .i64 n,.int .i64 n,.slice sa n sc] 27)));(rw[←hXX] at hV ⊢);(have HX:=Lib.hid hXX);clear hXX;(generalize w.alloc (.cells #[.int .i64 n,.int .i64 n,.slice sa n sc] 27)=V at *))
 have hV0:=hV
 rw[HX.out] at hV0
 have hG:=HG.out.call hV0.bel
 have cn2:=fun W gv (h:In V.heap.size V W)=>cn W gv (hV0.call h.bel)
 clear HG hin cn
 (have x0:=bV0.c0;have x1:=bV0.c1;have x2:=bV0.c2;have xl:=bV0.lt)
 go_wp2_with fail
 have hI2:=(In.self V).alloc (.cells #[.slice a0 L c0] 22)
 have bG:=Bx.new_at V #[.slice a0 L c0] 22 rfl
 have cn3:=cn2 _ (.slice (some ⟨V.heap.size,0,none⟩) 1 1) hI2 ((hG.call hI2.bel).gs bG) ⟨_,_,_,rfl,Nat.le_refl _⟩
 (with_reducible refine cn3.mono ?_)
 rintro e w2 ⟨hI,hb⟩
 have hbel:=(hV0.call (hI2.call hb).bel).bel
 clear hb cn2 cn3 hI2 bG x0 x1 x2 xl hV hV0 bV0 hG
 rcases hI with ⟨hns,d,rfl,hd⟩|⟨hns,rfl⟩
 ·obtain⟨da,dc,rfl⟩:=hd.shape
  rw[vl_length] at hd ⊢
  have H1:=Lib.hid hd
  have HNS:=Lib.hid hns
  clear hns hd
  go_wp2_with fail
  exact bodyPost_ret (v:=.tuple #[.slice da n dc,.int .i64 0]) (by simp[results,Tryz.results17,go_sem]) rfl ⟨.inl ⟨HNS.out,_,rfl,H1.out⟩,hbel⟩
 ·have HNS:=Lib.hid hns
  clear hns
  go_wp2_with fail
  exact bodyPost_ret (v:=.tuple #[.slice none 0 0,.int .i64 6]) (by simp[results,Tryz.results17,go_sem]) rfl ⟨.inr ⟨HNS.out,rfl⟩,hbel⟩
end Gus
end
section
namespace Gus
open Go Go.RowKit Go.Proofs
set_option maxRecDepth 100000 in
set_option maxHeartbeats 4000000 in
theorem msub_any {j:Nat} (w:World) (x y:Value) (r c r' c':Nat) (qs ps:List Rat) (hx:MatAt w x r c qs) (hy:MatAt w y r' c' ps) (hr:r≤2048) (hc:c≤2048) (hr':r'≤2048) (hc':c'≤2048) (hq:∀ i,SzK j (qs.getD i 0)) (hp:∀ i,SzK j (ps.getD i 0)) (hj:j+j+1<17592186044416) :
  Calls Tryz.prog 81 #[x,y] w fun e w'=>(∃ d e',e=.returned (.tuple #[d,.int .i64 e'])∧DRes (sizesDiffer r c r' c') r c (fun i k=>mvals c qs i k - mvals c ps i k) w' d e')∧Below w.heap.size w w':=by
 have eg:∀ args w,(callFunc 88 args).run Tryz.prog w=.ok (.enter 88 args) w:=enters_of Tryz.func88 (by kernel_rfl) rfl
 have c1:=fun W (hb:Below w.heap.size w W)=>meach_any (· - ·) W x y r c r' c' 88 #[] qs ps (hx.call hb) (hy.call hb) hr hc hr' hc' eg (fun i k W2 _ _ _ _ _=>fsub_any _ _ (hq _) (hp _) hj W2)
 obtain⟨a,k,rfl⟩:=hx.shape
 obtain⟨a',k',rfl⟩:=hy.shape
 obtain⟨n,hn⟩:∃ n,n=qs.length:=⟨_,rfl⟩
 obtain⟨n',hn'⟩:∃ n,n=ps.length:=⟨_,rfl⟩
 rw[←hn,←hn'] at c1
 rw[←hn,←hn']
 obtain⟨X,hX⟩:∃ X,X=w.heap.size:=⟨_,rfl⟩
 have HX:=Lib.hid hX
 clear hn hn' hx hy hq hp eg
 go_enter Tryz.func81,Tryz.ntmps81
 go_wp2_with fail
 ((with_reducible refine(c1 _ ?_).mono ?_))
 ·exact((((In.self w).alloc _).alloc _).alloc _).bel
 rintro e w2 ⟨⟨d,e',rfl,hd⟩,hb⟩
 obtain⟨pn,pm,pa,pl,pk,rfl⟩:=hd.1
 have hin:=((((In.self w).alloc (.cells #[.int .i64 r,.int .i64 c,.slice a n k] 37)).alloc (.cells #[.int .i64 r',.int .i64 c',.slice a' n' k'] 37)).alloc (.cells #[.int .i64 0,.int .i64 0,.slice none 0 0] 37)).call hb
 have bq:=(Bx.new_at ((w.alloc (.cells #[.int .i64 r,.int .i64 c,.slice a n k] 37)).alloc (.cells #[.int .i64 r',.int .i64 c',.slice a' n' k'] 37)) #[.int .i64 0,.int .i64 0,.slice none 0 0] 37 (n:=X+1+1) (by rw[World.size_alloc,World.size_alloc,hX])).call hb
 rw[←hX]
 clear hX hb c1
 ((have K5:=Lib.hid (hd.put3 (p':=pn) (q':=pm) (ao':=pa) (n':=pl) (k':=pk) bq));
       have r0:=bq.c0;
       have r1:=bq.c1;
       have r2:=bq.c2;
       (have f0:=bq.frozen 0);
       (have f1:=bq.frozen 1);
       (have f2:=bq.frozen 2);
       have ql:=bq.lt;
       (have K1:=Lib.hid (((bq.set 0 (.int .i64 pn)).set 1 (.int .i64 pm)).set 2 (.slice pa pl pk)));
       (have K2:=Lib.hid (((hin.setCell (p:=⟨(X+1+1),0,none⟩) (by first |(simp;done)|(have:=HX.out;simp;omega)) (.int .i64 pn)).setCell (p:=⟨(X+1+1),1,none⟩) (by first |(simp;done)|(have:=HX.out;simp;omega)) (.int .i64 pm)).setCell (p:=⟨(X+1+1),2,none⟩) (by first |(simp;done)|(have:=HX.out;simp;omega)) (.slice pa pl pk)));
       clear bq hin hd;
       go_wp2_with fail;
       have k1:=K1.out;
       have k2:=K2.out;
       have hm:=K5.out;
       clear r0 r1 r2 f0 f1 f2 ql K1 K2 K5;
       (generalize (((w2.setCell ⟨(X+1+1),0,none⟩ (.int .i64 pn)).setCell ⟨(X+1+1),1,none⟩ (.int .i64 pm)).setCell ⟨(X+1+1),2,none⟩ (.slice pa pl pk))=W9 at *);
       (have e0:W9.cell? ⟨(X+1+1),0,none⟩=some (.int .i64 pn):=k1.cell 0);
       (have e1:W9.cell? ⟨(X+1+1),1,none⟩=some (.int .i64 pm):=k1.cell 1);
       (have e2:W9.cell? ⟨(X+1+1),2,none⟩=some (.slice pa pl pk):=k1.cell 2);
       have hz:=k2.bel;
       (refine bodyPost_ret (v:=.tuple #[.agg #[.int .i64 pn,.int .i64 pm,.slice pa pl pk],.int .i64 e']) ?_ rfl ⟨⟨_,_,rfl,hm⟩,hz⟩);
       (simp[results,Tryz.results81,go_sem,e0,e1,e2]))
end Gus
end
section
namespace Gus
open Go Go.RowKit Go.Proofs
section
variable {P:Program} {ops:Array Oper} {Q:Exit→Act→World→Prop} {S:World→Prop} {n:Nat}
theorem mixT_lr {i j:Nat} {r s:MPlan} {o o':Oper} {a:Act} {w:World} (ho:ops.toList[i]?=some o) (ho':ops.toList[j]?=some o') (hw':Region.wanted o' (yielded ops a.tmps)=true)
  (h:wpList P ops (mixQ Q fun a' w'=>(i<n→S w')∧wpMixT P ops Q S n r a' w') [o] a w) (h':∀ K:Act→World→Prop,(∀ a w,(j<n→S w)→wpMixT P ops Q S n s a w→K a w)→o'.wp P a w K Q):wpMixT P ops Q S n (.two i j r s) a w:=⟨opT_list ho h,opT_run ho' hw' h'⟩
end
theorem wpList_append_ints {ops:Array Oper} {rest:List Oper} {o:Oper} {a:Act} {Q:Exit→Act→World→Prop} {w:World} (hgd:o.guard=none) (s x:Operand) (t:TypeId)
  (ho:o.op=.call { callee:=.builtin .append,args:=#[s,x],argTypes:=#[t,t] })
  (base:Nat) (i:TypeInfo) (ht:Tryz.prog.underlying t=some (.slice 3)) (hi:Tryz.prog.info? 3=some i) (hz:i.zero=some (.int .i64 0)) (hsize:i.size=1) (hby:i.bytes=8)
  (v:Value) (n:Nat) (xs:List Value) (hs:a.eval s=v) (hown:w.ownsRow base 3 1 v n xs)
  (sa:Option Addr) (m c:Nat) (l:List Nat) (hx:a.eval x=.slice sa m c) (hl:m=l.length) (hd:IntsAt w sa (zl l)) (hm:n+m≤2199023255552) (hbase:base≤w.heap.size)
  (h:∀ v' w',w'.ownsRow base 3 1 v' (n+m) (xs ++ icl l)→w.grownBy w' v.ownBlock→wpList Tryz.prog ops Q rest (a.put o.dst v') w'):wpList Tryz.prog ops Q (o :: rest) a w:=by
 have hlen:(icl l).length=m*1:=by simp[icl,hl]
 cases sa with
 | some ad=>
  refine wpList_append_own w hgd s x t ho base 3 i (.int .i64 0) 1 8 ht hi hz hsize hby rfl (by decide) v n xs hs hown ad m c (icl l) hx hlen ?_ ?_ (by simp only[maxLen];omega) (by omega) hbase (fun v' w' h1 h2 _=>h v' w' h1 h2)
  ·intro j u hj
   have hlt:j<l.length:=by
    have:=(List.getElem?_eq_some_iff.1 hj).1
    simpa[icl] using this
   obtain⟨b',off',he,_,hc⟩:=hd j (by rw[zl_length];exact hlt)
   simp only[Option.some.injEq] at he
   rw[he,Addr.add_lit,hc,←hj]
   simp[icl,zl,List.getD_eq_getElem?_getD,List.getElem?_eq_getElem hlt]
  ·intro u hu
   simp only[icl,List.mem_map] at hu
   obtain⟨d,_,rfl⟩:=hu;rfl
 | none=>
  have hm0:m=0:=by
   rw[hl]
   cases l with
   | nil=>rfl
   | cons d l=>obtain⟨b',off',he,_⟩:=hd 0 (by simp[zl]);cases he
  subst hm0
  have hf:=fun W=>run_firstCells_none (P:=Tryz.prog) (w:=W) 1 0 0 c
  have hap:∀ W,(Builtin.append_ #[t,t] o.type #[v,.slice none 0 c]).run Tryz.prog W=.ok v W:=fun W=>by
   rcases hown.2 with ⟨h1,h2⟩|⟨g,cap,cur,h1,_,_,h2,_⟩
   ·subst h1
    simp[Builtin.append_,run_underlying ht,Go.sizeOf,typeInfo,hi,hsize,Builtin.lenOf,hf]
   ·subst h1
    simp[Builtin.append_,run_underlying ht,Go.sizeOf,typeInfo,hi,hsize,Builtin.lenOf,hf,storeCells,h2]
  refine wpList_plain hgd fun K hK'=>?_
  unfold Oper.wp execOp
  simp only[ho,resolve,invoke,builtin,Sem.run_bind,Sem.run_pure,Result.andThen_ok,List.map_toArray,List.map_cons,List.map_nil,hs,hx,hap]
  refine hK' _ _ (h _ _ ?_ ⟨rfl,rfl,rfl,Nat.le_refl _,fun _ _ _=>rfl⟩)
  have hl0:l=[]:=List.length_eq_zero_iff.1 hl.symm
  rw[hl0]
  show w.ownsRow base 3 1 _ (n+0) (xs ++ [])
  rw[List.append_nil];exact hown
theorem ints_take {w:World} {b off:Nat} {l:List Nat} (h:IntsAt w (some ⟨b,off,none⟩) (zl l)) (t:Nat):IntsAt w (some ⟨b,off,none⟩) (zl (l.take t)):=fun i hi=>by
 rw[zl_length,List.length_take] at hi
 obtain⟨b',off',he,h1,h2⟩:=h i (by rw[zl_length];omega)
 refine⟨b',off',he,h1, ?_⟩
 rw[h2]
 have:i<l.length:=by omega
 simp[zl,List.getD_eq_getElem?_getD,show i<t by omega,List.getElem?_eq_getElem this]
theorem ints_drop {w:World} {b off:Nat} {l:List Nat} (h:IntsAt w (some ⟨b,off,none⟩) (zl l)) (t:Nat):IntsAt w (some ⟨b,off+t,none⟩) (zl (l.drop t)):=fun i hi=>by
 rw[zl_length,List.length_drop] at hi
 obtain⟨b',off',he,h1,h2⟩:=h (t+i) (by rw[zl_length];omega)
 injection he with he
 injection he with e1 e2
 subst e1 e2
 refine⟨b,off+t,rfl,h1, ?_⟩
 rw[Nat.add_assoc,h2]
 simp[zl,List.getD_eq_getElem?_getD,List.getElem?_drop]
theorem ints_nil (w:World) (a:Option Addr):IntsAt w a (zl []):=fun i hi=>absurd hi (by simp[zl])
theorem own_in {base:Nat} {W w w':World} {T:TypeId} {s n:Nat} {v:Value} {xs:List Value} (hin:In base W w) (hown:w.ownsRow base T s v n xs) (hgr:w.grownBy w' v.ownBlock):In base W w':=
 ⟨hin.bel.grown hgr hin.siz (fun k h=>(World.ownsRow.lt hown k h).1),Nat.le_trans hin.siz hgr.size⟩
theorem ints_bx {w:World} {b:Nat} {T:TypeId} {i:Nat} (h:Bx w b T [.int .i64 (i:Nat)]):IntsAt w (some ⟨b,0,none⟩) (zl [i]):=fun j hj=>by
 obtain rfl:j=0:=by simp[zl] at hj;omega
 exact⟨b,0,rfl,h.lt,h.c0⟩
def permT (ks:List Nat) (i:Nat):Nat:=if i<ks.length then ks.getD i 0 % (i+1) else i
theorem permT_le (ks:List Nat) (i:Nat):permT ks i≤i:=by
 unfold permT
 split
 ·exact Nat.le_of_lt_succ (Nat.mod_lt _ (by omega))
 ·exact Nat.le_refl _
theorem permK_succ (ks:List Nat) (i:Nat):permK ks (i+1)=(permK ks i).take (permT ks i) ++ [i] ++ (permK ks i).drop (permT ks i):=rfl
theorem perm_own {w:World} {lo lo' i t:Nat} {v:Value} {ks ln:List Nat} (hln:ln=permK ks i) (ht:t=permT ks i) (hi:t≤i) (h:w.ownsRow lo 3 1 v (t+1+(i - t)) (icl (ln.take t) ++ icl [i] ++ icl (ln.drop t))) (hl:lo'≤lo):w.ownsRow lo' 3 1 v (i+1) (icl (permK ks (i+1))):=by
 rw[show t+1+(i - t)=i+1 by omega] at h
 rw[permK_succ,←hln,←ht]
 unfold icl at h ⊢
 rw[List.map_append,List.map_append]
 exact owns_low h hl
set_option maxRecDepth 100000 in
set_option maxHeartbeats 16000000 in
theorem perm_any (w:World) (n:Nat) (a:Option Addr) (c:Nat) (ks:List Nat) (hk:U8At w a ks) (hkb:∀ i,ks.getD i 0<256) (hn:n≤256) :
  Calls Tryz.prog 60 #[.int .i64 (n:Nat),.slice a ks.length c] w fun e w'=>(∃ a' c',e=.returned (.slice a' n c')∧n≤c'∧(n=0∧a'=none∧c'=0∨∃ g,a'=some ⟨g,0,none⟩)∧IntsAt w' a' (zl (permK ks n)))∧Below w.heap.size w w':=by
 obtain⟨K,hK⟩:∃ K,K=ks.length:=⟨_,rfl⟩
 rw[←hK]
 have HK:=Lib.hid hK
 have HU:=Lib.hid hk
 have HB:=Lib.hid hkb
 obtain⟨i0,hi0,hi1,hi2,hi3⟩:=info_parts info_int8
 have hin:=In.self w
 clear hK hk hkb
 go_enter Tryz.func60,Tryz.ntmps60
 go_wp2_with fail
 go_loopw [5,6] (fun v5 v6 wr=>∃ i:Nat,i≤n∧v6=.int .i64 i∧In w.heap.size w wr∧wr.ownsRow w.heap.size 3 1 v5 i (icl (permK ks i))) (fun _ v6 _=>n - (RowKit.intOf v6).toNat)
 case atStart=>exact⟨0,Nat.zero_le _,rfl,hin,World.ownsRow_nil _ _ _ _⟩
 case round=>
  clear hin
  obtain⟨i,hi,rfl,hin,hown⟩:=hrel
  by_cases hiN:i<n
  ·have iI:(i:Int)<n:=by omega
   have i0':(0:Int)≤i:=by omega
   have iw:IntKind.i64.wrap ((i:Int)+1)=((i+1:Nat):Int):=IntWalk.i64_in _ (by omega)
   have HOWN:=Lib.hid hown
   have HIN:=Lib.hid hin
   obtain⟨va,vc,rfl,hvc⟩:=owns_cap hown
   have HVC:=Lib.hid hvc
   obtain⟨t,ht⟩:∃ t,t=permT ks i:=⟨_,rfl⟩
   have HT:=Lib.hid ht
   have htle:t≤i:=by rw[ht];exact permT_le _ _
   clear ht hvc hown hin
   go_upto_if 19 with fail
   go_cut [7] from 19 to 28 (fun v7 wx=>v7=.int .i64 t∧wr=wx)
   case first=>
    by_cases hiK:i<K
    ·have iK:(i:Int)<K:=by omega
     have hu:=(HU.out.call HIN.out.bel) i (by rw[←HK.out];exact hiK)
     obtain⟨ub,uo,rfl,hub,huc⟩:=hu
     have hkb:=HB.out i
     have hte:permT ks i=ks.getD i 0 % (i+1):=by unfold permT;rw[if_pos (by rw[←HK.out];exact hiK)]
     rw[←HT.out] at hte
     obtain⟨q,hq⟩:∃ q,q=ks.getD i 0:=⟨_,rfl⟩
     rw[←hq] at huc hkb hte
     have hm1:Int.tmod (q:Int) ((i+1:Nat):Int)=(t:Int):=by rw[hte];rfl
     have hm:Int.tmod (q:Int) ((i:Int)+1)=(t:Int):=by rw[←hm1];rfl
     have hq1:((q:Int))<256:=by omega
     have hq0:(0:Int)≤q:=by omega
     have hm2:IntKind.i64.wrap ((q:Int))=(q:Int):=IntWalk.i64_in _ (by omega)
     have hne:¬ ((i:Int)+1=0):=by omega
     clear hq hte
     go_wp2_with fail
     go_meet
     exact⟨rfl,rfl⟩
    ·have iK:¬ (i:Int)<K:=by omega
     have hte:t=i:=by rw[HT.out];unfold permT;rw[if_neg (by rw[←HK.out];exact hiK)]
     subst hte
     go_wp2_with fail
     go_meet
     exact⟨rfl,rfl⟩
   case rest=>
    obtain⟨rfl,rfl⟩:=hcut
    go_upto_region 9 with fail
    obtain⟨ma,mc,hme,hms⟩:=pivs_ints (l:=permK ks i) (by rw[permK_len];exact HOWN.out)
    rw[permK_len] at hme
    injection hme with e1 e2 e3
    subst e1 e3
    clear e2
    obtain⟨ln,hln⟩:∃ l,l=permK ks i:=⟨_,rfl⟩
    rw[←hln] at hms
    have hll:ln.length=i:=by rw[hln,permK_len]
    have h5:(i=0∧va=none∧vc=0)∨(∃ g,va=some ⟨g,0,none⟩∧t<vc)∨(∃ g,va=some ⟨g,0,none⟩∧t=vc):=by
     rcases HOWN.out.2 with ⟨h,h0⟩|⟨g,cap,cur,h,_⟩
     ·injection h with h1 h2 h3
      exact .inl ⟨h0,h1,h3⟩
     ·injection h with h1 h2 h3
      have:=HVC.out
      rcases Nat.lt_or_ge t vc with h4 | h4
      ·exact .inr (.inl ⟨g,h1,h4⟩)
      ·exact .inr (.inr ⟨g,h1,by omega⟩)
    have hin0:=(In.self wr).drew
    have HLN:=Lib.hid hln
    have HMS:=Lib.hid hms
    clear hln hms
    rcases h5 with ⟨rfl,rfl,rfl⟩|⟨g,rfl,h4⟩|⟨g,rfl,h4⟩
    ·obtain rfl:t=0:=by omega
     obtain rfl:ln=[]:=List.eq_nil_of_length_eq_zero hll
     refine wp_region_mixT (fun _=>True) 12 (.quiet 0 (.quiet 1 (.quiet 2 (.quiet 3 (.quiet 5 (.quiet 8 (.quiet 9 (.quiet 10 (.two 4 6 (.one 6 (.one 7 (.one 11 (.one 12 .done)))) (.one 4 (.one 7 (.one 11 (.one 12 .done))))))))))))) (by kernel_rfl) (by kernel_rfl) (by kernel_rfl) (by kernel_rfl) (by kernel_rfl) (by kernel_rfl) (by kernel_rfl) (by kernel_rfl) (fun _ _ d _ _ h=>by cases d <;> exact h) ?_ ?_
     ·trivial
     (repeat (apply mixT_take;(focus rfl);(focus rfl);(focus (intro w' hw';go_simp;exact rfl));refine tput ?_))
     have H1:Hid (∀ W,In wr.heap.size wr W→IntsAt W none (zl (([]:List Nat).take 0))):=Lib.hid fun W h=>ints_nil _ _
     have H2:Hid (∀ W,In wr.heap.size wr W→IntsAt W none (zl (([]:List Nat).drop 0))):=Lib.hid fun W h=>ints_nil _ _
     generalize wr.drew=w2 at *
     refine mixT_lr rfl rfl rfl ?_ ?_
     ·refine wpList_append_ints rfl (.tmp 29) (.tmp 32) 22 rfl wr.heap.size i0 Tryz.underlying22 hi0 hi1 hi2 hi3 (.slice none 0 0) 0 [] rfl (World.ownsRow_nil _ _ _ _) _ _ _ (([]:List Nat).take 0) rfl ?a1 ?a2 ?a3 ?a4 ?_
      case a1=>(first | rfl |(rw[List.length_take];omega))
      case a2=>exact H1.out _ hin0
      case a3=>omega
      case a4=>exact hin0.siz
      intro v3 w3 hown3 hgr3
      rw[Nat.zero_add,List.nil_append] at hown3
      have hin3:=own_in (T:=3) (s:=1) hin0 (World.ownsRow_nil _ _ _ _) hgr3
      clear hgr3 hin0
      refine⟨fun _=>trivial, ?_⟩
      (apply mixT_run;(focus rfl);(focus rfl);intro K hK;go_simp)
      refine hK _ _ (fun _=>trivial) ?_
      clear hK K
      have hown4:=hown3.alloc (.cells #[.int .i64 (0:Nat)] 3)
      have hin4:=hin3.alloc (.cells #[.int .i64 (0:Nat)] 3)
      have bq:=Bx.new_at w3 #[.int .i64 (0:Nat)] 3 rfl
      clear hown3 hin3
      refine mixT_list rfl (wpList_append_ints rfl (.tmp 33) (.tmp 35) 22 rfl wr.heap.size i0 Tryz.underlying22 hi0 hi1 hi2 hi3 v3 0 _ rfl hown4 _ _ _ [0] rfl ?b1 ?b2 ?b3 ?b4 ?_)
      case b1=>rfl
      case b2=>exact ints_bx bq
      case b3=>omega
      case b4=>exact hin4.siz
      intro v5 w5 hown5 hgr5
      have hin5:=own_in (T:=3) (s:=1) hin4 hown4 hgr5
      clear hgr5 hown4 hin4 bq
      refine⟨fun _=>trivial, ?_⟩
      refine mixT_list rfl (wpList_append_ints rfl (.tmp 36) (.tmp 39) 22 rfl wr.heap.size i0 Tryz.underlying22 hi0 hi1 hi2 hi3 v5 (0+1) _ rfl hown5 _ _ _ (([]:List Nat).drop 0) rfl ?d1 ?d2 ?d3 ?d4 ?_)
      case d1=>(first | rfl |(rw[List.length_drop];omega))
      case d2=>exact H2.out _ hin5
      case d3=>omega
      case d4=>exact hin5.siz
      intro v6 w6 hown6 hgr6
      have hin6:=own_in (T:=3) (s:=1) hin5 hown5 hgr6
      clear hgr6 hown5 hin5
      refine⟨fun _=>trivial, ?_⟩
      (apply mixT_run;(focus rfl);(focus rfl);intro K hK;go_simp)
      refine hK _ _ (fun h=>absurd h (by decide)) ?_
      clear hK K
      refine mixT_done ?_
      have hown7:=perm_own (lo':=w.heap.size) (ln:=([]:List Nat)) (i:=0) (t:=0) HLN.out HT.out htle (by first | exact hown6 |(rw[Nat.sub_self];exact hown6)) HIN.out.siz
      have hin7:=HIN.out.call hin6.bel
      have K1:=Lib.hid hown7
      have K2:=Lib.hid hin7
      clear hown6 hown7 hin6 hin7
      go_wp2_with fail
      exact⟨⟨0+1,by omega,by go_num,K2.out,K1.out⟩,by simp[RowKit.intOf];omega⟩
     ·intro K hK
      go_simp
      refine hK _ _ (fun _=>trivial) ?_
      clear hK K
      have hin3:=hin0.alloc (.cells #[.int .i64 (0:Nat)] 3)
      have bq:=Bx.new_at w2 #[.int .i64 (0:Nat)] 3 rfl
      clear hin0
      refine mixT_list rfl (wpList_append_ints rfl (.tmp 29) (.tmp 32) 22 rfl wr.heap.size i0 Tryz.underlying22 hi0 hi1 hi2 hi3 (.slice none 0 0) 0 [] rfl (World.ownsRow_nil _ _ _ _) _ _ _ (([]:List Nat).take 0) rfl ?a1 ?a2 ?a3 ?a4 ?_)
      case a1=>(first | rfl |(rw[List.length_take];omega))
      case a2=>exact H1.out _ hin3
      case a3=>omega
      case a4=>exact hin3.siz
      intro v3 w3 hown3 hgr3
      rw[Nat.zero_add,List.nil_append] at hown3
      have hin4:=own_in (T:=3) (s:=1) hin3 (World.ownsRow_nil _ _ _ _) hgr3
      have bq2:=bq.grown hgr3 (by intro e;cases e)
      clear hgr3 hin3 bq
      refine⟨fun _=>trivial, ?_⟩
      refine mixT_list rfl (wpList_append_ints rfl (.tmp 33) (.tmp 35) 22 rfl wr.heap.size i0 Tryz.underlying22 hi0 hi1 hi2 hi3 v3 0 _ rfl hown3 _ _ _ [0] rfl ?b1 ?b2 ?b3 ?b4 ?_)
      case b1=>rfl
      case b2=>exact ints_bx bq2
      case b3=>omega
      case b4=>exact hin4.siz
      intro v5 w5 hown5 hgr5
      have hin5:=own_in (T:=3) (s:=1) hin4 hown3 hgr5
      clear hgr5 hown3 hin4 bq2
      refine⟨fun _=>trivial, ?_⟩
      refine mixT_list rfl (wpList_append_ints rfl (.tmp 36) (.tmp 39) 22 rfl wr.heap.size i0 Tryz.underlying22 hi0 hi1 hi2 hi3 v5 (0+1) _ rfl hown5 _ _ _ (([]:List Nat).drop 0) rfl ?d1 ?d2 ?d3 ?d4 ?_)
      case d1=>(first | rfl |(rw[List.length_drop];omega))
      case d2=>exact H2.out _ hin5
      case d3=>omega
      case d4=>exact hin5.siz
      intro v6 w6 hown6 hgr6
      have hin6:=own_in (T:=3) (s:=1) hin5 hown5 hgr6
      clear hgr6 hown5 hin5
      refine⟨fun _=>trivial, ?_⟩
      (apply mixT_run;(focus rfl);(focus rfl);intro K hK;go_simp)
      refine hK _ _ (fun h=>absurd h (by decide)) ?_
      clear hK K
      refine mixT_done ?_
      have hown7:=perm_own (lo':=w.heap.size) (ln:=([]:List Nat)) (i:=0) (t:=0) HLN.out HT.out htle (by first | exact hown6 |(rw[Nat.sub_self];exact hown6)) HIN.out.siz
      have hin7:=HIN.out.call hin6.bel
      have K1:=Lib.hid hown7
      have K2:=Lib.hid hin7
      clear hown6 hown7 hin6 hin7
      go_wp2_with fail
      exact⟨⟨0+1,by omega,by go_num,K2.out,K1.out⟩,by simp[RowKit.intOf];omega⟩
    ·have t0:(0:Int)≤t:=by omega
     have tv:t≤vc:=by omega
     have iv:i≤vc:=HVC.out
     have tne:¬ vc=t:=by omega
     have tc:¬ (vc:Int)<t:=by omega
     refine wp_region_mixT (fun _=>True) 12 (.quiet 0 (.quiet 1 (.quiet 2 (.quiet 3 (.quiet 5 (.quiet 8 (.quiet 9 (.quiet 10 (.two 4 6 (.one 6 (.one 7 (.one 11 (.one 12 .done)))) (.one 4 (.one 7 (.one 11 (.one 12 .done))))))))))))) (by kernel_rfl) (by kernel_rfl) (by kernel_rfl) (by kernel_rfl) (by kernel_rfl) (by kernel_rfl) (by kernel_rfl) (by kernel_rfl) (fun _ _ d _ _ h=>by cases d <;> exact h) ?_ ?_
     ·trivial
     (repeat (apply mixT_take;(focus rfl);(focus rfl);(focus (intro w' hw';go_simp;exact rfl));refine tput ?_))
     have H1:Hid (∀ W,In wr.heap.size wr W→IntsAt W (some ⟨g,0,none⟩) (zl (ln.take t))):=Lib.hid fun W h=>ints_take (HMS.out.call h.bel) t
     have H2:Hid (∀ W,In wr.heap.size wr W→IntsAt W (some ⟨g,t,none⟩) (zl (ln.drop t))):=Lib.hid fun W h=>by have:=ints_drop (HMS.out.call h.bel) t;rwa [Nat.zero_add] at this
     generalize wr.drew=w2 at *
     refine mixT_lr rfl rfl rfl ?_ ?_
     ·refine wpList_append_ints rfl (.tmp 29) (.tmp 32) 22 rfl wr.heap.size i0 Tryz.underlying22 hi0 hi1 hi2 hi3 (.slice none 0 0) 0 [] rfl (World.ownsRow_nil _ _ _ _) _ _ _ (ln.take t) rfl ?a1 ?a2 ?a3 ?a4 ?_
      case a1=>(first | rfl |(rw[List.length_take];omega))
      case a2=>exact H1.out _ hin0
      case a3=>omega
      case a4=>exact hin0.siz
      intro v3 w3 hown3 hgr3
      rw[Nat.zero_add,List.nil_append] at hown3
      have hin3:=own_in (T:=3) (s:=1) hin0 (World.ownsRow_nil _ _ _ _) hgr3
      clear hgr3 hin0
      refine⟨fun _=>trivial, ?_⟩
      (apply mixT_run;(focus rfl);(focus rfl);intro K hK;go_simp)
      refine hK _ _ (fun _=>trivial) ?_
      clear hK K
      have hown4:=hown3.alloc (.cells #[.int .i64 (i:Nat)] 3)
      have hin4:=hin3.alloc (.cells #[.int .i64 (i:Nat)] 3)
      have bq:=Bx.new_at w3 #[.int .i64 (i:Nat)] 3 rfl
      clear hown3 hin3
      refine mixT_list rfl (wpList_append_ints rfl (.tmp 33) (.tmp 35) 22 rfl wr.heap.size i0 Tryz.underlying22 hi0 hi1 hi2 hi3 v3 t _ rfl hown4 _ _ _ [i] rfl ?b1 ?b2 ?b3 ?b4 ?_)
      case b1=>rfl
      case b2=>exact ints_bx bq
      case b3=>omega
      case b4=>exact hin4.siz
      intro v5 w5 hown5 hgr5
      have hin5:=own_in (T:=3) (s:=1) hin4 hown4 hgr5
      clear hgr5 hown4 hin4 bq
      refine⟨fun _=>trivial, ?_⟩
      refine mixT_list rfl (wpList_append_ints rfl (.tmp 36) (.tmp 39) 22 rfl wr.heap.size i0 Tryz.underlying22 hi0 hi1 hi2 hi3 v5 (t+1) _ rfl hown5 _ _ _ (ln.drop t) rfl ?d1 ?d2 ?d3 ?d4 ?_)
      case d1=>(first | rfl |(rw[List.length_drop];omega))
      case d2=>exact H2.out _ hin5
      case d3=>omega
      case d4=>exact hin5.siz
      intro v6 w6 hown6 hgr6
      have hin6:=own_in (T:=3) (s:=1) hin5 hown5 hgr6
      clear hgr6 hown5 hin5
      refine⟨fun _=>trivial, ?_⟩
      (apply mixT_run;(focus rfl);(focus rfl);intro K hK;go_simp)
      refine hK _ _ (fun h=>absurd h (by decide)) ?_
      clear hK K
      refine mixT_done ?_
      have hown7:=perm_own (lo':=w.heap.size) (ln:=ln) (i:=i) (t:=t) HLN.out HT.out htle (by first | exact hown6 |(rw[Nat.sub_self];exact hown6)) HIN.out.siz
      have hin7:=HIN.out.call hin6.bel
      have K1:=Lib.hid hown7
      have K2:=Lib.hid hin7
      clear hown6 hown7 hin6 hin7
      go_wp2_with fail
      exact⟨⟨i+1,by omega,by go_num,K2.out,K1.out⟩,by simp[RowKit.intOf];omega⟩
     ·intro K hK
      go_simp
      refine hK _ _ (fun _=>trivial) ?_
      clear hK K
      have hin3:=hin0.alloc (.cells #[.int .i64 (i:Nat)] 3)
      have bq:=Bx.new_at w2 #[.int .i64 (i:Nat)] 3 rfl
      clear hin0
      refine mixT_list rfl (wpList_append_ints rfl (.tmp 29) (.tmp 32) 22 rfl wr.heap.size i0 Tryz.underlying22 hi0 hi1 hi2 hi3 (.slice none 0 0) 0 [] rfl (World.ownsRow_nil _ _ _ _) _ _ _ (ln.take t) rfl ?a1 ?a2 ?a3 ?a4 ?_)
      case a1=>(first | rfl |(rw[List.length_take];omega))
      case a2=>exact H1.out _ hin3
      case a3=>omega
      case a4=>exact hin3.siz
      intro v3 w3 hown3 hgr3
      rw[Nat.zero_add,List.nil_append] at hown3
      have hin4:=own_in (T:=3) (s:=1) hin3 (World.ownsRow_nil _ _ _ _) hgr3
      have bq2:=bq.grown hgr3 (by intro e;cases e)
      clear hgr3 hin3 bq
      refine⟨fun _=>trivial, ?_⟩
      refine mixT_list rfl (wpList_append_ints rfl (.tmp 33) (.tmp 35) 22 rfl wr.heap.size i0 Tryz.underlying22 hi0 hi1 hi2 hi3 v3 t _ rfl hown3 _ _ _ [i] rfl ?b1 ?b2 ?b3 ?b4 ?_)
      case b1=>rfl
      case b2=>exact ints_bx bq2
      case b3=>omega
      case b4=>exact hin4.siz
      intro v5 w5 hown5 hgr5
      have hin5:=own_in (T:=3) (s:=1) hin4 hown3 hgr5
      clear hgr5 hown3 hin4 bq2
      refine⟨fun _=>trivial, ?_⟩
      refine mixT_list rfl (wpList_append_ints rfl (.tmp 36) (.tmp 39) 22 rfl wr.heap.size i0 Tryz.underlying22 hi0 hi1 hi2 hi3 v5 (t+1) _ rfl hown5 _ _ _ (ln.drop t) rfl ?d1 ?d2 ?d3 ?d4 ?_)
      case d1=>(first | rfl |(rw[List.length_drop];omega))
      case d2=>exact H2.out _ hin5
      case d3=>omega
      case d4=>exact hin5.siz
      intro v6 w6 hown6 hgr6
      have hin6:=own_in (T:=3) (s:=1) hin5 hown5 hgr6
      clear hgr6 hown5 hin5
      refine⟨fun _=>trivial, ?_⟩
      (apply mixT_run;(focus rfl);(focus rfl);intro K hK;go_simp)
      refine hK _ _ (fun h=>absurd h (by decide)) ?_
      clear hK K
      refine mixT_done ?_
      have hown7:=perm_own (lo':=w.heap.size) (ln:=ln) (i:=i) (t:=t) HLN.out HT.out htle (by first | exact hown6 |(rw[Nat.sub_self];exact hown6)) HIN.out.siz
      have hin7:=HIN.out.call hin6.bel
      have K1:=Lib.hid hown7
      have K2:=Lib.hid hin7
      clear hown6 hown7 hin6 hin7
      go_wp2_with fail
      exact⟨⟨i+1,by omega,by go_num,K2.out,K1.out⟩,by simp[RowKit.intOf];omega⟩
    ·subst h4
     have iv:i≤t:=HVC.out
     obtain rfl:i=t:=by omega
     refine wp_region_mixT (fun _=>True) 12 (.quiet 0 (.quiet 1 (.quiet 2 (.quiet 3 (.quiet 5 (.quiet 8 (.quiet 9 (.quiet 10 (.two 4 6 (.one 6 (.one 7 (.one 11 (.one 12 .done)))) (.one 4 (.one 7 (.one 11 (.one 12 .done))))))))))))) (by kernel_rfl) (by kernel_rfl) (by kernel_rfl) (by kernel_rfl) (by kernel_rfl) (by kernel_rfl) (by kernel_rfl) (by kernel_rfl) (fun _ _ d _ _ h=>by cases d <;> exact h) ?_ ?_
     ·trivial
     (repeat (apply mixT_take;(focus rfl);(focus rfl);(focus (intro w' hw';go_simp;exact rfl));refine tput ?_))
     have H1:Hid (∀ W,In wr.heap.size wr W→IntsAt W (some ⟨g,0,none⟩) (zl (ln.take i))):=Lib.hid fun W h=>ints_take (HMS.out.call h.bel) i
     have H2:Hid (∀ W,In wr.heap.size wr W→IntsAt W (some ⟨g,0,none⟩) (zl (ln.drop i))):=Lib.hid fun W h=>by rw[List.drop_of_length_le (by omega)];exact ints_nil _ _
     generalize wr.drew=w2 at *
     refine mixT_lr rfl rfl rfl ?_ ?_
     ·refine wpList_append_ints rfl (.tmp 29) (.tmp 32) 22 rfl wr.heap.size i0 Tryz.underlying22 hi0 hi1 hi2 hi3 (.slice none 0 0) 0 [] rfl (World.ownsRow_nil _ _ _ _) _ _ _ (ln.take i) rfl ?a1 ?a2 ?a3 ?a4 ?_
      case a1=>(first | rfl |(rw[List.length_take];omega))
      case a2=>exact H1.out _ hin0
      case a3=>omega
      case a4=>exact hin0.siz
      intro v3 w3 hown3 hgr3
      rw[Nat.zero_add,List.nil_append] at hown3
      have hin3:=own_in (T:=3) (s:=1) hin0 (World.ownsRow_nil _ _ _ _) hgr3
      clear hgr3 hin0
      refine⟨fun _=>trivial, ?_⟩
      (apply mixT_run;(focus rfl);(focus rfl);intro K hK;go_simp)
      refine hK _ _ (fun _=>trivial) ?_
      clear hK K
      have hown4:=hown3.alloc (.cells #[.int .i64 (i:Nat)] 3)
      have hin4:=hin3.alloc (.cells #[.int .i64 (i:Nat)] 3)
      have bq:=Bx.new_at w3 #[.int .i64 (i:Nat)] 3 rfl
      clear hown3 hin3
      refine mixT_list rfl (wpList_append_ints rfl (.tmp 33) (.tmp 35) 22 rfl wr.heap.size i0 Tryz.underlying22 hi0 hi1 hi2 hi3 v3 i _ rfl hown4 _ _ _ [i] rfl ?b1 ?b2 ?b3 ?b4 ?_)
      case b1=>rfl
      case b2=>exact ints_bx bq
      case b3=>omega
      case b4=>exact hin4.siz
      intro v5 w5 hown5 hgr5
      have hin5:=own_in (T:=3) (s:=1) hin4 hown4 hgr5
      clear hgr5 hown4 hin4 bq
      refine⟨fun _=>trivial, ?_⟩
      refine mixT_list rfl (wpList_append_ints rfl (.tmp 36) (.tmp 39) 22 rfl wr.heap.size i0 Tryz.underlying22 hi0 hi1 hi2 hi3 v5 (i+1) _ rfl hown5 _ _ _ (ln.drop i) rfl ?d1 ?d2 ?d3 ?d4 ?_)
      case d1=>(first | rfl |(rw[List.length_drop];omega))
      case d2=>exact H2.out _ hin5
      case d3=>omega
      case d4=>exact hin5.siz
      intro v6 w6 hown6 hgr6
      have hin6:=own_in (T:=3) (s:=1) hin5 hown5 hgr6
      clear hgr6 hown5 hin5
      refine⟨fun _=>trivial, ?_⟩
      (apply mixT_run;(focus rfl);(focus rfl);intro K hK;go_simp)
      refine hK _ _ (fun h=>absurd h (by decide)) ?_
      clear hK K
      refine mixT_done ?_
      have hown7:=perm_own (lo':=w.heap.size) (ln:=ln) (i:=i) (t:=i) HLN.out HT.out htle (by first | exact hown6 |(rw[Nat.sub_self];exact hown6)) HIN.out.siz
      have hin7:=HIN.out.call hin6.bel
      have K1:=Lib.hid hown7
      have K2:=Lib.hid hin7
      clear hown6 hown7 hin6 hin7
      go_wp2_with fail
      exact⟨⟨i+1,by omega,by go_num,K2.out,K1.out⟩,by simp[RowKit.intOf];omega⟩
     ·intro K hK
      go_simp
      refine hK _ _ (fun _=>trivial) ?_
      clear hK K
      have hin3:=hin0.alloc (.cells #[.int .i64 (i:Nat)] 3)
      have bq:=Bx.new_at w2 #[.int .i64 (i:Nat)] 3 rfl
      clear hin0
      refine mixT_list rfl (wpList_append_ints rfl (.tmp 29) (.tmp 32) 22 rfl wr.heap.size i0 Tryz.underlying22 hi0 hi1 hi2 hi3 (.slice none 0 0) 0 [] rfl (World.ownsRow_nil _ _ _ _) _ _ _ (ln.take i) rfl ?a1 ?a2 ?a3 ?a4 ?_)
      case a1=>(first | rfl |(rw[List.length_take];omega))
      case a2=>exact H1.out _ hin3
      case a3=>omega
      case a4=>exact hin3.siz
      intro v3 w3 hown3 hgr3
      rw[Nat.zero_add,List.nil_append] at hown3
      have hin4:=own_in (T:=3) (s:=1) hin3 (World.ownsRow_nil _ _ _ _) hgr3
      have bq2:=bq.grown hgr3 (by intro e;cases e)
      clear hgr3 hin3 bq
      refine⟨fun _=>trivial, ?_⟩
      refine mixT_list rfl (wpList_append_ints rfl (.tmp 33) (.tmp 35) 22 rfl wr.heap.size i0 Tryz.underlying22 hi0 hi1 hi2 hi3 v3 i _ rfl hown3 _ _ _ [i] rfl ?b1 ?b2 ?b3 ?b4 ?_)
      case b1=>rfl
      case b2=>exact ints_bx bq2
      case b3=>omega
      case b4=>exact hin4.siz
      intro v5 w5 hown5 hgr5
      have hin5:=own_in (T:=3) (s:=1) hin4 hown3 hgr5
      clear hgr5 hown3 hin4 bq2
      refine⟨fun _=>trivial, ?_⟩
      refine mixT_list rfl (wpList_append_ints rfl (.tmp 36) (.tmp 39) 22 rfl wr.heap.size i0 Tryz.underlying22 hi0 hi1 hi2 hi3 v5 (i+1) _ rfl hown5 _ _ _ (ln.drop i) rfl ?d1 ?d2 ?d3 ?d4 ?_)
      case d1=>(first | rfl |(rw[List.length_drop];omega))
      case d2=>exact H2.out _ hin5
      case d3=>omega
      case d4=>exact hin5.siz
      intro v6 w6 hown6 hgr6
      have hin6:=own_in (T:=3) (s:=1) hin5 hown5 hgr6
      clear hgr6 hown5 hin5
      refine⟨fun _=>trivial, ?_⟩
      (apply mixT_run;(focus rfl);(focus rfl);intro K hK;go_simp)
      refine hK _ _ (fun h=>absurd h (by decide)) ?_
      clear hK K
      refine mixT_done ?_
      have hown7:=perm_own (lo':=w.heap.size) (ln:=ln) (i:=i) (t:=i) HLN.out HT.out htle (by first | exact hown6 |(rw[Nat.sub_self];exact hown6)) HIN.out.siz
      have hin7:=HIN.out.call hin6.bel
      have K1:=Lib.hid hown7
      have K2:=Lib.hid hin7
      clear hown6 hown7 hin6 hin7
      go_wp2_with fail
      exact⟨⟨i+1,by omega,by go_num,K2.out,K1.out⟩,by simp[RowKit.intOf];omega⟩
  ·obtain rfl:i=n:=by omega
   have iI:¬ (i:Int)<i:=by omega
   have HOWN:=Lib.hid hown
   have hbel:=hin.bel
   obtain⟨va,vc,rfl,hvc⟩:=owns_cap hown
   obtain⟨ma,mc,hme,hms⟩:=pivs_ints (l:=permK ks i) (by rw[permK_len];exact hown)
   rw[permK_len] at hme
   injection hme with e1 e2 e3
   subst e1 e3
   have hsh:i=0∧va=none∧vc=0∨∃ g,va=some ⟨g,0,none⟩:=by
    rcases hown.2 with ⟨h,h0⟩|⟨g,cap,cur,h,_⟩
    ·injection h with h1 h2 h3
     exact .inl ⟨h0,h1,h3⟩
    ·injection h with h1 h2 h3
     exact .inr ⟨g,h1⟩
   have H1:=Lib.hid hms
   have H2:=Lib.hid hsh
   clear hown hin hms e2 hsh
   go_wp2_with fail
   exact bodyPost_ret (v:=.slice va i vc) (by simp[results,Tryz.results60,go_sem]) rfl ⟨⟨_,_,rfl,hvc,H2.out,H1.out⟩,hbel⟩
end Gus
end
