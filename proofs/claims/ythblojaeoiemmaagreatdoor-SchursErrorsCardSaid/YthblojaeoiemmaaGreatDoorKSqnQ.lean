/- Proved here: parts of the proof: KSqn KSqo KSqp. Conditions: those that each theorem states. -/
import Derived.Test.YthblojaeoiemmaaGreatDoorKSqmQ
import Derived.Test.YthblojaeoiemmaaGreatDoorKSqkQ
section
namespace Gus
open Go Go.RowKit Go.Proofs
theorem grpE_one {n:Nat} {ii:List Nat} (hn:n≤2048) (h:Grp n ii):grpE n [zl ii]=0:=by
 have:=grpE_ok (gs:=[ii]) hn (by simpa using h)
 simpa using this
theorem GrpAt.gs {w:World} {b k c:Nat} {a:Option Addr} {T:TypeId} {ii:List Nat} (h:GrpAt w (.slice a k c) ii) (hB:Bx w b T [.slice a k c]):GsAt w (.slice (some ⟨b,0,none⟩) 1 1) [zl ii]:=by
 obtain⟨a',c',he,hi⟩:=h
 injection he with e1 e2 e3
 subst e1 e2 e3
 rw[←zl_length ii] at hB
 exact gs_one hB hi
def ComplP (w:World) (ii oo:List Nat) (M:Mx) (e:Ending) (w':World):Prop:=((NS ii.length (sub M ii ii)∧∃ d,e=.returned (.tuple #[d,.int .i64 0])∧MatS w' d oo.length oo.length (schur M ii oo (invM ii.length (sub M ii ii))))∨(¬ NS ii.length (sub M ii ii)∧e=.returned (.tuple #[zeroSp,.int .i64 6])))∧Below w.heap.size w w'
set_option maxRecDepth 100000 in
set_option maxHeartbeats 8000000 in
theorem scomplement_ok {z:Nat} (w:World) (s gv:Value) (n:Nat) (ii:List Nat) (M:Mx) (hS:SpM w s n n M) (hG:GrpAt w gv ii) (hg:Grp n ii) (hn:n≤16) (hz:1≤z) (hzM:Mz n n z M) (hcap:5*(z*5 ^ ii.length)+2<17592186044416) (hcap2:NS ii.length (sub M ii ii)→gz ii.length z<17592186044416) :
  Calls Tryz.prog 14 #[s,gv] w (ComplP w ii (outer n ii) M):=by
 have HS:=Lib.hid hS
 obtain⟨sa,sc,rfl⟩:=hS.shape
 have HG:=Lib.hid hG
 obtain⟨a0,c0,rfl⟩:=hG.shape
 obtain⟨L,hL⟩:∃ L,L=ii.length:=⟨_,rfl⟩
 rw[←hL] at HG ⊢
 have hE:=grpE_one (by omega) hg
 have HGR:=Lib.hid hg
 have HZ:=Lib.hid hzM
 have HC1:=Lib.hid hcap
 have HC2:=Lib.hid hcap2
 clear hS hG hL hg hzM hcap hcap2
 have hin:=In.self w
 go_enter Tryz.func14,Tryz.ntmps14
 go_upto_region 1 with fail
 ((obtain⟨X,hXX⟩:∃ z,z=w.heap.size:=⟨_,rfl⟩);(have bV0:=((Bx.new_at w #[.int .i64 n,.int .i64 n,.slice sa n sc] 27 (n:=X) (by simp[hXX])).alloc (.cells #[.int .i64 0,.int .i64 0,.slice none 0 0] 37)));(have bV1:=(Bx.new_at (w.alloc (.cells #[.int .i64 n,.int .i64 n,.slice sa n sc] 27)) #[.int .i64 0,.int .i64 0,.slice none 0 0] 37 (n:=X+1) (by simp[hXX])));(have hV:=(((In.self w).alloc (.cells #[.int .i64 n,.int .i64 n,.slice sa n sc] 27)).alloc (.cells #[.int .i64 0,.int .i64 0,.slice none 0 0] 37)));(rw[←hXX] at hV ⊢);(have HX:=Lib.hid hXX);clear hXX;(generalize (w.alloc (.cells #[.int .i64 n,.int .i64 n,.slice sa n sc] 27)).alloc (.cells #[.int .i64 0,.int .i64 0,.slice none 0 0] 37)=V at *))
 have hV0:=hV
 rw[HX.out] at hV0
 have hS:=HS.out.call hV0.bel
 have hG:=HG.out.call hV0.bel
 clear hV0 HS HG hin
 have cd:=fun W gv (h:In V.heap.size V W) (hgs:GsAt W gv [zl ii])=>sdense_ok W _ gv n M [zl ii] (hS.call h.bel) (by omega) hgs (by simp)
 simp only[hE] at cd
 (have x0:=bV0.c0;have x1:=bV0.c1;have x2:=bV0.c2;have xl:=bV0.lt)
 go_wp2_with fail
 have hI2:=(In.self V).alloc (.cells #[.slice a0 L c0] 22)
 have bG:=Bx.new_at V #[.slice a0 L c0] 22 rfl
 ((with_reducible refine(cd _ _ hI2 ((hG.call hI2.bel).gs bG)).mono ?_))
 rintro e w2 ⟨⟨d,rfl,hd⟩,hb⟩
 replace hI2:=hI2.call hb
 replace hV:=hV.call hI2.bel
 replace hG:=hG.call hI2.bel
 replace bV0:=bV0.call hI2.bel
 replace bV1:=bV1.call hI2.bel
 clear hb cd hI2 bG x0 x1 x2 xl hS
 obtain⟨g,N,hN,hde,hbd⟩:=id hd
 subst hde
 clear hN hbd
 go_upto_region 2 with fail
 ((obtain⟨D,hD⟩:∃ z,z=w2.heap.size:=⟨_,rfl⟩);(have bD:=Bx.new_at w2 #[.int .i64 (n:Nat),.int .i64 (n:Nat),.slice (some ⟨g,0,none⟩) N N] 37 hD);(replace hV:=hV.alloc (.cells #[.int .i64 (n:Nat),.int .i64 (n:Nat),.slice (some ⟨g,0,none⟩) N N] 37));(replace bV0:=bV0.alloc (.cells #[.int .i64 (n:Nat),.int .i64 (n:Nat),.slice (some ⟨g,0,none⟩) N N] 37));(replace bV1:=bV1.alloc (.cells #[.int .i64 (n:Nat),.int .i64 (n:Nat),.slice (some ⟨g,0,none⟩) N N] 37));(replace hG:=hG.call ((Below.refl _ _).alloc (Nat.le_refl _) (.cells #[.int .i64 (n:Nat),.int .i64 (n:Nat),.slice (some ⟨g,0,none⟩) N N] 37)));(replace hd:=hd.call ((Below.refl _ _).alloc (Nat.le_refl _) (.cells #[.int .i64 (n:Nat),.int .i64 (n:Nat),.slice (some ⟨g,0,none⟩) N N] 37)));(rw[←hD]);clear hD;(generalize w2.alloc (.cells #[.int .i64 (n:Nat),.int .i64 (n:Nat),.slice (some ⟨g,0,none⟩) N N] 37)=W1 at *))
 have cc:=scut_any W1 _ _ n ii M hd hG HGR.out hn hz HZ.out HC1.out HC2.out
 (have x0:=bD.c0;have x1:=bD.c1;have x2:=bD.c2;have xl:=bD.lt)
 (go_wp2_with fail;(((with_reducible refine(cc).mono ?_)));(rintro e w3 ⟨hI,hb⟩);clear x0 x1 x2 xl cc hd hG;replace hV:=hV.call hb;replace bV0:=bV0.call hb;replace bV1:=bV1.call hb;replace bD:=bD.call hb;clear hb)
 rcases hI with ⟨hns,d,rfl,hsp⟩|⟨hns,rfl⟩
 ·obtain⟨p,hpe⟩:∃ p,d=.pointer (some ⟨p,0,none⟩):=by
   obtain⟨p,_,_,_,_,_,_,_,_,_,_,_,_,_,_,_,_,_,e,_⟩:=hsp
   exact⟨p,e⟩
  subst hpe
  have HNS:=Lib.hid hns
  have hp:=pz_le (a:=ii.length) hz
  have hc:=HC2.out hns
  have hOZ:=sub_szk (rows:=outer n ii) (cols:=outer n ii) HZ.out (fun i h=>HGR.out.split.lt (.inr h)) (fun i h=>HGR.out.split.lt (.inr h))
  have hPZ:Mz (outer n ii).length (outer n ii).length (pz ii.length z) (prodM M ii (outer n ii) (invM ii.length (sub M ii ii))):=by
   have h1:=mulM_szk hz (sub_szk HZ.out (fun i h=>HGR.out.split.lt (.inr h)) HGR.out.2) (invM_szk hz (sub_szk HZ.out HGR.out.2 HGR.out.2)) (n:=(outer n ii).length)
   exact mulM_szk (i:=lz ii.length z) (by unfold lz;omega) h1 (sub_szk HZ.out HGR.out.2 (fun i h=>HGR.out.split.lt (.inr h)))
  have cm:=scompl_any (j:=z) (l:=pz ii.length z) w3 _ ii (outer n ii) M _ hsp (by have:=HGR.out.split.len;omega) hOZ hPZ (by omega)
  obtain⟨O,hO⟩:∃ O,O=(outer n ii).length:=⟨_,rfl⟩
  rw[←hO] at cm
  have HO:=Lib.hid hO
  clear hns hp hc hOZ hPZ hsp hO
  (go_wp2_with fail;(((with_reducible refine(cm).mono ?_)));(rintro e w4 ⟨⟨d,rfl,hd⟩,hb⟩);clear cm;replace hV:=hV.call hb;replace bV0:=bV0.call hb;replace bV1:=bV1.call hb;replace bD:=bD.call hb;clear hb)
  obtain⟨ad,nd,kd,hnd,rfl⟩:=hd.shape
  have hin:=hV
  have bq:=bV1
  clear hnd hV bV0 bV1 bD
  ((have K5
       :=Lib.hid (hd.put3 (p':=((O:Nat):Int)) (q':=((O:Nat):Int)) (ao':=ad) (n':=nd) (k':=kd) bq));
       have r0:=bq.c0;
       have r1:=bq.c1;
       have r2:=bq.c2;
       (have f0:=bq.frozen 0);
       (have f1:=bq.frozen 1);
       (have f2:=bq.frozen 2);
       have ql:=bq.lt;
       (have K1:=Lib.hid (((bq.set 0 (.int .i64 ((O:Nat):Int))).set 1 (.int .i64 ((O:Nat):Int))).set 2 (.slice ad nd kd)));
       (have K2:=Lib.hid (((hin.setCell (p:=⟨(X+1),0,none⟩) (by first |(simp;done)|(have:=HX.out;simp;omega)) (.int .i64 ((O:Nat):Int))).setCell (p:=⟨(X+1),1,none⟩) (by first |(simp;done)|(have:=HX.out;simp;omega)) (.int .i64 ((O:Nat):Int))).setCell (p:=⟨(X+1),2,none⟩) (by first |(simp;done)|(have:=HX.out;simp;omega)) (.slice ad nd kd)));
       clear bq hin hd;
       go_wp2_with fail;
       have k1:=K1.out;
       have k2:=K2.out;
       have hm:=K5.out;
       clear r0 r1 r2 f0 f1 f2 ql K1 K2 K5;
       (generalize (((w4.setCell ⟨(X+1),0,none⟩ (.int .i64 ((O:Nat):Int))).setCell ⟨(X+1),1,none⟩ (.int .i64 ((O:Nat):Int))).setCell ⟨(X+1),2,none⟩ (.slice ad nd kd))=W9 at *);
       (have e0:W9.cell? ⟨(X+1),0,none⟩=some (.int .i64 ((O:Nat):Int)):=k1.cell 0);
       (have e1:W9.cell? ⟨(X+1),1,none⟩=some (.int .i64 ((O:Nat):Int)):=k1.cell 1);
       (have e2:W9.cell? ⟨(X+1),2,none⟩=some (.slice ad nd kd):=k1.cell 2);
       have hz:=k2.bel;
       (refine bodyPost_ret (v:=.tuple #[.agg #[.int .i64 ((O:Nat):Int),.int .i64 ((O:Nat):Int),.slice ad nd kd],.int .i64 0]) ?_ rfl ⟨.inl ⟨HNS.out,_,rfl,by rw[←HO.out];exact hm⟩,by rw[←HX.out];exact hz⟩);
       (simp[results,Tryz.results14,go_sem,e0,e1,e2]))
 ·have HNS:=Lib.hid hns
  have hin:=hV
  have bq:=bV1
  have bx:=bV0
  clear hns hV bV0 bV1 bD
  ((have r0
       :=bq.c0);
       have r1:=bq.c1;
       have r2:=bq.c2;
       (have f0:=bq.frozen 0);
       (have f1:=bq.frozen 1);
       (have f2:=bq.frozen 2);
       have hrl:=bq.lt;
       (have H1:=Lib.hid (((bq.set 0 (.int .i64 0)).set 1 (.int .i64 0)).set 2 (.slice none 0 0)));
       (have H2:=Lib.hid (((hin.setCell (p:=⟨(X+1),0,none⟩) (by first |(simp;done)|(have:=HX.out;simp;omega)) (.int .i64 0)).setCell (p:=⟨(X+1),1,none⟩) (by first |(simp;done)|(have:=HX.out;simp;omega)) (.int .i64 0)).setCell (p:=⟨(X+1),2,none⟩) (by first |(simp;done)|(have:=HX.out;simp;omega)) (.slice none 0 0)));
       clear bq hin bx;
       go_wp2_with fail;
       have g1:=H1.out;
       have g2:=H2.out;
       clear H1 H2 r0 r1 r2 f0 f1 f2 hrl;
       (generalize ((w3.setCell ⟨(X+1),0,none⟩ (.int .i64 0)).setCell ⟨(X+1),1,none⟩ (.int .i64 0)).setCell ⟨(X+1),2,none⟩ (.slice none 0 0)=W5 at *);
       (have e0:W5.cell? ⟨(X+1),0,none⟩=some (.int .i64 0):=g1.cell 0);
       (have e1:W5.cell? ⟨(X+1),1,none⟩=some (.int .i64 0):=g1.cell 1);
       (have e2:W5.cell? ⟨(X+1),2,none⟩=some (.slice none 0 0):=g1.cell 2);
       have hz:=g2.bel;
       (refine bodyPost_ret (v:=.tuple #[zeroSp,.int .i64 6]) ?_ rfl ⟨.inr ⟨HNS.out,rfl⟩,by rw[←HX.out];exact hz⟩);
       (simp[results,Tryz.results14,go_sem,e0,e1,e2]))
end Gus
end
section
namespace Gus
open Go Go.RowKit Go.Proofs
theorem lenE_ok {n:Nat} (hn:n≤2048):lenE n (n:Int)=0:=by
 unfold lenE;rw[if_neg (by omega),if_pos rfl]
theorem SplitAt.ptr {w:World} {d:Value} {ii oo:List Nat} {M N:Mx} (h:SplitAt w d ii oo M N):∃ p,d=.pointer (some ⟨p,0,none⟩):=by
 obtain⟨p,_,_,_,_,_,_,_,_,_,_,_,_,_,_,_,_,_,e,_⟩:=h
 exact⟨p,e⟩
theorem prod_szk {n z:Nat} {ii oo:List Nat} {M:Mx} (hz:1≤z) (hM:Mz n n z M) (hi:∀ i∈ii,i<n) (ho:∀ i∈oo,i<n):Mz oo.length oo.length (pz ii.length z) (prodM M ii oo (invM ii.length (sub M ii ii))):=by
 have h1:=mulM_szk hz (sub_szk hM ho hi) (invM_szk hz (sub_szk hM hi hi)) (n:=oo.length)
 exact mulM_szk (i:=lz ii.length z) (by unfold lz;omega) h1 (sub_szk hM hi ho)
set_option maxRecDepth 100000 in
set_option maxHeartbeats 8000000 in
theorem sbegin_ok {z:Nat} (w:World) (s gv bv:Value) (n:Nat) (ii:List Nat) (M:Mx) (b:Vc) (hb0:VecAt w bv (vl n b)) (hS:SpM w s n n M) (hG:GrpAt w gv ii) (hg:Grp n ii) (hn:n≤16) (hz:1≤z) (hzM:Mz n n z M) (hcap:5*(z*5 ^ ii.length)+2<17592186044416) (hcap2:NS ii.length (sub M ii ii)→gz ii.length z<17592186044416) :
  Calls Tryz.prog 51 #[s,gv,bv] w (SCutP w ii (outer n ii) M):=by
 obtain⟨ba,bc,rfl⟩:=hb0.shape
 rw[vl_length] at hb0 ⊢
 have HS:=Lib.hid hS
 obtain⟨sa,sc,rfl⟩:=hS.shape
 have HG:=Lib.hid hG
 obtain⟨a0,c0,rfl⟩:=hG.shape
 obtain⟨L,hL⟩:∃ L,L=ii.length:=⟨_,rfl⟩
 rw[←hL] at HG ⊢
 have HL:=Lib.hid hL
 have hE:=grpE_one (by omega) hg
 have HGR:=Lib.hid hg
 have HZ:=Lib.hid hzM
 have HC1:=Lib.hid hcap
 have HC2:=Lib.hid hcap2
 clear hS hG hL hg hzM hcap hcap2
 have hin:=In.self w
 go_enter Tryz.func51,Tryz.ntmps51
 go_upto_region 1 with fail
 ((obtain⟨X,hXX⟩:∃ z,z=w.heap.size:=⟨_,rfl⟩);(have bV0:=(Bx.new_at w #[.int .i64 n,.int .i64 n,.slice sa n sc] 27 (n:=X) (by simp[hXX])));(have hV:=((In.self w).alloc (.cells #[.int .i64 n,.int .i64 n,.slice sa n sc] 27)));(rw[←hXX] at hV ⊢);(have HX:=Lib.hid hXX);clear hXX;(generalize w.alloc (.cells #[.int .i64 n,.int .i64 n,.slice sa n sc] 27)=V at *))
 have hV0:=hV
 rw[HX.out] at hV0
 have hS:=HS.out.call hV0.bel
 have hG:=HG.out.call hV0.bel
 replace hb0:=hb0.call hV0.bel
 clear hV0 HS HG hin
 have cd:=fun W gv (h:In V.heap.size V W) (hgs:GsAt W gv [zl ii])=>sdense_ok W _ gv n M [zl ii] (hS.call h.bel) (by omega) hgs (by simp)
 simp only[hE] at cd
 (have x0:=bV0.c0;have x1:=bV0.c1;have x2:=bV0.c2;have xl:=bV0.lt)
 go_wp2_with fail
 have hI2:=(In.self V).alloc (.cells #[.slice a0 L c0] 22)
 have bG:=Bx.new_at V #[.slice a0 L c0] 22 rfl
 ((with_reducible refine(cd _ _ hI2 ((hG.call hI2.bel).gs bG)).mono ?_))
 rintro e w2 ⟨⟨d,rfl,hd⟩,hb⟩
 replace hI2:=hI2.call hb
 replace hV:=hV.call hI2.bel
 replace hG:=hG.call hI2.bel
 replace bV0:=bV0.call hI2.bel
 replace hb0:=hb0.call hI2.bel
 clear hb cd hI2 bG x0 x1 x2 xl hS
 obtain⟨g,N,hN,hde,hbd⟩:=id hd
 subst hde
 clear hN hbd
 go_upto_region 2 with fail
 ((obtain⟨D,hD⟩:∃ z,z=w2.heap.size:=⟨_,rfl⟩);(have bD:=Bx.new_at w2 #[.int .i64 (n:Nat),.int .i64 (n:Nat),.slice (some ⟨g,0,none⟩) N N] 37 hD);(replace hV:=hV.alloc (.cells #[.int .i64 (n:Nat),.int .i64 (n:Nat),.slice (some ⟨g,0,none⟩) N N] 37));(replace bV0:=bV0.alloc (.cells #[.int .i64 (n:Nat),.int .i64 (n:Nat),.slice (some ⟨g,0,none⟩) N N] 37));(replace hG:=hG.call ((Below.refl _ _).alloc (Nat.le_refl _) (.cells #[.int .i64 (n:Nat),.int .i64 (n:Nat),.slice (some ⟨g,0,none⟩) N N] 37)));(replace hd:=hd.call ((Below.refl _ _).alloc (Nat.le_refl _) (.cells #[.int .i64 (n:Nat),.int .i64 (n:Nat),.slice (some ⟨g,0,none⟩) N N] 37)));(replace hb0:=hb0.call ((Below.refl _ _).alloc (Nat.le_refl _) (.cells #[.int .i64 (n:Nat),.int .i64 (n:Nat),.slice (some ⟨g,0,none⟩) N N] 37)));(rw[←hD]);clear hD;(generalize w2.alloc (.cells #[.int .i64 (n:Nat),.int .i64 (n:Nat),.slice (some ⟨g,0,none⟩) N N] 37)=w3 at *))
 have cl:=fun W=>slength_any W ba n bc n
 rw[lenE_ok (by omega)] at cl
 (have x0:=bV0.c0;have x1:=bV0.c1;have x2:=bV0.c2;have xl:=bV0.lt)
 (go_wp2_with fail;(((with_reducible refine(cl _).mono ?_)));rintro e wc2 ⟨rfl,hb⟩;clear x0 x1 x2 xl cl;replace hV:=hV.call hb;replace hG:=hG.call hb;replace hd:=hd.call hb;replace hb0:=hb0.call hb;replace bV0:=bV0.call hb;replace bD:=bD.call hb;clear hb)
 have cc:=scut_any wc2 _ _ n ii M hd hG HGR.out hn hz HZ.out HC1.out HC2.out
 (have x0:=bD.c0;have x1:=bD.c1;have x2:=bD.c2;have xl:=bD.lt)
 (go_wp2_with fail;(((with_reducible refine(cc).mono ?_)));(rintro e w5 ⟨hI,hb⟩);clear x0 x1 x2 xl cc hd hG;replace hV:=hV.call hb;replace hb0:=hb0.call hb;replace bV0:=bV0.call hb;replace bD:=bD.call hb;clear hb)
 have hbel:=hV.bel
 rw[HX.out] at hbel
 clear hV bV0 bD hb0
 rcases hI with ⟨hns,d,rfl,hsp⟩|⟨hns,rfl⟩
 ·obtain⟨p,rfl⟩:=hsp.ptr
  have H1:=Lib.hid hsp
  have HNS:=Lib.hid hns
  clear hns hsp
  go_wp2_with fail
  exact bodyPost_ret (v:=.tuple #[.pointer (some ⟨p,0,none⟩),.int .i64 0]) (by simp[results,Tryz.results51,go_sem]) rfl ⟨.inl ⟨HNS.out,_,rfl,H1.out⟩,hbel⟩
 ·have HNS:=Lib.hid hns
  clear hns
  go_wp2_with fail
  exact bodyPost_ret (v:=.tuple #[.pointer none,.int .i64 6]) (by simp[results,Tryz.results51,go_sem]) rfl ⟨.inr ⟨HNS.out,rfl⟩,hbel⟩
def RedcP (w:World) (ii oo:List Nat) (M:Mx) (b:Vc) (e:Ending) (w':World):Prop:=((NS ii.length (sub M ii ii)∧∃ d v,e=.returned (.tuple #[d,v,.int .i64 0])∧MatS w' d oo.length oo.length (schur M ii oo (invM ii.length (sub M ii ii)))∧VecAt w' v (vl oo.length (condV M ii oo (invM ii.length (sub M ii ii)) b)))∨(¬ NS ii.length (sub M ii ii)∧e=.returned (.tuple #[zeroSp,.slice none 0 0,.int .i64 6])))∧Below w.heap.size w w'
set_option maxRecDepth 100000 in
set_option maxHeartbeats 8000000 in
theorem sreduced_ok {z:Nat} (w:World) (s gv bv:Value) (n:Nat) (ii:List Nat) (M:Mx) (b:Vc) (hb0:VecAt w bv (vl n b)) (hbz:Vz n z b) (hS:SpM w s n n M) (hG:GrpAt w gv ii) (hg:Grp n ii) (hn:n≤16) (hz:1≤z) (hzM:Mz n n z M) (hcap:5*(z*5 ^ ii.length)+2<17592186044416) (hcap2:NS ii.length (sub M ii ii)→gz ii.length z<17592186044416) :
  Calls Tryz.prog 15 #[s,gv,bv] w (RedcP w ii (outer n ii) M b):=by
 have cb:=fun W (h:Below w.heap.size w W)=>sbegin_ok W s gv bv n ii M b (hb0.call h) (hS.call h) (hG.call h) hg hn hz hzM hcap hcap2
 obtain⟨sa,sc,rfl⟩:=hS.shape
 obtain⟨a0,c0,rfl⟩:=hG.shape
 have HB0:=Lib.hid hb0
 obtain⟨ba,bc,rfl⟩:=hb0.shape
 rw[vl_length] at cb HB0 ⊢
 obtain⟨L,hL⟩:∃ L,L=ii.length:=⟨_,rfl⟩
 rw[←hL] at cb ⊢
 have HL:=Lib.hid hL
 have HGR:=Lib.hid hg
 have HZ:=Lib.hid hzM
 have HBZ:=Lib.hid hbz
 have HC2:=Lib.hid hcap2
 clear hS hG hL hg hzM hbz hcap hcap2 hb0
 have hin:=In.self w
 go_enter Tryz.func15,Tryz.ntmps15
 go_upto_region 1 with fail
 ((obtain⟨X,hXX⟩:∃ z,z=w.heap.size:=⟨_,rfl⟩);(have bV0:=((Bx.new_at w #[.int .i64 n,.int .i64 n,.slice sa n sc] 27 (n:=X) (by simp[hXX])).alloc (.cells #[.int .i64 0,.int .i64 0,.slice none 0 0] 37)));(have bV1:=(Bx.new_at (w.alloc (.cells #[.int .i64 n,.int .i64 n,.slice sa n sc] 27)) #[.int .i64 0,.int .i64 0,.slice none 0 0] 37 (n:=X+1) (by simp[hXX])));(have hV:=(((In.self w).alloc (.cells #[.int .i64 n,.int .i64 n,.slice sa n sc] 27)).alloc (.cells #[.int .i64 0,.int .i64 0,.slice none 0 0] 37)));(rw[←hXX] at hV ⊢);(have HX:=Lib.hid hXX);clear hXX;(generalize (w.alloc (.cells #[.int .i64 n,.int .i64 n,.slice sa n sc] 27)).alloc (.cells #[.int .i64 0,.int .i64 0,.slice none 0 0] 37)=V at *))
 have hV0:=hV
 rw[HX.out] at hV0
 have cb2:=cb V hV0.bel
 have hvb:=HB0.out.call hV0.bel
 clear hV0 cb HB0 hin
 (have x0:=bV0.c0;have x1:=bV0.c1;have x2:=bV0.c2;have xl:=bV0.lt)
 (go_wp2_with fail;(((with_reducible refine(cb2).mono ?_)));(rintro e w2 ⟨hI,hb⟩);clear x0 x1 x2 xl cb2;replace hV:=hV.call hb;replace hvb:=hvb.call hb;replace bV0:=bV0.call hb;replace bV1:=bV1.call hb;clear hb)
 rcases hI with ⟨hns,d,rfl,hsp⟩|⟨hns,rfl⟩
 ·obtain⟨p,rfl⟩:=hsp.ptr
  have HNS:=Lib.hid hns
  have hp:=pz_le (a:=ii.length) hz
  have hc:=HC2.out hns
  have hlo:∀ i∈outer n ii,i<n:=fun i h=>HGR.out.split.lt (.inr h)
  have hlen:=HGR.out.split.len
  have cm:=fun W (h:In w2.heap.size w2 W)=>scompl_any (j:=z) (l:=pz ii.length z) W _ ii (outer n ii) M _ (hsp.call h.bel) (by omega) (sub_szk HZ.out hlo hlo) (prod_szk hz HZ.out HGR.out.2 hlo) (by omega)
  have cv:=fun W (h:In w2.heap.size w2 W)=>scond_any W _ _ n ii (outer n ii) M (invM ii.length (sub M ii ii)) b (hsp.call h.bel) (hvb.call h.bel) hn HGR.out.2 hlo (by omega) (by omega) hz HZ.out HBZ.out (invM_szk hz (sub_szk HZ.out HGR.out.2 HGR.out.2)) hc
  obtain⟨O,hO⟩:∃ O,O=(outer n ii).length:=⟨_,rfl⟩
  obtain⟨T,hT⟩:∃ T,T=condV M ii (outer n ii) (invM ii.length (sub M ii ii)) b:=⟨_,rfl⟩
  rw[←hO] at cm
  rw[←hO,←hT] at cv
  have HO:=Lib.hid hO
  have HT:=Lib.hid hT
  clear hns hp hc hO hT hlo hlen hsp hvb
  have hself:=In.self w2
  (go_wp2_with fail;(((with_reducible refine(cm _ hself).mono ?_)));(rintro e w3 ⟨⟨d,rfl,hd⟩,hb⟩);clear cm;replace hV:=hV.call hb;replace hself:=hself.call hb;replace bV0:=bV0.call hb;replace bV1:=bV1.call hb;clear hb)
  obtain⟨ad,nd,kd,hnd,rfl⟩:=hd.shape
  clear hnd
  (go_wp2_with fail;(((with_reducible refine(cv _ hself).mono ?_)));(rintro e w4 ⟨⟨v,rfl,hv⟩,hb⟩);clear cv;replace hV:=hV.call hb;replace hself:=hself.call hb;replace hd:=hd.call hb;replace bV0:=bV0.call hb;replace bV1:=bV1.call hb;clear hb)
  obtain⟨va,vk,hve⟩:=hv.shape
  rw[vl_length] at hve
  subst hve
  have hin:=hV
  have bq:=bV1
  have KV:=Lib.hid (((hv.apart (x:=.int .i64 (O:Nat)) bq 0).apart (x:=.int .i64 (O:Nat)) (bq.set 0 (.int .i64 (O:Nat))) 1).apart (x:=.slice ad nd kd) ((bq.set 0 (.int .i64 (O:Nat))).set 1 (.int .i64 (O:Nat))) 2)
  clear hV bV0 bV1 hself hv
  ((have K5
       :=Lib.hid (hd.put3 (p':=((O:Nat):Int)) (q':=((O:Nat):Int)) (ao':=ad) (n':=nd) (k':=kd) bq));
       have r0:=bq.c0;
       have r1:=bq.c1;
       have r2:=bq.c2;
       (have f0:=bq.frozen 0);
       (have f1:=bq.frozen 1);
       (have f2:=bq.frozen 2);
       have ql:=bq.lt;
       (have K1:=Lib.hid (((bq.set 0 (.int .i64 ((O:Nat):Int))).set 1 (.int .i64 ((O:Nat):Int))).set 2 (.slice ad nd kd)));
       (have K2:=Lib.hid (((hin.setCell (p:=⟨(X+1),0,none⟩) (by first |(simp;done)|(have:=HX.out;simp;omega)) (.int .i64 ((O:Nat):Int))).setCell (p:=⟨(X+1),1,none⟩) (by first |(simp;done)|(have:=HX.out;simp;omega)) (.int .i64 ((O:Nat):Int))).setCell (p:=⟨(X+1),2,none⟩) (by first |(simp;done)|(have:=HX.out;simp;omega)) (.slice ad nd kd)));
       clear bq hin hd;
       go_wp2_with fail;
       have k1:=K1.out;
       have k2:=K2.out;
       have hm:=K5.out;
       clear r0 r1 r2 f0 f1 f2 ql K1 K2 K5;
       (generalize (((w4.setCell ⟨(X+1),0,none⟩ (.int .i64 ((O:Nat):Int))).setCell ⟨(X+1),1,none⟩ (.int .i64 ((O:Nat):Int))).setCell ⟨(X+1),2,none⟩ (.slice ad nd kd))=W9 at *);
       (have e0:W9.cell? ⟨(X+1),0,none⟩=some (.int .i64 ((O:Nat):Int)):=k1.cell 0);
       (have e1:W9.cell? ⟨(X+1),1,none⟩=some (.int .i64 ((O:Nat):Int)):=k1.cell 1);
       (have e2:W9.cell? ⟨(X+1),2,none⟩=some (.slice ad nd kd):=k1.cell 2);
       have hz:=k2.bel;
       (refine bodyPost_ret (v:=.tuple #[.agg #[.int .i64 ((O:Nat):Int),.int .i64 ((O:Nat):Int),.slice ad nd kd],.slice va O vk,.int .i64 0]) ?_ rfl ⟨.inl ⟨HNS.out,_,_,rfl,by rw[←HO.out];exact hm,by have:=KV.out;rw[HT.out] at this;rw[←HO.out];exact this⟩,by rw[←HX.out];exact hz⟩);
       (simp[results,Tryz.results15,go_sem,e0,e1,e2]))
 ·have HNS:=Lib.hid hns
  have hin:=hV
  have bq:=bV1
  have bx:=bV0
  clear hns hV bV0 bV1 hvb
  ((have r0
       :=bq.c0);
       have r1:=bq.c1;
       have r2:=bq.c2;
       (have f0:=bq.frozen 0);
       (have f1:=bq.frozen 1);
       (have f2:=bq.frozen 2);
       have hrl:=bq.lt;
       (have H1:=Lib.hid (((bq.set 0 (.int .i64 0)).set 1 (.int .i64 0)).set 2 (.slice none 0 0)));
       (have H2:=Lib.hid (((hin.setCell (p:=⟨(X+1),0,none⟩) (by first |(simp;done)|(have:=HX.out;simp;omega)) (.int .i64 0)).setCell (p:=⟨(X+1),1,none⟩) (by first |(simp;done)|(have:=HX.out;simp;omega)) (.int .i64 0)).setCell (p:=⟨(X+1),2,none⟩) (by first |(simp;done)|(have:=HX.out;simp;omega)) (.slice none 0 0)));
       clear bq hin bx;
       go_wp2_with fail;
       have g1:=H1.out;
       have g2:=H2.out;
       clear H1 H2 r0 r1 r2 f0 f1 f2 hrl;
       (generalize ((w2.setCell ⟨(X+1),0,none⟩ (.int .i64 0)).setCell ⟨(X+1),1,none⟩ (.int .i64 0)).setCell ⟨(X+1),2,none⟩ (.slice none 0 0)=W5 at *);
       (have e0:W5.cell? ⟨(X+1),0,none⟩=some (.int .i64 0):=g1.cell 0);
       (have e1:W5.cell? ⟨(X+1),1,none⟩=some (.int .i64 0):=g1.cell 1);
       (have e2:W5.cell? ⟨(X+1),2,none⟩=some (.slice none 0 0):=g1.cell 2);
       have hz:=g2.bel;
       (refine bodyPost_ret (v:=.tuple #[zeroSp,.slice none 0 0,.int .i64 6]) ?_ rfl ⟨.inr ⟨HNS.out,rfl⟩,by rw[←HX.out];exact hz⟩);
       (simp[results,Tryz.results15,go_sem,e0,e1,e2]))
def ExtP (w:World) (n:Nat) (ii oo:List Nat) (M:Mx) (b y:Vc) (e:Ending) (w':World):Prop:=((NS ii.length (sub M ii ii)∧∃ d,e=.returned (.tuple #[d,.int .i64 0])∧VecAt w' d (vl n (put2 ii oo (innV M ii oo (invM ii.length (sub M ii ii)) b y) y)))∨(¬ NS ii.length (sub M ii ii)∧e=.returned (.tuple #[.slice none 0 0,.int .i64 6])))∧Below w.heap.size w w'
set_option maxRecDepth 100000 in
set_option maxHeartbeats 8000000 in
theorem sextend_ok {z yz:Nat} (w:World) (s gv bv yv:Value) (n:Nat) (ii:List Nat) (M:Mx) (b y:Vc) (hb0:VecAt w bv (vl n b)) (hbz:Vz n z b) (hy0:VecAt w yv (vl (outer n ii).length y)) (hyz:1≤yz) (hyy:Vz (outer n ii).length yz y) (hS:SpM w s n n M) (hG:GrpAt w gv ii) (hg:Grp n ii) (hn:n≤16) (hz:1≤z) (hzM:Mz n n z M) (hcap:5*(z*5 ^ ii.length)+2<17592186044416) (hcap2:NS ii.length (sub M ii ii)→gz ii.length z<17592186044416)
  (hcapE:ez ii.length (outer n ii).length z yz<17592186044416) (hcapF:z+(1+(outer n ii).length*(z+yz+1))+1<17592186044416) :
  Calls Tryz.prog 16 #[s,gv,bv,yv] w (ExtP w n ii (outer n ii) M b y):=by
 obtain⟨ba,bc,rfl⟩:=hb0.shape
 obtain⟨ya,yc,rfl⟩:=hy0.shape
 obtain⟨O,hO⟩:∃ O,O=(outer n ii).length:=⟨_,rfl⟩
 have hlen0:=hg.split.len
 rw[←hO] at hlen0
 rw[vl_length] at hb0 hy0 ⊢
 rw[vl_length,←hO]
 rw[←hO] at hy0
 have HO:=Lib.hid hO
 have HBZ:=Lib.hid hbz
 have HYY:=Lib.hid hyy
 have HCE:=Lib.hid hcapE
 have HCF:=Lib.hid hcapF
 have HLEN:=Lib.hid hlen0
 clear hO hbz hyy hcapE hcapF hlen0
 have HS:=Lib.hid hS
 obtain⟨sa,sc,rfl⟩:=hS.shape
 have HG:=Lib.hid hG
 obtain⟨a0,c0,rfl⟩:=hG.shape
 obtain⟨L,hL⟩:∃ L,L=ii.length:=⟨_,rfl⟩
 rw[←hL] at HG ⊢
 have HL:=Lib.hid hL
 have hE:=grpE_one (by omega) hg
 have HGR:=Lib.hid hg
 have HZ:=Lib.hid hzM
 have HC1:=Lib.hid hcap
 have HC2:=Lib.hid hcap2
 clear hS hG hL hg hzM hcap hcap2
 have hin:=In.self w
 go_enter Tryz.func16,Tryz.ntmps16
 go_upto_region 1 with fail
 ((obtain⟨X,hXX⟩:∃ z,z=w.heap.size:=⟨_,rfl⟩);(have bV0:=(Bx.new_at w #[.int .i64 n,.int .i64 n,.slice sa n sc] 27 (n:=X) (by simp[hXX])));(have hV:=((In.self w).alloc (.cells #[.int .i64 n,.int .i64 n,.slice sa n sc] 27)));(rw[←hXX] at hV ⊢);(have HX:=Lib.hid hXX);clear hXX;(generalize w.alloc (.cells #[.int .i64 n,.int .i64 n,.slice sa n sc] 27)=V at *))
 have hV0:=hV
 rw[HX.out] at hV0
 have hS:=HS.out.call hV0.bel
 have hG:=HG.out.call hV0.bel
 replace hb0:=hb0.call hV0.bel
 replace hy0:=hy0.call hV0.bel
 clear hV0 HS HG hin
 have cd:=fun W gv (h:In V.heap.size V W) (hgs:GsAt W gv [zl ii])=>sdense_ok W _ gv n M [zl ii] (hS.call h.bel) (by omega) hgs (by simp)
 simp only[hE] at cd
 (have x0:=bV0.c0;have x1:=bV0.c1;have x2:=bV0.c2;have xl:=bV0.lt)
 go_wp2_with fail
 have hI2:=(In.self V).alloc (.cells #[.slice a0 L c0] 22)
 have bG:=Bx.new_at V #[.slice a0 L c0] 22 rfl
 ((with_reducible refine(cd _ _ hI2 ((hG.call hI2.bel).gs bG)).mono ?_))
 rintro e w2 ⟨⟨d,rfl,hd⟩,hb⟩
 replace hI2:=hI2.call hb
 replace hV:=hV.call hI2.bel
 replace hG:=hG.call hI2.bel
 replace bV0:=bV0.call hI2.bel
 replace hb0:=hb0.call hI2.bel
 replace hy0:=hy0.call hI2.bel
 clear hb cd hI2 bG x0 x1 x2 xl hS
 obtain⟨g,N,hN,hde,hbd⟩:=id hd
 subst hde
 clear hN hbd
 go_upto_region 2 with fail
 ((obtain⟨D,hD⟩:∃ z,z=w2.heap.size:=⟨_,rfl⟩);(have bD:=Bx.new_at w2 #[.int .i64 (n:Nat),.int .i64 (n:Nat),.slice (some ⟨g,0,none⟩) N N] 37 hD);(replace hV:=hV.alloc (.cells #[.int .i64 (n:Nat),.int .i64 (n:Nat),.slice (some ⟨g,0,none⟩) N N] 37));(replace bV0:=bV0.alloc (.cells #[.int .i64 (n:Nat),.int .i64 (n:Nat),.slice (some ⟨g,0,none⟩) N N] 37));(replace hG:=hG.call ((Below.refl _ _).alloc (Nat.le_refl _) (.cells #[.int .i64 (n:Nat),.int .i64 (n:Nat),.slice (some ⟨g,0,none⟩) N N] 37)));(replace hd:=hd.call ((Below.refl _ _).alloc (Nat.le_refl _) (.cells #[.int .i64 (n:Nat),.int .i64 (n:Nat),.slice (some ⟨g,0,none⟩) N N] 37)));(replace hb0:=hb0.call ((Below.refl _ _).alloc (Nat.le_refl _) (.cells #[.int .i64 (n:Nat),.int .i64 (n:Nat),.slice (some ⟨g,0,none⟩) N N] 37)));(replace hy0:=hy0.call ((Below.refl _ _).alloc (Nat.le_refl _) (.cells #[.int .i64 (n:Nat),.int .i64 (n:Nat),.slice (some ⟨g,0,none⟩) N N] 37)));(rw[←hD]);clear hD;(generalize w2.alloc (.cells #[.int .i64 (n:Nat),.int .i64 (n:Nat),.slice (some ⟨g,0,none⟩) N N] 37)=w3 at *))
 have cl:=fun W=>slength_any W ba n bc n
 rw[lenE_ok (by omega)] at cl
 (have x0:=bV0.c0;have x1:=bV0.c1;have x2:=bV0.c2;have xl:=bV0.lt)
 (go_wp2_with fail;(((with_reducible refine(cl _).mono ?_)));rintro e wc2 ⟨rfl,hb⟩;clear x0 x1 x2 xl cl;replace hV:=hV.call hb;replace hG:=hG.call hb;replace hd:=hd.call hb;replace hb0:=hb0.call hb;replace hy0:=hy0.call hb;replace bV0:=bV0.call hb;replace bD:=bD.call hb;clear hb)
 have hLO:L+O=n:=by rw[HL.out];exact HLEN.out
 have hwn:IntKind.i64.wrap ((n:Int) - L)=(O:Int):=by rw[show((n:Int) - L)=(O:Int) by omega];exact IntWalk.i64_in _ (by omega)
 have cl2:=fun W=>slength_any W ya O yc O
 rw[lenE_ok (by omega)] at cl2
 (have x0:=bV0.c0;have x1:=bV0.c1;have x2:=bV0.c2;have xl:=bV0.lt)
 (go_wp2_with fail;(((with_reducible refine(cl2 _).mono ?_)));rintro e wc3 ⟨rfl,hb⟩;clear x0 x1 x2 xl cl2;replace hV:=hV.call hb;replace hG:=hG.call hb;replace hd:=hd.call hb;replace hb0:=hb0.call hb;replace hy0:=hy0.call hb;replace bV0:=bV0.call hb;replace bD:=bD.call hb;clear hb)
 have cc:=scut_any wc3 _ _ n ii M hd hG HGR.out hn hz HZ.out HC1.out HC2.out
 (have x0:=bD.c0;have x1:=bD.c1;have x2:=bD.c2;have xl:=bD.lt)
 (go_wp2_with fail;(((with_reducible refine(cc).mono ?_)));(rintro e w6 ⟨hI,hb⟩);clear x0 x1 x2 xl cc hd hG hwn hLO;replace hV:=hV.call hb;replace hb0:=hb0.call hb;replace hy0:=hy0.call hb;replace bV0:=bV0.call hb;replace bD:=bD.call hb;clear hb)
 rcases hI with ⟨hns,d,rfl,hsp⟩|⟨hns,rfl⟩
 ·obtain⟨p,rfl⟩:=hsp.ptr
  have HNS:=Lib.hid hns
  have hN:=invM_szk hz (sub_szk HZ.out HGR.out.2 HGR.out.2)
  have ce:=sext_any (yz:=yz) w6 _ _ _ n ii (outer n ii) M _ b y hsp hb0 (by rw[←HO.out];exact hy0) hn HGR.out.split hz hyz HZ.out HBZ.out hN HYY.out HCE.out HCF.out
  obtain⟨T,hT⟩:∃ T,T=put2 ii (outer n ii) (innV M ii (outer n ii) (invM ii.length (sub M ii ii)) b y) y:=⟨_,rfl⟩
  rw[←hT] at ce
  have HT:=Lib.hid hT
  clear hns hT hN
  (go_wp2_with fail;(((with_reducible refine(ce).mono ?_)));(rintro e wc5 ⟨⟨v,rfl,hv⟩,hb⟩);clear ce hsp;replace hV:=hV.call hb;replace hb0:=hb0.call hb;replace hy0:=hy0.call hb;replace bV0:=bV0.call hb;replace bD:=bD.call hb;clear hb)
  obtain⟨va,vk,hve⟩:=hv.shape
  rw[vl_length] at hve
  subst hve
  have hbel:=hV.bel
  rw[HX.out] at hbel
  have H1:=Lib.hid hv
  clear hV bV0 bD hb0 hy0 hv
  go_wp2_with fail
  exact bodyPost_ret (v:=.tuple #[.slice va n vk,.int .i64 0]) (by simp[results,Tryz.results16,go_sem]) rfl ⟨.inl ⟨HNS.out,_,rfl,by rw[←HT.out];exact H1.out⟩,hbel⟩
 ·have HNS:=Lib.hid hns
  have hbel:=hV.bel
  rw[HX.out] at hbel
  clear hns hV bV0 bD hb0 hy0
  go_wp2_with fail
  exact bodyPost_ret (v:=.tuple #[.slice none 0 0,.int .i64 6]) (by simp[results,Tryz.results16,go_sem]) rfl ⟨.inr ⟨HNS.out,rfl⟩,hbel⟩
end Gus
end
section
namespace Gus
open Go Go.RowKit Go.Proofs
set_option maxRecDepth 100000 in
theorem vfits_ok (w:World) (n:Nat) (hn:n≤2048):Calls Tryz.prog 189 #[.int .i64 (n:Nat)] w fun e w'=>e=.returned (.int .i64 0)∧Below w.heap.size w w':=by
 have k1:¬ (n:Int)<0:=by omega
 have k2:¬ (2048:Int)<n:=by omega
 have hbel:=Below.refl w.heap.size w
 go_enter Tryz.func189,Tryz.ntmps189
 go_wp2_with fail
 go_ret
 exact⟨rfl,hbel⟩
def NewZ (lo n:Nat) (qs:List Rat) (e:Ending) (w':World):Prop:=∃ g,e=.returned (.tuple #[.slice (some ⟨g,0,none⟩) n n,.int .i64 0])∧lo≤g∧VBx w' g qs
set_option maxRecDepth 100000 in
set_option maxHeartbeats 2000000 in
theorem vzero_any (w:World) (n:Nat) (hn:n≤2048):Calls Tryz.prog 160 #[.int .i64 (n:Nat)] w fun e w'=>NewZ w.heap.size n (List.replicate n 0) e w'∧Below w.heap.size w w':=by
 have h1:=fun W=>vfits_ok W n hn
 have hmk:=mk_vec n (by omega)
 obtain⟨fc,hfc⟩:∃ fc,fc=fcl (List.replicate n 0):=⟨_,rfl⟩
 rw[←hfc] at hmk
 have HF:=Lib.hid hfc
 clear hfc
 have hin:=In.self w
 go_enter Tryz.func160,Tryz.ntmps160
 (go_wp2_with fail;(((with_reducible refine(h1 _).mono ?_)));rintro e w1 ⟨rfl,hb⟩;clear h1;replace hin:=hin.call hb;clear hb)
 have bv:VBx (w1.alloc (.cells fc.toArray 72)) w1.heap.size (List.replicate n 0):=by
  have:=Bx.new_at w1 fc.toArray 72 rfl
  show Bx _ _ 72 (fcl _)
  rw[←HF.out];exact this
 have H1:=Lib.hid bv
 have H2:=Lib.hid (hin.alloc (.cells fc.toArray 72))
 have hsz:=hin.siz
 clear bv hin
 go_wp2_with fail
 exact bodyPost_ret (v:=.tuple #[.slice (some ⟨w1.heap.size,0,none⟩) n n,.int .i64 0]) (by simp[results,Tryz.results160,go_sem]) rfl ⟨⟨_,rfl,hsz,H1.out⟩,H2.out.bel⟩
set_option maxRecDepth 100000 in
set_option maxHeartbeats 2000000 in
theorem vunit_any (w:World) (n k:Nat) (hk:k<n) (hn:n≤2048):Calls Tryz.prog 126 #[.int .i64 (n:Nat),.int .i64 (k:Nat)] w fun e w'=>(∃ qs:List Rat,qs.length=n∧NewZ w.heap.size n qs e w')∧Below w.heap.size w w':=by
 have h1:=fun W=>vzero_any W n hn
 obtain⟨one,hone⟩:∃ one:Rat,one=((1:Int):Rat):=⟨_,rfl⟩
 have c1:=fracInt_any 1 (by decide) (by decide)
 rw[←hone] at c1
 obtain⟨O1,O2,O3,O4,O5,hO,hO'⟩:∃ A1 A2 A3 A4 A5,fracV one=.agg #[.int .u64 A1,.string A2,.bool A3,.int .u64 A4,.string A5]∧fcs one=[.int .u64 A1,.string A2,.bool A3,.int .u64 A4,.string A5]:=⟨_,_,_,_,_,rfl,rfl⟩
 rw[hO] at c1
 have HO:=Lib.hid hO'
 have k1:¬ (k:Int)<0:=by omega
 have k2:¬ (n:Int)≤k:=by omega
 have k3:(k:Int)<n:=by omega
 have k4:(0:Int)≤k:=by omega
 have hin:=In.self w
 clear hO hO' hone
 go_enter Tryz.func126,Tryz.ntmps126
 (go_wp2_with fail;(((with_reducible refine(h1 _).mono ?_)));(rintro e w1 ⟨⟨g,rfl,hg,bv⟩,hb⟩);clear h1;replace hin:=hin.call hb;clear hb)
 go_wp2_with fail
 ((with_reducible refine(c1 _).mono ?_))
 rintro e w2 ⟨rfl,hb⟩
 replace hin:=hin.call hb
 replace bv:=bv.call hb
 clear hb c1
 have hlt:k<(List.replicate n (0:Rat)).length:=by rw[List.length_replicate];exact hk
 obtain⟨_,_,_,_,_,_,c0,c1,c2,c3,c4,f0,f1,f2,f3,f4⟩:=VBx.cells bv hlt
 have hgl:=bv.lt
 have hs:=VBx.setA bv k one hlt HO.out
 have H1:=Lib.hid hs
 have H2:=Lib.hid (hin.grown (gr_putA w2 g k (.int .u64 O1) (.string O2) (.bool O3) (.int .u64 O4) (.string O5)) hg)
 clear hs bv hin hlt
 go_wp2_with fail
 exact bodyPost_ret (v:=.tuple #[.slice (some ⟨g,0,none⟩) n n,.int .i64 0]) (by simp[results,Tryz.results126,go_sem]) rfl ⟨⟨_,by simp,_,rfl,hg,H1.out⟩,H2.out.bel⟩
end Gus
end
