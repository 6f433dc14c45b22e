/- Proved here: parts of the proof: KSrg. Conditions: those that each theorem states. -/
import Derived.Test.YthblojaeoiemmaaGreatDoorKSreQ
section
namespace Gus
open Go Go.RowKit Go.Proofs
theorem zl_inj {l m:List Nat} (h:zl l=zl m):l=m:=(List.map_inj_right fun _ _ h=>Int.natCast_inj.1 h).1 h
theorem i64_all {l:List Int} (h:∀ x∈l,-9223372036854775808≤x∧x<9223372036854775808):∀ i,-9223372036854775808≤l.getD i 0∧l.getD i 0<9223372036854775808:=fun i=>by
 by_cases hi:i<l.length
 ·rw[List.getD_eq_getElem?_getD,List.getElem?_eq_getElem hi];exact h _ (List.getElem_mem hi)
 ·rw[List.getD_eq_getElem?_getD,List.getElem?_eq_none (by omega)];decide
theorem gsq_two {w:World} {T:TypeId} {l m:List Nat} {G1 G2:Nat} (b1:Bx w G1 3 (icl l)) (b2:Bx w G2 3 (icl m)) :
  GsQ [zl l,zl m] (.slice (some ⟨w.heap.size,0,none⟩) 2 2) (w.alloc (.cells #[.slice (some ⟨G1,0,none⟩) l.length l.length,.slice (some ⟨G2,0,none⟩) m.length m.length] T)):=by
 have hb:=Bx.new_at w #[.slice (some ⟨G1,0,none⟩) l.length l.length,.slice (some ⟨G2,0,none⟩) m.length m.length] T rfl
 have hbl:Below w.heap.size w (w.alloc (.cells #[.slice (some ⟨G1,0,none⟩) l.length l.length,.slice (some ⟨G2,0,none⟩) m.length m.length] T)):=(Below.refl _ _).alloc (Nat.le_refl _) _
 have h1:=grp_new (N:=0) (w:=w.alloc (.cells #[.slice (some ⟨G1,0,none⟩) l.length l.length,.slice (some ⟨G2,0,none⟩) m.length m.length] T)) ⟨G1,rfl,Nat.zero_le _,b1.call hbl⟩
 have h2:=grp_new (N:=0) (w:=w.alloc (.cells #[.slice (some ⟨G1,0,none⟩) l.length l.length,.slice (some ⟨G2,0,none⟩) m.length m.length] T)) ⟨G2,rfl,Nat.zero_le _,b2.call hbl⟩
 obtain⟨a1,c1,e1,i1⟩:=h1
 obtain⟨a2,c2,e2,i2⟩:=h2
 injection e1 with e1 _ _
 injection e2 with e2 _ _
 subst e1 e2
 refine⟨⟨_,_,rfl,fun i hi=>?_⟩,_,_,_,rfl,Nat.le_refl _⟩
 have:i=0∨i=1:=by simp at hi;omega
 rcases this with rfl | rfl
 ·exact⟨_,0,some ⟨G1,0,none⟩,l.length,rfl,hb.lt,by show _=some (Value.slice _ (zl l).length _);rw[zl_length];exact hb.c0,i1⟩
 ·exact⟨_,0,some ⟨G2,0,none⟩,m.length,rfl,hb.lt,by show _=some (Value.slice _ (zl m).length _);rw[zl_length];exact hb.c1,i2⟩
theorem w_mt (W:World) (v:Value) (r c:Nat) (F:Mx) (bs:List UInt8) (hv:MatS W v r c F) (hr:r≤32) (hr0:0<r) (hc:c≤32) (hq:∀ i k,i<r→k<c→(F i k).num.natAbs<100∧(F i k).den<100) (ht:dmatT r c F=bs) :
  Calls Tryz.prog 42 #[v] W fun e w'=>e=.returned (strV bs)∧Below W.heap.size W w':=by
 subst ht
 exact mtextR_any W v r c 10 F hv hr hr0 hc (fun W i k hi hk=>ratTx_small W _ (hq i k hi hk).1 (hq i k hi hk).2) (by decide)
theorem w_vt (W:World) (v:Value) (qs:List Rat) (bs:List UInt8) (hv:VecAt W v qs) (hl:qs.length≤10) (hq:∀ q∈qs,q.num.natAbs<100∧q.den<100) (ht:vecT qs=bs) :
  Calls Tryz.prog 43 #[v] W fun e w'=>e=.returned (strV bs)∧Below W.heap.size W w':=by
 subst ht
 exact vtext_any W W v qs 10 hv (In.self W) (by omega) (fun i hi=>by
  have hm:qs.getD i 0∈qs:=by rw[List.getD_eq_getElem?_getD,List.getElem?_eq_getElem hi];exact List.getElem_mem _
  exact ratTx_small W _ (hq _ hm).1 (hq _ hm).2) (by omega)
set_option maxRecDepth 100000 in
set_option maxHeartbeats 16000000 in
theorem works21_any (w:World):Calls Tryz.prog 8 #[] w fun e w'=>e=.returned (.bool true)∧Below w.heap.size w w':=by
 have hin:=In.self w
 go_enter Tryz.func8,Tryz.ntmps8
 go_wp2_with fail
 ((obtain⟨Z,hZ⟩:∃ z,z=w.heap.size:=⟨_,rfl⟩);(have bZ:=Bx.new_at w #[.int .i64 2,.int .i64 1,.int .i64 0,.int .i64 1,.int .i64 3,.int .i64 1,.int .i64 0,.int .i64 1,.int .i64 2] 2 hZ);(replace hin:=hin.alloc (.cells #[.int .i64 2,.int .i64 1,.int .i64 0,.int .i64 1,.int .i64 3,.int .i64 1,.int .i64 0,.int .i64 1,.int .i64 2] 2));(rw[←hZ]);clear hZ;(generalize w.alloc (.cells #[.int .i64 2,.int .i64 1,.int .i64 0,.int .i64 1,.int .i64 3,.int .i64 1,.int .i64 0,.int .i64 1,.int .i64 2] 2)=w1 at *))
 have co:Calls Tryz.prog 40 #[.int .i64 3,.int .i64 3,.slice (some ⟨Z,0,none⟩) 9 9] w1 fun e w'=>(∃ d,e=.returned (.tuple #[d,.int .i64 0])∧MatS w' d 3 3 wM)∧Below w1.heap.size w1 w':=mofs_any w1 3 3 (some ⟨Z,0,none⟩) 9 wxM (ints_box bZ) rfl (by decide) (by decide) (fun i=>by
  by_cases hi:i<9
  ·have:i=0∨i=1∨i=2∨i=3∨i=4∨i=5∨i=6∨i=7∨i=8:=by omega
   rcases this with rfl | rfl | rfl | rfl | rfl | rfl | rfl | rfl | rfl <;> decide
  ·rw[List.getD_eq_getElem?_getD,List.getElem?_eq_none (by simp;omega)];decide)
 ((((with_reducible refine(co).mono ?_)));(rintro e w2 ⟨⟨d,rfl,hd⟩,hb⟩);clear co bZ;replace hin:=hin.call hb;clear hb)
 obtain⟨g,N,hN,rfl,hbd⟩:=hd
 have HN:=Lib.hid hN
 clear hN
 go_upto_region 2 with fail
 ((obtain⟨M,hM⟩:∃ z,z=w2.heap.size:=⟨_,rfl⟩);(have bM:=Bx.new_at w2 #[.int .i64 3,.int .i64 3,.slice (some ⟨g,0,none⟩) N N] 37 hM);(replace hin:=hin.alloc (.cells #[.int .i64 3,.int .i64 3,.slice (some ⟨g,0,none⟩) N N] 37));(replace hbd:=hbd.call ((Below.refl _ _).alloc (Nat.le_refl _) (.cells #[.int .i64 3,.int .i64 3,.slice (some ⟨g,0,none⟩) N N] 37)));(rw[←hM]);clear hM;(generalize w2.alloc (.cells #[.int .i64 3,.int .i64 3,.slice (some ⟨g,0,none⟩) N N] 37)=w3 at *))
 have cs:Calls Tryz.prog 23 #[.agg #[.int .i64 3,.int .i64 3,.slice (some ⟨g,0,none⟩) N N]] w3 fun e w'=>(∃ s,e=.returned s∧SpM w' s 3 3 wM)∧Below w3.heap.size w3 w':=lsparse_any (j:=2) w3 _ 3 3 wM ⟨g,N,HN.out,rfl,hbd⟩ (by decide) (by decide) wM_z (by decide) (by decide)
 (have m0:=bM.c0;have m1:=bM.c1;have m2:=bM.c2;have ml:=bM.lt)
 (go_wp2_with fail;(((with_reducible refine(cs).mono ?_)));(rintro e w4 ⟨⟨s,rfl,hs⟩,hb⟩);clear m0 m1 m2 ml cs hbd bM;replace hin:=hin.call hb;clear hb)
 obtain⟨sa,sk,he⟩:=hs.shape
 replace he:s=.agg #[.int .i64 3,.int .i64 3,.slice sa 3 sk]:=he
 subst he
 go_upto_region 3 with fail
 ((obtain⟨S,hS⟩:∃ z,z=w4.heap.size:=⟨_,rfl⟩);(have bS:=Bx.new_at w4 #[.int .i64 3,.int .i64 3,.slice sa 3 sk] 27 hS);(replace hin:=hin.alloc (.cells #[.int .i64 3,.int .i64 3,.slice sa 3 sk] 27));(replace hs:=hs.call ((Below.refl _ _).alloc (Nat.le_refl _) (.cells #[.int .i64 3,.int .i64 3,.slice sa 3 sk] 27)));(rw[←hS]);clear hS;(generalize w4.alloc (.cells #[.int .i64 3,.int .i64 3,.slice sa 3 sk] 27)=w5 at *))
 go_wp2_with fail
 ((obtain⟨Y,hY⟩:∃ z,z=w5.heap.size:=⟨_,rfl⟩);(have bY:=Bx.new_at w5 #[.int .i64 2,.int .i64 0] 3 hY);(replace hin:=hin.alloc (.cells #[.int .i64 2,.int .i64 0] 3));(replace bS:=bS.alloc (.cells #[.int .i64 2,.int .i64 0] 3));(replace hs:=hs.call ((Below.refl _ _).alloc (Nat.le_refl _) (.cells #[.int .i64 2,.int .i64 0] 3)));(rw[←hY]);clear hY;(generalize w5.alloc (.cells #[.int .i64 2,.int .i64 0] 3)=w6 at *))
 have cu:Calls Tryz.prog 13 #[.int .i64 4,.slice (some ⟨Y,0,none⟩) 2 2] w6 (OuterP w6 (outE 4 [2,0]) 4 [2,0]):=souter_any w6 4 (some ⟨Y,0,none⟩) 2 [2,0] (ints_box bY)
 ((((with_reducible refine(cu).mono ?_)));(rintro e w7 ⟨hI,hb⟩);clear cu bY;replace hin:=hin.call hb;replace hs:=hs.call hb;replace bS:=bS.call hb;clear hb)
 rcases hI with ⟨h,_⟩|⟨_,d,l,rfl,hxl,-,-,ho⟩
 ·exact absurd (by decide) h
 replace hxl:[2,0]=l:=zl_inj hxl
 subst hxl
 replace ho:GrpAt w7 d [1,3]:=ho
 obtain⟨oa,oc,he⟩:=ho.shape
 replace he:d=.slice oa 2 oc:=he
 subst he
 go_upto_region 4 with fail
 (have s0:=bS.c0;have s1:=bS.c1;have s2:=bS.c2;have sl:=bS.lt)
 go_wp2_with fail
 ((obtain⟨Y2,hY2⟩:∃ z,z=w7.heap.size:=⟨_,rfl⟩);(have bY2:=Bx.new_at w7 #[.int .i64 0] 3 hY2);clear s0 s1 s2 sl;(replace hin:=hin.alloc (.cells #[.int .i64 0] 3));(replace bS:=bS.alloc (.cells #[.int .i64 0] 3));(replace hs:=hs.call ((Below.refl _ _).alloc (Nat.le_refl _) (.cells #[.int .i64 0] 3)));(replace ho:=ho.call ((Below.refl _ _).alloc (Nat.le_refl _) (.cells #[.int .i64 0] 3)));(rw[←hY2]);clear hY2;(generalize w7.alloc (.cells #[.int .i64 0] 3)=w8 at *))
 have cc:Calls Tryz.prog 14 #[.agg #[.int .i64 3,.int .i64 3,.slice sa 3 sk],.slice (some ⟨Y2,0,none⟩) 1 1] w8 _:=w_cmp0 w8 _ _ hs (grp_new (N:=0) (l:=[0]) ⟨Y2,rfl,Nat.zero_le _,bY2⟩)
 ((((with_reducible refine(cc).mono ?_)));(rintro e w9 ⟨⟨d,rfl,hd⟩,hb⟩);clear cc bY2;replace hin:=hin.call hb;replace hs:=hs.call hb;replace ho:=ho.call hb;replace bS:=bS.call hb;clear hb)
 obtain⟨g1,N1,hN1,he,hb1⟩:=hd
 replace he:d=.agg #[.int .i64 2,.int .i64 2,.slice (some ⟨g1,0,none⟩) N1 N1]:=he
 subst he
 have HN1:=Lib.hid hN1
 clear hN1
 go_upto_region 5 with fail
 ((obtain⟨A,hA⟩:∃ z,z=w9.heap.size:=⟨_,rfl⟩);(have bA:=Bx.new_at w9 #[.int .i64 2,.int .i64 2,.slice (some ⟨g1,0,none⟩) N1 N1] 37 hA);(replace hin:=hin.alloc (.cells #[.int .i64 2,.int .i64 2,.slice (some ⟨g1,0,none⟩) N1 N1] 37));(replace bS:=bS.alloc (.cells #[.int .i64 2,.int .i64 2,.slice (some ⟨g1,0,none⟩) N1 N1] 37));(replace hs:=hs.call ((Below.refl _ _).alloc (Nat.le_refl _) (.cells #[.int .i64 2,.int .i64 2,.slice (some ⟨g1,0,none⟩) N1 N1] 37)));(replace ho:=ho.call ((Below.refl _ _).alloc (Nat.le_refl _) (.cells #[.int .i64 2,.int .i64 2,.slice (some ⟨g1,0,none⟩) N1 N1] 37)));(replace hb1:=hb1.call ((Below.refl _ _).alloc (Nat.le_refl _) (.cells #[.int .i64 2,.int .i64 2,.slice (some ⟨g1,0,none⟩) N1 N1] 37)));(rw[←hA]);clear hA;(generalize w9.alloc (.cells #[.int .i64 2,.int .i64 2,.slice (some ⟨g1,0,none⟩) N1 N1] 37)=w10 at *))
 (have s0:=bS.c0;have s1:=bS.c1;have s2:=bS.c2;have sl:=bS.lt)
 go_wp2_with fail
 ((obtain⟨Y3,hY3⟩:∃ z,z=w10.heap.size:=⟨_,rfl⟩);(have bY3:=Bx.new_at w10 #[.int .i64 2,.int .i64 0] 3 hY3);clear s0 s1 s2 sl;(replace hin:=hin.alloc (.cells #[.int .i64 2,.int .i64 0] 3));(replace bS:=bS.alloc (.cells #[.int .i64 2,.int .i64 0] 3));(replace bA:=bA.alloc (.cells #[.int .i64 2,.int .i64 0] 3));(replace hs:=hs.call ((Below.refl _ _).alloc (Nat.le_refl _) (.cells #[.int .i64 2,.int .i64 0] 3)));(replace ho:=ho.call ((Below.refl _ _).alloc (Nat.le_refl _) (.cells #[.int .i64 2,.int .i64 0] 3)));(replace hb1:=hb1.call ((Below.refl _ _).alloc (Nat.le_refl _) (.cells #[.int .i64 2,.int .i64 0] 3)));(rw[←hY3]);clear hY3;(generalize w10.alloc (.cells #[.int .i64 2,.int .i64 0] 3)=w11 at *))
 have cc:Calls Tryz.prog 14 #[.agg #[.int .i64 3,.int .i64 3,.slice sa 3 sk],.slice (some ⟨Y3,0,none⟩) 2 2] w11 _:=w_cmp20 w11 _ _ hs (grp_new (N:=0) (l:=[2,0]) ⟨Y3,rfl,Nat.zero_le _,bY3⟩)
 ((((with_reducible refine(cc).mono ?_)));(rintro e w12 ⟨⟨d,rfl,hd⟩,hb⟩);clear cc bY3;replace hin:=hin.call hb;replace hs:=hs.call hb;replace ho:=ho.call hb;replace hb1:=hb1.call hb;replace bS:=bS.call hb;replace bA:=bA.call hb;clear hb)
 obtain⟨g2,N2,hN2,he,hb2⟩:=hd
 replace he:d=.agg #[.int .i64 1,.int .i64 1,.slice (some ⟨g2,0,none⟩) N2 N2]:=he
 subst he
 have HN2:=Lib.hid hN2
 clear hN2
 go_upto_region 6 with fail
 ((obtain⟨B,hB⟩:∃ z,z=w12.heap.size:=⟨_,rfl⟩);(have bB:=Bx.new_at w12 #[.int .i64 1,.int .i64 1,.slice (some ⟨g2,0,none⟩) N2 N2] 37 hB);(replace hin:=hin.alloc (.cells #[.int .i64 1,.int .i64 1,.slice (some ⟨g2,0,none⟩) N2 N2] 37));(replace bS:=bS.alloc (.cells #[.int .i64 1,.int .i64 1,.slice (some ⟨g2,0,none⟩) N2 N2] 37));(replace bA:=bA.alloc (.cells #[.int .i64 1,.int .i64 1,.slice (some ⟨g2,0,none⟩) N2 N2] 37));(replace hs:=hs.call ((Below.refl _ _).alloc (Nat.le_refl _) (.cells #[.int .i64 1,.int .i64 1,.slice (some ⟨g2,0,none⟩) N2 N2] 37)));(replace ho:=ho.call ((Below.refl _ _).alloc (Nat.le_refl _) (.cells #[.int .i64 1,.int .i64 1,.slice (some ⟨g2,0,none⟩) N2 N2] 37)));(replace hb1:=hb1.call ((Below.refl _ _).alloc (Nat.le_refl _) (.cells #[.int .i64 1,.int .i64 1,.slice (some ⟨g2,0,none⟩) N2 N2] 37)));(replace hb2:=hb2.call ((Below.refl _ _).alloc (Nat.le_refl _) (.cells #[.int .i64 1,.int .i64 1,.slice (some ⟨g2,0,none⟩) N2 N2] 37)));(rw[←hB]);clear hB;(generalize w12.alloc (.cells #[.int .i64 1,.int .i64 1,.slice (some ⟨g2,0,none⟩) N2 N2] 37)=w13 at *))
 (have s0:=bS.c0;have s1:=bS.c1;have s2:=bS.c2;have sl:=bS.lt)
 have h:=In.self w13;have hc:=h.cell;have hf:=h.frozen;refine tfw 10 ?_;refine tset ?_;(repeat (first | refine tfs ?_))
 ((with_reducible refine flow_slice (t:=3) (zs:=#[.int .i64 0]) (n:=1) ?_ ?_ ?_ ?_);(focus (with_reducible rfl));(focus rfl);(focus (intro u w1 hw hd;replace hd:=thn hd;(try go_simp);(try exact rfl))))
 ((with_reducible refine flow_slice (t:=2) (zs:=#[.int .i64 2,.int .i64 1,.int .i64 1]) (n:=3) ?_ ?_ ?_ ?_);(focus (with_reducible rfl));(focus rfl);(focus (intro u w1 hw hd;replace hd:=thn hd;(try go_simp);(try exact rfl))))
 (with_reducible refine flow_rel (Vi:=VcQ (vl 3 (lv [2,1,1]))) false ?_ ?_ ?_ ?_ ?_ ?_);(focus rfl);(focus rfl);(focus exact stable_vcq _);(focus exact placed_false _);(focus (intro u w1 hw hd;replace hd:=thn hd;obtain hd:=hd;have hc':=hw.cell;go_simp;(try simp only[okUpon]);go_at_call 41;((with_reducible refine(w_of [2,1,1] (by decide) (i64_all (by decide)) _ _ hd).mono ?_));rintro e w'' ⟨⟨v,rfl,hv⟩,hb⟩;exact⟨v,rfl,⟨hv,fun h=>by cases h⟩,hb⟩))
 (with_reducible refine flow_rel (Vi:=RedQ 2 wS0 [0,1]) false ?_ ?_ ?_ ?_ ?_ ?_);(focus rfl);(focus rfl);(focus exact stable_redq _ _ _);(focus exact placed_false _);(focus (intro u w1 hw hd;replace hd:=thn hd;obtain⟨hd1,hd2,hd3⟩:=hd;have hc':=hw.cell;go_simp;(try simp only[okUpon]);go_at_call 15;((with_reducible refine(w_red _ _ _ _ (hs.call hw.ins.bel) (grp_new (l:=[0]) hd2) hd3.1.v).mono ?_));rintro e w'' ⟨⟨v,rfl,hv⟩,hb⟩;exact⟨v,rfl,⟨hv,fun h=>by cases h⟩,hb⟩))
 (((with_reducible refine flow_link (k:=4) (R:=MvMV) ?_ ?_ ?_ ?_);(focus rfl);(focus rfl);(focus (intro u w1 hw hd;replace hd:=thn hd;obtain⟨⟨n,m,a,l,k,b,j,p,e,h3⟩,_⟩:=hd;exact⟨u 4,fun w2=>(by go_simp),rfl,n,m,a,l,k,b,j,p,e,h3⟩)));((with_reducible refine flow_link (k:=5) (R:=FstMV) ?_ ?_ ?_ ?_);(focus rfl);(focus rfl);(focus (intro u w1 hw hd;replace hd:=thn hd;obtain⟨h4,n,m,a,l,k,b,j,p,e,h5⟩:=hd;exact⟨.agg #[.int .i64 n,.int .i64 m,.slice a l k],fun w2=>(by clear h4;go_simp),n,m,a,l,k,b,j,p,e,h5,rfl⟩)));((with_reducible refine flow_link (k:=5) (R:=SndMV) ?_ ?_ ?_ ?_);(focus rfl);(focus rfl);(focus (intro u w1 hw hd;replace hd:=thn hd;obtain⟨h4,n,m,a,l,k,b,j,p,e,h5⟩:=hd;exact⟨.slice b j p,fun w2=>(by clear h4;go_simp),n,m,a,l,k,b,j,p,e,h5,rfl⟩)));((with_reducible refine flow_link (k:=5) (R:=ThdMV) ?_ ?_ ?_ ?_);(focus rfl);(focus rfl);(focus (intro u w1 hw hd;replace hd:=thn hd;obtain⟨h4,n,m,a,l,k,b,j,p,e,h5⟩:=hd;exact⟨.int .i64 e,fun w2=>(by clear h4;go_simp),n,m,a,l,k,b,j,p,e,h5,rfl⟩))))
 (repeat (first | refine tfs ?_))
 (try clear hc hf h);intro u w' h ha hdi;replace h:=tsz h.ins;replace ha:=tah ha;have hc:=h.cell;have hf:=h.frozen;clear hdi hc hf;rename World=>wf
 (try simp only[ext,Nat.reduceEqDiff,reduceIte] at ha)
 obtain⟨⟨⟨⟨⟨⟨⟨⟨⟨h0,h1⟩,h2⟩,h3⟩,hrd⟩,hm1⟩,hm2⟩,hm3⟩,hm4⟩,E,hu,hE,bE⟩:=ha
 obtain⟨g3,N3,k3,j3,hq1,hq2,hq3,hq4,-,hv3⟩:=redq_out hrd hm1 hm2 hm3 hm4
 replace hq3:u 7=.slice k3 2 j3:=hq3
 replace hv3:VecAt wf (.slice k3 2 j3) [0,1]:=hv3
 (try dsimp only)
 simp only[h0,hq1,hq2,hq3,hq4,hu]
 clear h0 h1 h2 h3 hrd hm1 hm2 hm3 hm4 hq1 hq2 hq3 hq4 hu
 have KV:=Lib.hid (((hv3.apart (x:=.int .i64 2) bE 0).apart (x:=.int .i64 2) (bE.set 0 (.int .i64 2)) 1).apart (x:=.slice (some ⟨g3,0,none⟩) N3 N3) ((bE.set 0 (.int .i64 2)).set 1 (.int .i64 2)) 2)
 clear hv3
 (have p0:=bE.c0;have p1:=bE.c1;have p2:=bE.c2;(have pf0:=bE.frozen 0);(have pf1:=bE.frozen 1);(have pf2:=bE.frozen 2);have pl:=bE.lt;(have KS:=Lib.hid (((bE.set 0 (.int .i64 2)).set 1 (.int .i64 2)).set 2 (.slice (some ⟨g3,0,none⟩) N3 N3)));(have KH:=Lib.hid (((h.setCell (p:=⟨E,0,none⟩) (by first | exact hE |(simp;omega)) (.int .i64 2)).setCell (p:=⟨E,1,none⟩) (by first | exact hE |(simp;omega)) (.int .i64 2)).setCell (p:=⟨E,2,none⟩) (by first | exact hE |(simp;omega)) (.slice (some ⟨g3,0,none⟩) N3 N3)));clear h bE;(go_upto_region 7 with fail);have hb:=KH.out.bel;have bE:=KS.out;simp only[List.set] at bE;clear s0 s1 s2 sl;replace hin:=hin.call hb;replace hs:=hs.call hb;replace ho:=ho.call hb;replace hb1:=hb1.call hb;replace hb2:=hb2.call hb;replace bS:=bS.call hb;replace bA:=bA.call hb;replace bB:=bB.call hb;clear KS KH hb pl p0 p1 p2 pf0 pf1 pf2;(generalize ((wf.setCell ⟨E,0,none⟩ (.int .i64 2)).setCell ⟨E,1,none⟩ (.int .i64 2)).setCell ⟨E,2,none⟩ (.slice (some ⟨g3,0,none⟩) N3 N3)=w14 at *))
 have hv3:=KV.out
 clear KV
 (have s0:=bS.c0;have s1:=bS.c1;have s2:=bS.c2;have sl:=bS.lt)
 have h:=In.self w14;have hc:=h.cell;have hf:=h.frozen;refine tfw 10 ?_;refine tset ?_;(repeat (first | refine tfs ?_))
 ((with_reducible refine flow_slice (t:=3) (zs:=#[.int .i64 0]) (n:=1) ?_ ?_ ?_ ?_);(focus (with_reducible rfl));(focus rfl);(focus (intro u w1 hw hd;replace hd:=thn hd;(try go_simp);(try exact rfl))))
 ((with_reducible refine flow_slice (t:=2) (zs:=#[.int .i64 2,.int .i64 1,.int .i64 1]) (n:=3) ?_ ?_ ?_ ?_);(focus (with_reducible rfl));(focus rfl);(focus (intro u w1 hw hd;replace hd:=thn hd;(try go_simp);(try exact rfl))))
 (with_reducible refine flow_rel (Vi:=VcQ (vl 3 (lv [2,1,1]))) false ?_ ?_ ?_ ?_ ?_ ?_);(focus rfl);(focus rfl);(focus exact stable_vcq _);(focus exact placed_false _);(focus (intro u w1 hw hd;replace hd:=thn hd;obtain hd:=hd;have hc':=hw.cell;go_simp;(try simp only[okUpon]);go_at_call 41;((with_reducible refine(w_of [2,1,1] (by decide) (i64_all (by decide)) _ _ hd).mono ?_));rintro e w'' ⟨⟨v,rfl,hv⟩,hb⟩;exact⟨v,rfl,⟨hv,fun h=>by cases h⟩,hb⟩))
 ((with_reducible refine flow_slice (t:=2) (zs:=#[.int .i64 4,.int .i64 6]) (n:=2) ?_ ?_ ?_ ?_);(focus (with_reducible rfl));(focus rfl);(focus (intro u w1 hw hd;replace hd:=thn hd;(try go_simp);(try exact rfl))))
 (with_reducible refine flow_rel (Vi:=VcQ (vl 2 (lv [4,6]))) false ?_ ?_ ?_ ?_ ?_ ?_);(focus rfl);(focus rfl);(focus exact stable_vcq _);(focus exact placed_false _);(focus (intro u w1 hw hd;replace hd:=thn hd;obtain⟨hd1,hd2⟩:=hd;have hc':=hw.cell;go_simp;(try simp only[okUpon]);go_at_call 41;((with_reducible refine(w_of [4,6] (by decide) (i64_all (by decide)) _ _ hd1).mono ?_));rintro e w'' ⟨⟨v,rfl,hv⟩,hb⟩;exact⟨v,rfl,⟨hv,fun h=>by cases h⟩,hb⟩))
 (with_reducible refine flow_rel (Vi:=TupV [-1,4,6]) false ?_ ?_ ?_ ?_ ?_ ?_);(focus rfl);(focus rfl);(focus exact stable_tupv _);(focus exact placed_false _);(focus (intro u w1 hw hd;replace hd:=thn hd;obtain⟨hd1,hd2,hd3,hd4⟩:=hd;have hc':=hw.cell;go_simp;(try simp only[okUpon]);go_at_call 16;((with_reducible refine(w_ext _ _ _ _ _ (hs.call hw.ins.bel) (grp_new (l:=[0]) hd2) hd3.v hd4.1.v).mono ?_));rintro e w'' ⟨⟨v,rfl,hv⟩,hb⟩;exact⟨v,rfl,⟨hv,fun h=>by cases h⟩,hb⟩))
 (((with_reducible refine flow_link (k:=6) (R:=MvS) ?_ ?_ ?_ ?_);(focus rfl);(focus rfl);(focus (intro u w1 hw hd;replace hd:=thn hd;obtain⟨⟨a,l,k,e,h3⟩,_⟩:=hd;exact⟨u 6,fun w2=>(by go_simp),rfl,a,l,k,e,h3⟩)));((with_reducible refine flow_link (k:=7) (R:=FstS) ?_ ?_ ?_ ?_);(focus rfl);(focus rfl);(focus (intro u w1 hw hd;replace hd:=thn hd;obtain⟨h4,a,l,k,e,h5⟩:=hd;exact⟨.slice a l k,fun w2=>(by clear h4;go_simp),a,l,k,e,h5,rfl⟩)));((with_reducible refine flow_link (k:=7) (R:=SndS) ?_ ?_ ?_ ?_);(focus rfl);(focus rfl);(focus (intro u w1 hw hd;replace hd:=thn hd;obtain⟨h4,a,l,k,e,h5⟩:=hd;exact⟨.int .i64 e,fun w2=>(by clear h4;go_simp),a,l,k,e,h5,rfl⟩))))
 (try clear hc hf h);intro u w' h ha hdi;replace h:=tsz h.ins;replace ha:=tah ha;have hc:=h.cell;have hf:=h.frozen;have hb:=h.bel;clear hdi hc hf;clear s0 s1 s2 sl;replace hin:=hin.call hb;replace hs:=hs.call hb;replace ho:=ho.call hb;replace hb1:=hb1.call hb;replace hb2:=hb2.call hb;replace hv3:=hv3.call hb;replace bS:=bS.call hb;replace bA:=bA.call hb;replace bB:=bB.call hb;replace bE:=bE.call hb;clear hb h;rename World=>w15
 (try simp only[ext,Nat.reduceEqDiff,reduceIte] at ha)
 obtain⟨⟨⟨⟨⟨⟨⟨⟨⟨h0,h1⟩,h2⟩,h3⟩,h4⟩,h5⟩,hT⟩,hm1⟩,hm2⟩,hm3⟩:=ha
 obtain⟨a7,k7,-,hq1,hq2,hq3,hv7⟩:=tupv_out hT hm1 hm2 hm3
 replace hq1:u 7=.tuple #[.slice a7 3 k7,.int .i64 0]:=hq1
 replace hq2:u 8=.slice a7 3 k7:=hq2
 (try dsimp only)
 simp only[hq1,hq2,hq3]
 replace hv7:VecAt w15 (.slice a7 3 k7) [-1,4,6]:=hv7
 clear h0 h1 h2 h3 h4 h5 hT hm1 hm2 hm3 hq1 hq2 hq3
 go_upto_region 8 with fail
 (have s0:=bS.c0;have s1:=bS.c1;have s2:=bS.c2;have sl:=bS.lt)
 have h:=In.self w15;have hc:=h.cell;have hf:=h.frozen;refine tfw 8 ?_;refine tset ?_;(repeat (first | refine tfs ?_))
 ((with_reducible refine flow_slice (t:=3) (zs:=#[.int .i64 1]) (n:=1) ?_ ?_ ?_ ?_);(focus (with_reducible rfl));(focus rfl);(focus (intro u w1 hw hd;replace hd:=thn hd;(try go_simp);(try exact rfl))))
 ((with_reducible refine flow_slice (t:=2) (zs:=#[.int .i64 3,.int .i64 5,.int .i64 3]) (n:=3) ?_ ?_ ?_ ?_);(focus (with_reducible rfl));(focus rfl);(focus (intro u w1 hw hd;replace hd:=thn hd;(try go_simp);(try exact rfl))))
 (with_reducible refine flow_rel (Vi:=VcQ (vl 3 (lv [3,5,3]))) false ?_ ?_ ?_ ?_ ?_ ?_);(focus rfl);(focus rfl);(focus exact stable_vcq _);(focus exact placed_false _);(focus (intro u w1 hw hd;replace hd:=thn hd;obtain hd:=hd;have hc':=hw.cell;go_simp;(try simp only[okUpon]);go_at_call 41;((with_reducible refine(w_of [3,5,3] (by decide) (i64_all (by decide)) _ _ hd).mono ?_));rintro e w'' ⟨⟨v,rfl,hv⟩,hb⟩;exact⟨v,rfl,⟨hv,fun h=>by cases h⟩,hb⟩))
 (with_reducible refine flow_rel (Vi:=TupV [1,1,1]) false ?_ ?_ ?_ ?_ ?_ ?_);(focus rfl);(focus rfl);(focus exact stable_tupv _);(focus exact placed_false _);(focus (intro u w1 hw hd;replace hd:=thn hd;obtain⟨hd1,hd2,hd3⟩:=hd;have hc':=hw.cell;go_simp;(try simp only[okUpon]);go_at_call 17;((with_reducible refine(w_solve _ _ _ _ (hs.call hw.ins.bel) (grp_new (l:=[1]) hd2) hd3.1.v).mono ?_));rintro e w'' ⟨⟨v,rfl,hv⟩,hb⟩;exact⟨v,rfl,⟨hv,fun h=>by cases h⟩,hb⟩))
 (((with_reducible refine flow_link (k:=4) (R:=MvS) ?_ ?_ ?_ ?_);(focus rfl);(focus rfl);(focus (intro u w1 hw hd;replace hd:=thn hd;obtain⟨⟨a,l,k,e,h3⟩,_⟩:=hd;exact⟨u 4,fun w2=>(by go_simp),rfl,a,l,k,e,h3⟩)));((with_reducible refine flow_link (k:=5) (R:=FstS) ?_ ?_ ?_ ?_);(focus rfl);(focus rfl);(focus (intro u w1 hw hd;replace hd:=thn hd;obtain⟨h4,a,l,k,e,h5⟩:=hd;exact⟨.slice a l k,fun w2=>(by clear h4;go_simp),a,l,k,e,h5,rfl⟩)));((with_reducible refine flow_link (k:=5) (R:=SndS) ?_ ?_ ?_ ?_);(focus rfl);(focus rfl);(focus (intro u w1 hw hd;replace hd:=thn hd;obtain⟨h4,a,l,k,e,h5⟩:=hd;exact⟨.int .i64 e,fun w2=>(by clear h4;go_simp),a,l,k,e,h5,rfl⟩))))
 (try clear hc hf h);intro u w' h ha hdi;replace h:=tsz h.ins;replace ha:=tah ha;have hc:=h.cell;have hf:=h.frozen;have hb:=h.bel;clear hdi hc hf;clear s0 s1 s2 sl;replace hin:=hin.call hb;replace hs:=hs.call hb;replace ho:=ho.call hb;replace hb1:=hb1.call hb;replace hb2:=hb2.call hb;replace hv3:=hv3.call hb;replace hv7:=hv7.call hb;replace bS:=bS.call hb;replace bA:=bA.call hb;replace bB:=bB.call hb;replace bE:=bE.call hb;clear hb h;rename World=>w16
 (try simp only[ext,Nat.reduceEqDiff,reduceIte] at ha)
 obtain⟨⟨⟨⟨⟨⟨⟨h0,h1⟩,h2⟩,h3⟩,hT⟩,hm1⟩,hm2⟩,hm3⟩:=ha
 obtain⟨a8,k8,-,hq1,hq2,hq3,hv8⟩:=tupv_out hT hm1 hm2 hm3
 replace hq1:u 5=.tuple #[.slice a8 3 k8,.int .i64 0]:=hq1
 replace hq2:u 6=.slice a8 3 k8:=hq2
 (try dsimp only)
 simp only[hq1,hq2,hq3]
 replace hv8:VecAt w16 (.slice a8 3 k8) [1,1,1]:=hv8
 clear h0 h1 h2 h3 hT hm1 hm2 hm3 hq1 hq2 hq3
 go_upto_region 9 with fail
 (have s0:=bS.c0;have s1:=bS.c1;have s2:=bS.c2;have sl:=bS.lt)
 have h:=In.self w16;have hc:=h.cell;have hf:=h.frozen;refine tfw 10 ?_;refine tset ?_;(repeat (first | refine tfs ?_))
 ((with_reducible refine flow_slice (t:=3) (zs:=#[.int .i64 0]) (n:=1) ?_ ?_ ?_ ?_);(focus (with_reducible rfl));(focus rfl);(focus (intro u w1 hw hd;replace hd:=thn hd;(try go_simp);(try exact rfl))))
 ((with_reducible refine flow_slice (t:=3) (zs:=#[.int .i64 2]) (n:=1) ?_ ?_ ?_ ?_);(focus (with_reducible rfl));(focus rfl);(focus (intro u w1 hw hd;replace hd:=thn hd;(try go_simp);(try exact rfl))))
 (with_reducible refine flow_rel (Vi:=GsQ [zl [0],zl [2]]) false ?_ ?_ ?_ ?_ ?_ ?_);(focus rfl);(focus rfl);(focus exact stable_gsq _);(focus exact placed_false _);(focus (intro u w1 hw hd;replace hd:=thn hd;obtain⟨⟨G1,e1,g1,b1⟩,G2,e2,g2,b2⟩:=hd;have hc':=hw.cell;go_simp;(try simp only[okUpon]);exact⟨⟨gsq_two b1 b2,fun h=>by cases h⟩,(Below.refl _ _).alloc (Nat.le_refl _) _⟩))
 ((with_reducible refine flow_slice (t:=2) (zs:=#[.int .i64 3,.int .i64 5,.int .i64 3]) (n:=3) ?_ ?_ ?_ ?_);(focus (with_reducible rfl));(focus rfl);(focus (intro u w1 hw hd;replace hd:=thn hd;(try go_simp);(try exact rfl))))
 (with_reducible refine flow_rel (Vi:=VcQ (vl 3 (lv [3,5,3]))) false ?_ ?_ ?_ ?_ ?_ ?_);(focus rfl);(focus rfl);(focus exact stable_vcq _);(focus exact placed_false _);(focus (intro u w1 hw hd;replace hd:=thn hd;obtain hd:=hd;have hc':=hw.cell;go_simp;(try simp only[okUpon]);go_at_call 41;((with_reducible refine(w_of [3,5,3] (by decide) (i64_all (by decide)) _ _ hd).mono ?_));rintro e w'' ⟨⟨v,rfl,hv⟩,hb⟩;exact⟨v,rfl,⟨hv,fun h=>by cases h⟩,hb⟩))
 (with_reducible refine flow_rel (Vi:=TupV [1,1,1]) false ?_ ?_ ?_ ?_ ?_ ?_);(focus rfl);(focus rfl);(focus exact stable_tupv _);(focus exact placed_false _);(focus (intro u w1 hw hd;replace hd:=thn hd;obtain⟨hd1,hd2,hd3⟩:=hd;have hc':=hw.cell;go_simp;(try simp only[okUpon]);go_at_call 18;((with_reducible refine(w_nest _ _ _ _ (hs.call hw.ins.bel) hd2 hd3.1.v).mono ?_));rintro e w'' ⟨⟨v,rfl,hv⟩,hb⟩;exact⟨v,rfl,⟨hv,fun h=>by cases h⟩,hb⟩))
 (((with_reducible refine flow_link (k:=6) (R:=MvS) ?_ ?_ ?_ ?_);(focus rfl);(focus rfl);(focus (intro u w1 hw hd;replace hd:=thn hd;obtain⟨⟨a,l,k,e,h3⟩,_⟩:=hd;exact⟨u 6,fun w2=>(by go_simp),rfl,a,l,k,e,h3⟩)));((with_reducible refine flow_link (k:=7) (R:=FstS) ?_ ?_ ?_ ?_);(focus rfl);(focus rfl);(focus (intro u w1 hw hd;replace hd:=thn hd;obtain⟨h4,a,l,k,e,h5⟩:=hd;exact⟨.slice a l k,fun w2=>(by clear h4;go_simp),a,l,k,e,h5,rfl⟩)));((with_reducible refine flow_link (k:=7) (R:=SndS) ?_ ?_ ?_ ?_);(focus rfl);(focus rfl);(focus (intro u w1 hw hd;replace hd:=thn hd;obtain⟨h4,a,l,k,e,h5⟩:=hd;exact⟨.int .i64 e,fun w2=>(by clear h4;go_simp),a,l,k,e,h5,rfl⟩))))
 (try clear hc hf h);intro u w' h ha hdi;replace h:=tsz h.ins;replace ha:=tah ha;have hc:=h.cell;have hf:=h.frozen;have hb:=h.bel;clear hdi hc hf;clear s0 s1 s2 sl;replace hin:=hin.call hb;replace hs:=hs.call hb;replace ho:=ho.call hb;replace hb1:=hb1.call hb;replace hb2:=hb2.call hb;replace hv3:=hv3.call hb;replace hv7:=hv7.call hb;replace hv8:=hv8.call hb;replace bS:=bS.call hb;replace bA:=bA.call hb;replace bB:=bB.call hb;replace bE:=bE.call hb;clear hb h;rename World=>w17
 (try simp only[ext,Nat.reduceEqDiff,reduceIte] at ha)
 obtain⟨⟨⟨⟨⟨⟨⟨⟨⟨h0,h1⟩,h2⟩,h3⟩,h4⟩,h5⟩,hT⟩,hm1⟩,hm2⟩,hm3⟩:=ha
 obtain⟨a9,k9,-,hq1,hq2,hq3,hv9⟩:=tupv_out hT hm1 hm2 hm3
 replace hq1:u 7=.tuple #[.slice a9 3 k9,.int .i64 0]:=hq1
 replace hq2:u 8=.slice a9 3 k9:=hq2
 (try dsimp only)
 simp only[hq1,hq2,hq3]
 replace hv9:VecAt w17 (.slice a9 3 k9) [1,1,1]:=hv9
 clear h0 h1 h2 h3 h4 h5 hT hm1 hm2 hm3 hq1 hq2 hq3
 go_wp2_with fail
 ((obtain⟨Q,hQ⟩:∃ z,z=w17.heap.size:=⟨_,rfl⟩);(have bQ:=Bx.new_at w17 #[.int .i64 1,.int .i64 3] 3 hQ);(replace hin:=hin.alloc (.cells #[.int .i64 1,.int .i64 3] 3));(replace bS:=bS.alloc (.cells #[.int .i64 1,.int .i64 3] 3));(replace bA:=bA.alloc (.cells #[.int .i64 1,.int .i64 3] 3));(replace bB:=bB.alloc (.cells #[.int .i64 1,.int .i64 3] 3));(replace bE:=bE.alloc (.cells #[.int .i64 1,.int .i64 3] 3));(replace hs:=hs.call ((Below.refl _ _).alloc (Nat.le_refl _) (.cells #[.int .i64 1,.int .i64 3] 3)));(replace ho:=ho.call ((Below.refl _ _).alloc (Nat.le_refl _) (.cells #[.int .i64 1,.int .i64 3] 3)));(replace hb1:=hb1.call ((Below.refl _ _).alloc (Nat.le_refl _) (.cells #[.int .i64 1,.int .i64 3] 3)));(replace hb2:=hb2.call ((Below.refl _ _).alloc (Nat.le_refl _) (.cells #[.int .i64 1,.int .i64 3] 3)));(replace hv3:=hv3.call ((Below.refl _ _).alloc (Nat.le_refl _) (.cells #[.int .i64 1,.int .i64 3] 3)));(replace hv7:=hv7.call ((Below.refl _ _).alloc (Nat.le_refl _) (.cells #[.int .i64 1,.int .i64 3] 3)));(replace hv8:=hv8.call ((Below.refl _ _).alloc (Nat.le_refl _) (.cells #[.int .i64 1,.int .i64 3] 3)));(replace hv9:=hv9.call ((Below.refl _ _).alloc (Nat.le_refl _) (.cells #[.int .i64 1,.int .i64 3] 3)));(rw[←hQ]);clear hQ;(generalize w17.alloc (.cells #[.int .i64 1,.int .i64 3] 3)=w18 at *))
 have cq:Calls Tryz.prog 33 #[.slice oa 2 oc,.slice (some ⟨Q,0,none⟩) 2 2] w18 _:=lsame_any w18 _ _ [1,3] [1,3] ho (grp_new (N:=0) (l:=[1,3]) ⟨Q,rfl,Nat.zero_le _,bQ⟩) (by decide) (by decide)
 rw[show decide (([1,3]:List Nat)=[1,3])=true from rfl] at cq
 ((((with_reducible refine(cq).mono ?_)));rintro e w19 ⟨rfl,hb⟩;clear cq bQ;replace hin:=hin.call hb;replace hs:=hs.call hb;replace ho:=ho.call hb;replace hb1:=hb1.call hb;replace hb2:=hb2.call hb;replace hv3:=hv3.call hb;replace hv7:=hv7.call hb;replace hv8:=hv8.call hb;replace hv9:=hv9.call hb;replace bS:=bS.call hb;replace bA:=bA.call hb;replace bB:=bB.call hb;replace bE:=bE.call hb;clear hb)
 have ct:=fun W (h:Bx W g1 72 (fcl (dense 2 2 wS0)))=>w_mt W (.agg #[.int .i64 2,.int .i64 2,.slice (some ⟨g1,0,none⟩) N1 N1]) 2 2 wS0 _ ⟨g1,N1,HN1.out,rfl,h⟩ (by decide) (by decide) (by decide) wS0_q wt_A
 (have a0:=bA.c0;have a1:=bA.c1;have a2:=bA.c2;have al:=bA.lt)
 (go_wp2_with fail;(((with_reducible refine(ct _ hb1).mono ?_)));rintro e wc20 ⟨rfl,hb⟩;clear a0 a1 a2 al ct;replace hin:=hin.call hb;replace hs:=hs.call hb;replace ho:=ho.call hb;replace hb1:=hb1.call hb;replace hb2:=hb2.call hb;replace hv3:=hv3.call hb;replace hv7:=hv7.call hb;replace hv8:=hv8.call hb;replace hv9:=hv9.call hb;replace bS:=bS.call hb;replace bA:=bA.call hb;replace bB:=bB.call hb;replace bE:=bE.call hb;clear hb)
 have ct:=fun W (h:Bx W g2 72 (fcl (dense 1 1 wS20)))=>w_mt W (.agg #[.int .i64 1,.int .i64 1,.slice (some ⟨g2,0,none⟩) N2 N2]) 1 1 wS20 _ ⟨g2,N2,HN2.out,rfl,h⟩ (by decide) (by decide) (by decide) wS20_q wt_B
 (have b0:=bB.c0;have b1:=bB.c1;have b2:=bB.c2;have bl:=bB.lt)
 (go_wp2_with fail;(((with_reducible refine(ct _ hb2).mono ?_)));rintro e wc21 ⟨rfl,hb⟩;clear b0 b1 b2 bl ct;replace hin:=hin.call hb;replace hs:=hs.call hb;replace ho:=ho.call hb;replace hb1:=hb1.call hb;replace hb2:=hb2.call hb;replace hv3:=hv3.call hb;replace hv7:=hv7.call hb;replace hv8:=hv8.call hb;replace hv9:=hv9.call hb;replace bS:=bS.call hb;replace bA:=bA.call hb;replace bB:=bB.call hb;replace bE:=bE.call hb;clear hb)
 have ct:=fun W v (h:VecAt W v [0,1])=>w_vt W v [0,1] _ h (by decide) (by decide +kernel) wt_d
 (go_wp2_with fail;(((with_reducible refine(ct _ _ hv3).mono ?_)));rintro e wc22 ⟨rfl,hb⟩;clear ct;replace hin:=hin.call hb;replace hs:=hs.call hb;replace ho:=ho.call hb;replace hb1:=hb1.call hb;replace hb2:=hb2.call hb;replace hv3:=hv3.call hb;replace hv7:=hv7.call hb;replace hv8:=hv8.call hb;replace hv9:=hv9.call hb;replace bS:=bS.call hb;replace bA:=bA.call hb;replace bB:=bB.call hb;replace bE:=bE.call hb;clear hb)
 have ct:=fun W v (h:VecAt W v [-1,4,6])=>w_vt W v [-1,4,6] _ h (by decide) (by decide +kernel) wt_e
 (go_wp2_with fail;(((with_reducible refine(ct _ _ hv7).mono ?_)));rintro e wc23 ⟨rfl,hb⟩;clear ct;replace hin:=hin.call hb;replace hs:=hs.call hb;replace ho:=ho.call hb;replace hb1:=hb1.call hb;replace hb2:=hb2.call hb;replace hv3:=hv3.call hb;replace hv7:=hv7.call hb;replace hv8:=hv8.call hb;replace hv9:=hv9.call hb;replace bS:=bS.call hb;replace bA:=bA.call hb;replace bB:=bB.call hb;replace bE:=bE.call hb;clear hb)
 have ct:=fun W v (h:VecAt W v [1,1,1])=>w_vt W v [1,1,1] _ h (by decide) (by decide +kernel) wt_f
 (go_wp2_with fail;(((with_reducible refine(ct _ _ hv8).mono ?_)));rintro e wc24 ⟨rfl,hb⟩;clear ct;replace hin:=hin.call hb;replace hs:=hs.call hb;replace ho:=ho.call hb;replace hb1:=hb1.call hb;replace hb2:=hb2.call hb;replace hv3:=hv3.call hb;replace hv7:=hv7.call hb;replace hv8:=hv8.call hb;replace hv9:=hv9.call hb;replace bS:=bS.call hb;replace bA:=bA.call hb;replace bB:=bB.call hb;replace bE:=bE.call hb;clear hb)
 have ct:=fun W v (h:VecAt W v [1,1,1])=>w_vt W v [1,1,1] _ h (by decide) (by decide +kernel) wt_f
 (go_wp2_with fail;(((with_reducible refine(ct _ _ hv9).mono ?_)));rintro e wc25 ⟨rfl,hb⟩;clear ct;replace hin:=hin.call hb;replace hs:=hs.call hb;replace ho:=ho.call hb;replace hb1:=hb1.call hb;replace hb2:=hb2.call hb;replace hv3:=hv3.call hb;replace hv7:=hv7.call hb;replace hv8:=hv8.call hb;replace hv9:=hv9.call hb;replace bS:=bS.call hb;replace bA:=bA.call hb;replace bB:=bB.call hb;replace bE:=bE.call hb;clear hb)
 have hbel:=hin.bel
 clear hin
 go_wp2_with fail
 go_ret
 exact⟨rfl,hbel⟩
end Gus
end
