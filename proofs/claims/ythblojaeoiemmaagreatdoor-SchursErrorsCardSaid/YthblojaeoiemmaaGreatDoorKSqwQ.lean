/- Proved here: parts of the proof: KSqw KSqx KSqy. Conditions: those that each theorem states. -/
import Derived.Test.YthblojaeoiemmaaGreatDoorKSquQ
section
namespace Gus
open Go Go.RowKit Go.Proofs
set_option maxRecDepth 100000 in
set_option maxHeartbeats 8000000 in
theorem sNested_ok {z:Nat} (w:World) (s gv bv:Value) (n:Nat) (gs:List (List Nat)) (M:Mx) (b:Vc) (hb0:VecAt w bv (vl n b)) (hbz:Vz n z b) (hS:SpM w s n n M) (hG:GsAt w gv (gs.map zl)) (hC:CapS gv) (hg:Grp n gs.flatten) (hgl:gs.length≤4096) (hn:n≤16) (hz:1≤z) (hzM:Mz n n z M) (hcap:NestC gs.length gs n M z) :
  Calls Tryz.prog 18 #[s,gv,bv] w (NestP w gs.length gs n M b):=by
 obtain⟨ba,bc,rfl⟩:=hb0.shape
 rw[vl_length] at hb0 ⊢
 have HS:=Lib.hid hS
 obtain⟨sa,sc,rfl⟩:=hS.shape
 have HG:=Lib.hid hG
 have HC:=Lib.hid hC
 obtain⟨ga,gc,rfl⟩:=hG.shape
 obtain⟨L,hL⟩:∃ L,L=gs.length:=⟨_,rfl⟩
 rw[List.length_map,←hL] at HG HC ⊢
 rw[←hL] at hcap
 have HL:=Lib.hid hL
 have hE:=grpE_ok (by omega) hg
 have HGR:=Lib.hid hg
 have HGL:=Lib.hid hgl
 have HZ:=Lib.hid hzM
 have HBZ:=Lib.hid hbz
 have HCAP:=Lib.hid hcap
 clear hS hG hC hL hg hgl hzM hbz hcap
 have hin:=In.self w
 go_enter Tryz.func18,Tryz.ntmps18
 go_upto_region 1 with fail
 ((obtain⟨X,hXX⟩:∃ z,z=w.heap.size:=⟨_,rfl⟩);(have bV0:=(Bx.new_at w #[.int .i64 n,.int .i64 n,.slice sa n sc] 27 (n:=X) (by simp[hXX])));(have hV:=((In.self w).alloc (.cells #[.int .i64 n,.int .i64 n,.slice sa n sc] 27)));(rw[←hXX] at hV ⊢);(have HX:=Lib.hid hXX);clear hXX;(generalize w.alloc (.cells #[.int .i64 n,.int .i64 n,.slice sa n sc] 27)=V at *))
 have hV0:=hV
 rw[HX.out] at hV0
 have hS:=HS.out.call hV0.bel
 have hG:=HG.out.call hV0.bel
 replace hb0:=hb0.call hV0.bel
 clear hV0 HS HG hin
 have cd:=sdense_ok V _ _ n M (gs.map zl) hS (by omega) hG (by rw[List.length_map];exact HGL.out)
 rw[hE] at cd
 (have x0:=bV0.c0;have x1:=bV0.c1;have x2:=bV0.c2;have xl:=bV0.lt)
 (go_wp2_with fail;(((with_reducible refine(cd).mono ?_)));(rintro e w2 ⟨⟨d,rfl,hd⟩,hb⟩);clear x0 x1 x2 xl cd hS hE;replace hV:=hV.call hb;replace hG:=hG.call hb;replace hb0:=hb0.call hb;replace bV0:=bV0.call hb;clear hb)
 obtain⟨g,N,hN,hde,hbd⟩:=id hd
 subst hde
 clear hN hbd
 go_upto_region 2 with fail
 ((obtain⟨D,hD⟩:∃ z,z=w2.heap.size:=⟨_,rfl⟩);(have bD:=Bx.new_at w2 #[.int .i64 (n:Nat),.int .i64 (n:Nat),.slice (some ⟨g,0,none⟩) N N] 37 hD);(replace hV:=hV.alloc (.cells #[.int .i64 (n:Nat),.int .i64 (n:Nat),.slice (some ⟨g,0,none⟩) N N] 37));(replace bV0:=bV0.alloc (.cells #[.int .i64 (n:Nat),.int .i64 (n:Nat),.slice (some ⟨g,0,none⟩) N N] 37));(replace hG:=hG.call ((Below.refl _ _).alloc (Nat.le_refl _) (.cells #[.int .i64 (n:Nat),.int .i64 (n:Nat),.slice (some ⟨g,0,none⟩) N N] 37)));(replace hb0:=hb0.call ((Below.refl _ _).alloc (Nat.le_refl _) (.cells #[.int .i64 (n:Nat),.int .i64 (n:Nat),.slice (some ⟨g,0,none⟩) N N] 37)));(replace hd:=hd.call ((Below.refl _ _).alloc (Nat.le_refl _) (.cells #[.int .i64 (n:Nat),.int .i64 (n:Nat),.slice (some ⟨g,0,none⟩) N N] 37)));(rw[←hD]);clear hD;(generalize w2.alloc (.cells #[.int .i64 (n:Nat),.int .i64 (n:Nat),.slice (some ⟨g,0,none⟩) N N] 37)=w3 at *))
 have cl:=fun W=>slength_any W ba n bc n
 rw[lenE_ok (by omega)] at cl
 (have x0:=bV0.c0;have x1:=bV0.c1;have x2:=bV0.c2;have xl:=bV0.lt)
 (go_wp2_with fail;(((with_reducible refine(cl _).mono ?_)));rintro e w4 ⟨rfl,hb⟩;clear x0 x1 x2 xl cl;replace hV:=hV.call hb;replace hG:=hG.call hb;replace hb0:=hb0.call hb;replace hd:=hd.call hb;replace bV0:=bV0.call hb;replace bD:=bD.call hb;clear hb)
 have cn:=snested_any L gs z w4 _ _ _ n M b HL.out.symm (by rw[HL.out];exact HGL.out) hd hG HC.out HGR.out hb0 hn hz HZ.out HBZ.out HCAP.out
 (have x0:=bD.c0;have x1:=bD.c1;have x2:=bD.c2;have xl:=bD.lt)
 (go_wp2_with fail;(((with_reducible refine(cn).mono ?_)));(rintro e w5 ⟨hI,hb⟩);clear x0 x1 x2 xl cn hd hG;replace hV:=hV.call hb;replace hb0:=hb0.call hb;replace bV0:=bV0.call hb;replace bD:=bD.call hb;clear hb)
 have hbel:=hV.bel
 rw[HX.out] at hbel
 clear hV bV0 bD hb0
 rcases hI with ⟨hns,d,rfl,hd⟩|⟨hns,rfl⟩
 ·obtain⟨da,dc,rfl⟩:=hd.shape
  rw[vl_length] at hd ⊢
  have H1:=Lib.hid hd
  have HNS:=Lib.hid hns
  clear hns hd
  go_wp2_with fail
  exact bodyPost_ret (v:=.tuple #[.slice da n dc,.int .i64 0]) (by simp[results,Tryz.results18,go_sem]) rfl ⟨.inl ⟨HNS.out,_,rfl,H1.out⟩,hbel⟩
 ·have HNS:=Lib.hid hns
  clear hns
  go_wp2_with fail
  exact bodyPost_ret (v:=.tuple #[.slice none 0 0,.int .i64 6]) (by simp[results,Tryz.results18,go_sem]) rfl ⟨.inr ⟨HNS.out,rfl⟩,hbel⟩
set_option maxRecDepth 100000 in
set_option maxHeartbeats 8000000 in
theorem sSolve_ok {z:Nat} (w:World) (s gv bv:Value) (n:Nat) (ii:List Nat) (M:Mx) (b:Vc) (hb0:VecAt w bv (vl n b)) (hbz:Vz n z b) (hS:SpM w s n n M) (hG:GrpAt w gv ii) (hg:Grp n ii) (hn:n≤16) (hz:1≤z) (hzM:Mz n n z M) (hcap:NestC 1 [ii] n M z) :
  Calls Tryz.prog 17 #[s,gv,bv] w (NestP w 1 [ii] n M b):=by
 have cn:=fun W gv (h:In w.heap.size w W) (hgs:GsAt W gv ([ii].map zl)) (hc:CapS gv)=>sNested_ok W s gv bv n [ii] M b (hb0.call h.bel) hbz (hS.call h.bel) hgs hc (by simpa using hg) (by simp) hn hz hzM hcap
 obtain⟨ba,bc,rfl⟩:=hb0.shape
 rw[vl_length] at hb0 cn ⊢
 obtain⟨sa,sc,rfl⟩:=hS.shape
 have HG:=Lib.hid hG
 obtain⟨a0,c0,rfl⟩:=hG.shape
 obtain⟨L,hL⟩:∃ L,L=ii.length:=⟨_,rfl⟩
 rw[←hL] at HG ⊢
 have HL:=Lib.hid hL
 clear hS hG hL hg hzM hbz hcap hb0
 have hin:=In.self w
 go_enter Tryz.func17,Tryz.ntmps17
 go_upto_region 1 with fail
 ((obtain⟨X,hXX⟩:∃ z,z=w.heap.size:=⟨_,rfl⟩);(have bV0:=(Bx.new_at w #[.int .i64 n,.int .i64 n,.slice sa n sc] 27 (n:=X) (by simp[hXX])));(have hV:=((In.self w).alloc (.cells #[.int .i64 n,.int .i64 n,.slice sa n sc] 27)));(rw[←hXX] at hV ⊢);(have HX:=Lib.hid hXX);clear hXX;(generalize w.alloc (.cells #[.int .i64 n,.int .i64 n,.slice sa n sc] 27)=V at *))
 have hV0:=hV
 rw[HX.out] at hV0
 have hG:=HG.out.call hV0.bel
 have cn2:=fun W gv (h:In V.heap.size V W)=>cn W gv (hV0.call h.bel)
 clear HG hin cn
 (have x0:=bV0.c0;have x1:=bV0.c1;have x2:=bV0.c2;have xl:=bV0.lt)
 go_wp2_with fail
 have hI2:=(In.self V).alloc (.cells #[.slice a0 L c0] 22)
 have bG:=Bx.new_at V #[.slice a0 L c0] 22 rfl
 have cn3:=cn2 _ (.slice (some ⟨V.heap.size,0,none⟩) 1 1) hI2 ((hG.call hI2.bel).gs bG) ⟨_,_,_,rfl,Nat.le_refl _⟩
 (with_reducible refine cn3.mono ?_)
 rintro e w2 ⟨hI,hb⟩
 have hbel:=(hV0.call (hI2.call hb).bel).bel
 clear hb cn2 cn3 hI2 bG x0 x1 x2 xl hV hV0 bV0 hG
 rcases hI with ⟨hns,d,rfl,hd⟩|⟨hns,rfl⟩
 ·obtain⟨da,dc,rfl⟩:=hd.shape
  rw[vl_length] at hd ⊢
  have H1:=Lib.hid hd
  have HNS:=Lib.hid hns
  clear hns hd
  go_wp2_with fail
  exact bodyPost_ret (v:=.tuple #[.slice da n dc,.int .i64 0]) (by simp[results,Tryz.results17,go_sem]) rfl ⟨.inl ⟨HNS.out,_,rfl,H1.out⟩,hbel⟩
 ·have HNS:=Lib.hid hns
  clear hns
  go_wp2_with fail
  exact bodyPost_ret (v:=.tuple #[.slice none 0 0,.int .i64 6]) (by simp[results,Tryz.results17,go_sem]) rfl ⟨.inr ⟨HNS.out,rfl⟩,hbel⟩
end Gus
end
section
namespace Gus
open Go Go.RowKit Go.Proofs
section
variable {P:Program} {ops:Array Oper} {Q:Exit→Act→World→Prop} {S:World→Prop} {n:Nat}
end
theorem own_in {base:Nat} {W w w':World} {T:TypeId} {s n:Nat} {v:Value} {xs:List Value} (hin:In base W w) (hown:w.ownsRow base T s v n xs) (hgr:w.grownBy w' v.ownBlock):In base W w':=
 ⟨hin.bel.grown hgr hin.siz (fun k h=>(World.ownsRow.lt hown k h).1),Nat.le_trans hin.siz hgr.size⟩
end Gus
end
