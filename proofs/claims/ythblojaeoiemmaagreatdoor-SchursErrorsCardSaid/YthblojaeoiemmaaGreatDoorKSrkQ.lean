/- Proved here: parts of the proof: KSrk. Conditions: those that each theorem states. -/
import Derived.Test.YthblojaeoiemmaaGreatDoorKSqwQ
section
namespace Gus
open Go Go.RowKit Go.Proofs
def DenE (w:World) (s:Value) (xs:List (List Int)) (E:Int):Prop:=∀ W gv,Below w.heap.size w W→GsAt W gv xs→Calls Tryz.prog 48 #[s,gv] W fun e w'=>(∃ (r c:Int) (a:Option Addr) (l k:Nat),e=.returned (.tuple #[.agg #[.int .i64 r,.int .i64 c,.slice a l k],.int .i64 E]))∧Below W.heap.size W w'
theorem DenE.call {w w':World} {s:Value} {xs:List (List Int)} {E:Int} (h:DenE w s xs E) (hb:Below w.heap.size w w'):DenE w' s xs E:=fun W gv hW hg=>h W gv (hb.trans (hW.mono hb.size)) hg
set_option maxRecDepth 100000 in
set_option maxHeartbeats 8000000 in
theorem scomplement_err (w:World) (n m:Int) (sa:Option Addr) (sl sc:Nat) (a0:Option Addr) (c0:Nat) (xs:List Int) (hx:IntsAt w a0 xs) (E:Int) (h0:E≠0) (hD:DenE w (.agg #[.int .i64 n,.int .i64 m,.slice sa sl sc]) [xs] E) :
  Calls Tryz.prog 14 #[.agg #[.int .i64 n,.int .i64 m,.slice sa sl sc],.slice a0 xs.length c0] w fun e w'=>e=.returned (.tuple #[zeroSp,.int .i64 E])∧Below w.heap.size w w':=by
 obtain⟨L,hL⟩:∃ L,L=xs.length:=⟨_,rfl⟩
 rw[←hL]
 have HL:=Lib.hid hL
 have HX0:=Lib.hid hx
 clear hL hx
 have hne:(E != 0)=true:=by simpa using h0
 have hq0:(E == 0)=false:=by simpa using h0
 have hin:=In.self w
 go_enter Tryz.func14,Tryz.ntmps14
 go_upto_region 1 with fail
 ((obtain⟨X,hXX⟩:∃ z,z=w.heap.size:=⟨_,rfl⟩);(have bV0:=((Bx.new_at w #[.int .i64 n,.int .i64 m,.slice sa sl sc] 27 (n:=X) (by simp[hXX])).alloc (.cells #[.int .i64 0,.int .i64 0,.slice none 0 0] 37)));(have bV1:=(Bx.new_at (w.alloc (.cells #[.int .i64 n,.int .i64 m,.slice sa sl sc] 27)) #[.int .i64 0,.int .i64 0,.slice none 0 0] 37 (n:=X+1) (by simp[hXX])));(have hV:=(((In.self w).alloc (.cells #[.int .i64 n,.int .i64 m,.slice sa sl sc] 27)).alloc (.cells #[.int .i64 0,.int .i64 0,.slice none 0 0] 37)));(rw[←hXX] at hV ⊢);(have HX:=Lib.hid hXX);clear hXX;(generalize (w.alloc (.cells #[.int .i64 n,.int .i64 m,.slice sa sl sc] 27)).alloc (.cells #[.int .i64 0,.int .i64 0,.slice none 0 0] 37)=V at *))
 have hV0:=hV
 rw[HX.out] at hV0
 have hG:=HX0.out.call hV0.bel
 have hDV:=hD.call hV0.bel
 clear hV0 HX0 hin hD
 (have x0:=bV0.c0;have x1:=bV0.c1;have x2:=bV0.c2;have xl:=bV0.lt)
 go_wp2_with fail
 have hI2:=(In.self V).alloc (.cells #[.slice a0 L c0] 22)
 have bG:=Bx.new_at V #[.slice a0 L c0] 22 rfl
 have cd:=hDV _ (.slice (some ⟨V.heap.size,0,none⟩) 1 1) hI2.bel (by have:=gs_one (l:=xs) (by rw[←HL.out];exact bG) (hG.call hI2.bel);exact this)
 (with_reducible refine cd.mono ?_)
 rintro e w2 ⟨⟨r,c,a,l,k,rfl⟩,hb⟩
 replace hI2:=hI2.call hb
 replace hV:=hV.call hI2.bel
 replace bV0:=bV0.call hI2.bel
 replace bV1:=bV1.call hI2.bel
 clear hb cd hDV hG x0 x1 x2 xl
 clear hI2 bG
 go_upto_region 2 with fail
 ((obtain⟨D,hD⟩:∃ z,z=w2.heap.size:=⟨_,rfl⟩);(have bD:=Bx.new_at w2 #[.int .i64 r,.int .i64 c,.slice a l k] 37 hD);(replace hV:=hV.alloc (.cells #[.int .i64 r,.int .i64 c,.slice a l k] 37));(replace bV0:=bV0.alloc (.cells #[.int .i64 r,.int .i64 c,.slice a l k] 37));(replace bV1:=bV1.alloc (.cells #[.int .i64 r,.int .i64 c,.slice a l k] 37));(rw[←hD]);clear hD;(generalize w2.alloc (.cells #[.int .i64 r,.int .i64 c,.slice a l k] 37)=w3 at *))
 have hin:=hV
 have bq:=bV1
 have bx:=bV0
 clear hV bV0 bV1 bD
 (have r0:=bq.c0;
       have r1:=bq.c1;
       have r2:=bq.c2;
       (have f0:=bq.frozen 0);
       (have f1:=bq.frozen 1);
       (have f2:=bq.frozen 2);
       have hrl:=bq.lt;
       (have H1:=Lib.hid (((bq.set 0 (.int .i64 0)).set 1 (.int .i64 0)).set 2 (.slice none 0 0)));
       (have H2:=Lib.hid (((hin.setCell (p:=⟨(X+1),0,none⟩) (by first |(simp;done)|(have:=HX.out;simp;omega)) (.int .i64 0)).setCell (p:=⟨(X+1),1,none⟩) (by first |(simp;done)|(have:=HX.out;simp;omega)) (.int .i64 0)).setCell (p:=⟨(X+1),2,none⟩) (by first |(simp;done)|(have:=HX.out;simp;omega)) (.slice none 0 0)));
       clear bq hin bx;
       go_wp2_with fail;
       have g1:=H1.out;
       have g2:=H2.out;
       clear H1 H2 r0 r1 r2 f0 f1 f2 hrl;
       (generalize ((w3.setCell ⟨(X+1),0,none⟩ (.int .i64 0)).setCell ⟨(X+1),1,none⟩ (.int .i64 0)).setCell ⟨(X+1),2,none⟩ (.slice none 0 0)=W5 at *);
       (have e0:W5.cell? ⟨(X+1),0,none⟩=some (.int .i64 0):=g1.cell 0);
       (have e1:W5.cell? ⟨(X+1),1,none⟩=some (.int .i64 0):=g1.cell 1);
       (have e2:W5.cell? ⟨(X+1),2,none⟩=some (.slice none 0 0):=g1.cell 2);
       have hz:=g2.bel;
       (refine bodyPost_ret (v:=.tuple #[zeroSp,.int .i64 E]) ?_ rfl ⟨rfl,by rw[←HX.out];exact hz⟩);
       (simp[results,Tryz.results14,go_sem,e0,e1,e2]))
set_option maxRecDepth 100000 in
set_option maxHeartbeats 8000000 in
theorem sbegin_errD (w:World) (n m:Int) (sa:Option Addr) (sl sc:Nat) (a0:Option Addr) (c0:Nat) (xs:List Int) (hx:IntsAt w a0 xs) (ba:Option Addr) (bl bc:Nat) (E:Int) (h0:E≠0) (hD:DenE w (.agg #[.int .i64 n,.int .i64 m,.slice sa sl sc]) [xs] E) :
  Calls Tryz.prog 51 #[.agg #[.int .i64 n,.int .i64 m,.slice sa sl sc],.slice a0 xs.length c0,.slice ba bl bc] w fun e w'=>e=.returned (.tuple #[.pointer none,.int .i64 E])∧Below w.heap.size w w':=by
 obtain⟨L,hL⟩:∃ L,L=xs.length:=⟨_,rfl⟩
 rw[←hL]
 have HL:=Lib.hid hL
 have HX0:=Lib.hid hx
 clear hL hx
 have hne:(E != 0)=true:=by simpa using h0
 have hq0:(E == 0)=false:=by simpa using h0
 have hin:=In.self w
 go_enter Tryz.func51,Tryz.ntmps51
 go_upto_region 1 with fail
 ((obtain⟨X,hXX⟩:∃ z,z=w.heap.size:=⟨_,rfl⟩);(have bV0:=(Bx.new_at w #[.int .i64 n,.int .i64 m,.slice sa sl sc] 27 (n:=X) (by simp[hXX])));(have hV:=((In.self w).alloc (.cells #[.int .i64 n,.int .i64 m,.slice sa sl sc] 27)));(rw[←hXX] at hV ⊢);(have HX:=Lib.hid hXX);clear hXX;(generalize w.alloc (.cells #[.int .i64 n,.int .i64 m,.slice sa sl sc] 27)=V at *))
 have hV0:=hV
 rw[HX.out] at hV0
 have hG:=HX0.out.call hV0.bel
 have hDV:=hD.call hV0.bel
 clear hV0 HX0 hin hD
 (have x0:=bV0.c0;have x1:=bV0.c1;have x2:=bV0.c2;have xl:=bV0.lt)
 go_wp2_with fail
 have hI2:=(In.self V).alloc (.cells #[.slice a0 L c0] 22)
 have bG:=Bx.new_at V #[.slice a0 L c0] 22 rfl
 have cd:=hDV _ (.slice (some ⟨V.heap.size,0,none⟩) 1 1) hI2.bel (by have:=gs_one (l:=xs) (by rw[←HL.out];exact bG) (hG.call hI2.bel);exact this)
 (with_reducible refine cd.mono ?_)
 rintro e w2 ⟨⟨r,c,a,l,k,rfl⟩,hb⟩
 replace hI2:=hI2.call hb
 replace hV:=hV.call hI2.bel
 replace bV0:=bV0.call hI2.bel
 clear hb cd hDV hG x0 x1 x2 xl
 clear hI2 bG
 go_upto_region 2 with fail
 ((obtain⟨D,hD⟩:∃ z,z=w2.heap.size:=⟨_,rfl⟩);(have bD:=Bx.new_at w2 #[.int .i64 r,.int .i64 c,.slice a l k] 37 hD);(replace hV:=hV.alloc (.cells #[.int .i64 r,.int .i64 c,.slice a l k] 37));(replace bV0:=bV0.alloc (.cells #[.int .i64 r,.int .i64 c,.slice a l k] 37));(rw[←hD]);clear hD;(generalize w2.alloc (.cells #[.int .i64 r,.int .i64 c,.slice a l k] 37)=w3 at *))
 have hbel:=hV.bel
 rw[HX.out] at hbel
 clear hV bV0
 go_wp2_with fail
 exact bodyPost_ret (v:=.tuple #[.pointer none,.int .i64 E]) (by simp[results,Tryz.results51,go_sem]) rfl ⟨rfl,hbel⟩
set_option maxRecDepth 100000 in
set_option maxHeartbeats 8000000 in
theorem sbegin_errL (w:World) (n m:Int) (sa:Option Addr) (sl sc:Nat) (a0:Option Addr) (c0:Nat) (xs:List Int) (hx:IntsAt w a0 xs) (ba:Option Addr) (bl bc:Nat) (E:Int) (h0:E≠0) (hD:DenE w (.agg #[.int .i64 n,.int .i64 m,.slice sa sl sc]) [xs] 0) (hl:lenE bl n=E) :
  Calls Tryz.prog 51 #[.agg #[.int .i64 n,.int .i64 m,.slice sa sl sc],.slice a0 xs.length c0,.slice ba bl bc] w fun e w'=>e=.returned (.tuple #[.pointer none,.int .i64 E])∧Below w.heap.size w w':=by
 obtain⟨L,hL⟩:∃ L,L=xs.length:=⟨_,rfl⟩
 rw[←hL]
 have HL:=Lib.hid hL
 have HX0:=Lib.hid hx
 clear hL hx
 have hne:(E != 0)=true:=by simpa using h0
 have hq0:(E == 0)=false:=by simpa using h0
 have hin:=In.self w
 go_enter Tryz.func51,Tryz.ntmps51
 go_upto_region 1 with fail
 ((obtain⟨X,hXX⟩:∃ z,z=w.heap.size:=⟨_,rfl⟩);(have bV0:=(Bx.new_at w #[.int .i64 n,.int .i64 m,.slice sa sl sc] 27 (n:=X) (by simp[hXX])));(have hV:=((In.self w).alloc (.cells #[.int .i64 n,.int .i64 m,.slice sa sl sc] 27)));(rw[←hXX] at hV ⊢);(have HX:=Lib.hid hXX);clear hXX;(generalize w.alloc (.cells #[.int .i64 n,.int .i64 m,.slice sa sl sc] 27)=V at *))
 have hV0:=hV
 rw[HX.out] at hV0
 have hG:=HX0.out.call hV0.bel
 have hDV:=hD.call hV0.bel
 clear hV0 HX0 hin hD
 (have x0:=bV0.c0;have x1:=bV0.c1;have x2:=bV0.c2;have xl:=bV0.lt)
 go_wp2_with fail
 have hI2:=(In.self V).alloc (.cells #[.slice a0 L c0] 22)
 have bG:=Bx.new_at V #[.slice a0 L c0] 22 rfl
 have cd:=hDV _ (.slice (some ⟨V.heap.size,0,none⟩) 1 1) hI2.bel (by have:=gs_one (l:=xs) (by rw[←HL.out];exact bG) (hG.call hI2.bel);exact this)
 (with_reducible refine cd.mono ?_)
 rintro e w2 ⟨⟨r,c,a,l,k,rfl⟩,hb⟩
 replace hI2:=hI2.call hb
 replace hV:=hV.call hI2.bel
 replace bV0:=bV0.call hI2.bel
 clear hb cd hDV hG x0 x1 x2 xl
 clear hI2 bG
 go_upto_region 2 with fail
 ((obtain⟨D,hD⟩:∃ z,z=w2.heap.size:=⟨_,rfl⟩);(have bD:=Bx.new_at w2 #[.int .i64 r,.int .i64 c,.slice a l k] 37 hD);(replace hV:=hV.alloc (.cells #[.int .i64 r,.int .i64 c,.slice a l k] 37));(replace bV0:=bV0.alloc (.cells #[.int .i64 r,.int .i64 c,.slice a l k] 37));(rw[←hD]);clear hD;(generalize w2.alloc (.cells #[.int .i64 r,.int .i64 c,.slice a l k] 37)=w3 at *))
 have cl:=fun W=>slength_any W ba bl bc n
 rw[hl] at cl
 (have x0:=bV0.c0;have x1:=bV0.c1;have x2:=bV0.c2;have xl:=bV0.lt)
 (go_wp2_with fail;(((with_reducible refine(cl _).mono ?_)));rintro e wc2 ⟨rfl,hb⟩;clear x0 x1 x2 xl cl;replace hV:=hV.call hb;replace bV0:=bV0.call hb;replace bD:=bD.call hb;clear hb)
 have hbel:=hV.bel
 rw[HX.out] at hbel
 clear hV bV0
 go_wp2_with fail
 exact bodyPost_ret (v:=.tuple #[.pointer none,.int .i64 E]) (by simp[results,Tryz.results51,go_sem]) rfl ⟨rfl,hbel⟩
set_option maxRecDepth 100000 in
set_option maxHeartbeats 8000000 in
theorem sreduced_err (w:World) (n m:Int) (sa:Option Addr) (sl sc:Nat) (a0:Option Addr) (l0 c0:Nat) (ba:Option Addr) (bl bc:Nat) (E:Int) (h0:E≠0) (hB:∀ W,Below w.heap.size w W→Calls Tryz.prog 51 #[.agg #[.int .i64 n,.int .i64 m,.slice sa sl sc],.slice a0 l0 c0,.slice ba bl bc] W fun e w'=>e=.returned (.tuple #[.pointer none,.int .i64 E])∧Below W.heap.size W w') :
  Calls Tryz.prog 15 #[.agg #[.int .i64 n,.int .i64 m,.slice sa sl sc],.slice a0 l0 c0,.slice ba bl bc] w fun e w'=>e=.returned (.tuple #[zeroSp,.slice none 0 0,.int .i64 E])∧Below w.heap.size w w':=by
 have hne:(E != 0)=true:=by simpa using h0
 have hin:=In.self w
 go_enter Tryz.func15,Tryz.ntmps15
 go_upto_region 1 with fail
 ((obtain⟨X,hXX⟩:∃ z,z=w.heap.size:=⟨_,rfl⟩);(have bV0:=((Bx.new_at w #[.int .i64 n,.int .i64 m,.slice sa sl sc] 27 (n:=X) (by simp[hXX])).alloc (.cells #[.int .i64 0,.int .i64 0,.slice none 0 0] 37)));(have bV1:=(Bx.new_at (w.alloc (.cells #[.int .i64 n,.int .i64 m,.slice sa sl sc] 27)) #[.int .i64 0,.int .i64 0,.slice none 0 0] 37 (n:=X+1) (by simp[hXX])));(have hV:=(((In.self w).alloc (.cells #[.int .i64 n,.int .i64 m,.slice sa sl sc] 27)).alloc (.cells #[.int .i64 0,.int .i64 0,.slice none 0 0] 37)));(rw[←hXX] at hV ⊢);(have HX:=Lib.hid hXX);clear hXX;(generalize (w.alloc (.cells #[.int .i64 n,.int .i64 m,.slice sa sl sc] 27)).alloc (.cells #[.int .i64 0,.int .i64 0,.slice none 0 0] 37)=V at *))
 have hV0:=hV
 rw[HX.out] at hV0
 have cb:=hB V hV0.bel
 clear hV0 hin hB
 (have x0:=bV0.c0;have x1:=bV0.c1;have x2:=bV0.c2;have xl:=bV0.lt)
 (go_wp2_with fail;(((with_reducible refine(cb).mono ?_)));rintro e w2 ⟨rfl,hb⟩;clear x0 x1 x2 xl cb;replace hV:=hV.call hb;replace bV0:=bV0.call hb;replace bV1:=bV1.call hb;clear hb)
 have hin:=hV
 have bq:=bV1
 have bx:=bV0
 clear hV bV0 bV1
 (have r0:=bq.c0;
       have r1:=bq.c1;
       have r2:=bq.c2;
       (have f0:=bq.frozen 0);
       (have f1:=bq.frozen 1);
       (have f2:=bq.frozen 2);
       have hrl:=bq.lt;
       (have H1:=Lib.hid (((bq.set 0 (.int .i64 0)).set 1 (.int .i64 0)).set 2 (.slice none 0 0)));
       (have H2:=Lib.hid (((hin.setCell (p:=⟨(X+1),0,none⟩) (by first |(simp;done)|(have:=HX.out;simp;omega)) (.int .i64 0)).setCell (p:=⟨(X+1),1,none⟩) (by first |(simp;done)|(have:=HX.out;simp;omega)) (.int .i64 0)).setCell (p:=⟨(X+1),2,none⟩) (by first |(simp;done)|(have:=HX.out;simp;omega)) (.slice none 0 0)));
       clear bq hin bx;
       go_wp2_with fail;
       have g1:=H1.out;
       have g2:=H2.out;
       clear H1 H2 r0 r1 r2 f0 f1 f2 hrl;
       (generalize ((w2.setCell ⟨(X+1),0,none⟩ (.int .i64 0)).setCell ⟨(X+1),1,none⟩ (.int .i64 0)).setCell ⟨(X+1),2,none⟩ (.slice none 0 0)=W5 at *);
       (have e0:W5.cell? ⟨(X+1),0,none⟩=some (.int .i64 0):=g1.cell 0);
       (have e1:W5.cell? ⟨(X+1),1,none⟩=some (.int .i64 0):=g1.cell 1);
       (have e2:W5.cell? ⟨(X+1),2,none⟩=some (.slice none 0 0):=g1.cell 2);
       have hz:=g2.bel;
       (refine bodyPost_ret (v:=.tuple #[zeroSp,.slice none 0 0,.int .i64 E]) ?_ rfl ⟨rfl,by rw[←HX.out];exact hz⟩);
       (simp[results,Tryz.results15,go_sem,e0,e1,e2]))
set_option maxRecDepth 100000 in
set_option maxHeartbeats 8000000 in
theorem sextend_errD (w:World) (n m:Int) (sa:Option Addr) (sl sc:Nat) (a0:Option Addr) (c0:Nat) (xs:List Int) (hx:IntsAt w a0 xs) (ba:Option Addr) (bl bc:Nat) (ya:Option Addr) (yl yc:Nat) (E:Int) (h0:E≠0) (hD:DenE w (.agg #[.int .i64 n,.int .i64 m,.slice sa sl sc]) [xs] E) :
  Calls Tryz.prog 16 #[.agg #[.int .i64 n,.int .i64 m,.slice sa sl sc],.slice a0 xs.length c0,.slice ba bl bc,.slice ya yl yc] w fun e w'=>e=.returned (.tuple #[.slice none 0 0,.int .i64 E])∧Below w.heap.size w w':=by
 obtain⟨L,hL⟩:∃ L,L=xs.length:=⟨_,rfl⟩
 rw[←hL]
 have HL:=Lib.hid hL
 have HX0:=Lib.hid hx
 clear hL hx
 have hne:(E != 0)=true:=by simpa using h0
 have hq0:(E == 0)=false:=by simpa using h0
 have hin:=In.self w
 go_enter Tryz.func16,Tryz.ntmps16
 go_upto_region 1 with fail
 ((obtain⟨X,hXX⟩:∃ z,z=w.heap.size:=⟨_,rfl⟩);(have bV0:=(Bx.new_at w #[.int .i64 n,.int .i64 m,.slice sa sl sc] 27 (n:=X) (by simp[hXX])));(have hV:=((In.self w).alloc (.cells #[.int .i64 n,.int .i64 m,.slice sa sl sc] 27)));(rw[←hXX] at hV ⊢);(have HX:=Lib.hid hXX);clear hXX;(generalize w.alloc (.cells #[.int .i64 n,.int .i64 m,.slice sa sl sc] 27)=V at *))
 have hV0:=hV
 rw[HX.out] at hV0
 have hG:=HX0.out.call hV0.bel
 have hDV:=hD.call hV0.bel
 clear hV0 HX0 hin hD
 (have x0:=bV0.c0;have x1:=bV0.c1;have x2:=bV0.c2;have xl:=bV0.lt)
 go_wp2_with fail
 have hI2:=(In.self V).alloc (.cells #[.slice a0 L c0] 22)
 have bG:=Bx.new_at V #[.slice a0 L c0] 22 rfl
 have cd:=hDV _ (.slice (some ⟨V.heap.size,0,none⟩) 1 1) hI2.bel (by have:=gs_one (l:=xs) (by rw[←HL.out];exact bG) (hG.call hI2.bel);exact this)
 (with_reducible refine cd.mono ?_)
 rintro e w2 ⟨⟨r,c,a,l,k,rfl⟩,hb⟩
 replace hI2:=hI2.call hb
 replace hV:=hV.call hI2.bel
 replace bV0:=bV0.call hI2.bel
 clear hb cd hDV hG x0 x1 x2 xl
 clear hI2 bG
 go_upto_region 2 with fail
 ((obtain⟨D,hD⟩:∃ z,z=w2.heap.size:=⟨_,rfl⟩);(have bD:=Bx.new_at w2 #[.int .i64 r,.int .i64 c,.slice a l k] 37 hD);(replace hV:=hV.alloc (.cells #[.int .i64 r,.int .i64 c,.slice a l k] 37));(replace bV0:=bV0.alloc (.cells #[.int .i64 r,.int .i64 c,.slice a l k] 37));(rw[←hD]);clear hD;(generalize w2.alloc (.cells #[.int .i64 r,.int .i64 c,.slice a l k] 37)=w3 at *))
 have hbel:=hV.bel
 rw[HX.out] at hbel
 clear hV bV0
 go_wp2_with fail
 exact bodyPost_ret (v:=.tuple #[.slice none 0 0,.int .i64 E]) (by simp[results,Tryz.results16,go_sem]) rfl ⟨rfl,hbel⟩
set_option maxRecDepth 100000 in
set_option maxHeartbeats 8000000 in
theorem sextend_errL (w:World) (n m:Int) (sa:Option Addr) (sl sc:Nat) (a0:Option Addr) (c0:Nat) (xs:List Int) (hx:IntsAt w a0 xs) (ba:Option Addr) (bl bc:Nat) (ya:Option Addr) (yl yc:Nat) (E:Int) (h0:E≠0) (hD:DenE w (.agg #[.int .i64 n,.int .i64 m,.slice sa sl sc]) [xs] 0) (hl:lenE bl n=E) :
  Calls Tryz.prog 16 #[.agg #[.int .i64 n,.int .i64 m,.slice sa sl sc],.slice a0 xs.length c0,.slice ba bl bc,.slice ya yl yc] w fun e w'=>e=.returned (.tuple #[.slice none 0 0,.int .i64 E])∧Below w.heap.size w w':=by
 obtain⟨L,hL⟩:∃ L,L=xs.length:=⟨_,rfl⟩
 rw[←hL]
 have HL:=Lib.hid hL
 have HX0:=Lib.hid hx
 clear hL hx
 have hne:(E != 0)=true:=by simpa using h0
 have hq0:(E == 0)=false:=by simpa using h0
 have hin:=In.self w
 go_enter Tryz.func16,Tryz.ntmps16
 go_upto_region 1 with fail
 ((obtain⟨X,hXX⟩:∃ z,z=w.heap.size:=⟨_,rfl⟩);(have bV0:=(Bx.new_at w #[.int .i64 n,.int .i64 m,.slice sa sl sc] 27 (n:=X) (by simp[hXX])));(have hV:=((In.self w).alloc (.cells #[.int .i64 n,.int .i64 m,.slice sa sl sc] 27)));(rw[←hXX] at hV ⊢);(have HX:=Lib.hid hXX);clear hXX;(generalize w.alloc (.cells #[.int .i64 n,.int .i64 m,.slice sa sl sc] 27)=V at *))
 have hV0:=hV
 rw[HX.out] at hV0
 have hG:=HX0.out.call hV0.bel
 have hDV:=hD.call hV0.bel
 clear hV0 HX0 hin hD
 (have x0:=bV0.c0;have x1:=bV0.c1;have x2:=bV0.c2;have xl:=bV0.lt)
 go_wp2_with fail
 have hI2:=(In.self V).alloc (.cells #[.slice a0 L c0] 22)
 have bG:=Bx.new_at V #[.slice a0 L c0] 22 rfl
 have cd:=hDV _ (.slice (some ⟨V.heap.size,0,none⟩) 1 1) hI2.bel (by have:=gs_one (l:=xs) (by rw[←HL.out];exact bG) (hG.call hI2.bel);exact this)
 (with_reducible refine cd.mono ?_)
 rintro e w2 ⟨⟨r,c,a,l,k,rfl⟩,hb⟩
 replace hI2:=hI2.call hb
 replace hV:=hV.call hI2.bel
 replace bV0:=bV0.call hI2.bel
 clear hb cd hDV hG x0 x1 x2 xl
 clear hI2 bG
 go_upto_region 2 with fail
 ((obtain⟨D,hD⟩:∃ z,z=w2.heap.size:=⟨_,rfl⟩);(have bD:=Bx.new_at w2 #[.int .i64 r,.int .i64 c,.slice a l k] 37 hD);(replace hV:=hV.alloc (.cells #[.int .i64 r,.int .i64 c,.slice a l k] 37));(replace bV0:=bV0.alloc (.cells #[.int .i64 r,.int .i64 c,.slice a l k] 37));(rw[←hD]);clear hD;(generalize w2.alloc (.cells #[.int .i64 r,.int .i64 c,.slice a l k] 37)=w3 at *))
 have cl:=fun W=>slength_any W ba bl bc n
 rw[hl] at cl
 (have x0:=bV0.c0;have x1:=bV0.c1;have x2:=bV0.c2;have xl:=bV0.lt)
 (go_wp2_with fail;(((with_reducible refine(cl _).mono ?_)));rintro e wc2 ⟨rfl,hb⟩;clear x0 x1 x2 xl cl;replace hV:=hV.call hb;replace bV0:=bV0.call hb;replace bD:=bD.call hb;clear hb)
 have hbel:=hV.bel
 rw[HX.out] at hbel
 clear hV bV0
 go_wp2_with fail
 exact bodyPost_ret (v:=.tuple #[.slice none 0 0,.int .i64 E]) (by simp[results,Tryz.results16,go_sem]) rfl ⟨rfl,hbel⟩
set_option maxRecDepth 100000 in
set_option maxHeartbeats 8000000 in
theorem sextend_errM (w:World) (n m:Int) (sa:Option Addr) (sl sc:Nat) (a0:Option Addr) (c0:Nat) (xs:List Int) (hx:IntsAt w a0 xs) (ba:Option Addr) (bl bc:Nat) (ya:Option Addr) (yl yc:Nat) (E:Int) (h0:E≠0) (hD:DenE w (.agg #[.int .i64 n,.int .i64 m,.slice sa sl sc]) [xs] 0) (hlb:lenE bl n=0) (O:Int) (hO:IntKind.i64.wrap (n - xs.length)=O) (hl:lenE yl O=E) :
  Calls Tryz.prog 16 #[.agg #[.int .i64 n,.int .i64 m,.slice sa sl sc],.slice a0 xs.length c0,.slice ba bl bc,.slice ya yl yc] w fun e w'=>e=.returned (.tuple #[.slice none 0 0,.int .i64 E])∧Below w.heap.size w w':=by
 obtain⟨L,hL⟩:∃ L,L=xs.length:=⟨_,rfl⟩
 rw[←hL]
 have HL:=Lib.hid hL
 have HX0:=Lib.hid hx
 clear hL hx
 have hne:(E != 0)=true:=by simpa using h0
 have hq0:(E == 0)=false:=by simpa using h0
 have hin:=In.self w
 go_enter Tryz.func16,Tryz.ntmps16
 go_upto_region 1 with fail
 ((obtain⟨X,hXX⟩:∃ z,z=w.heap.size:=⟨_,rfl⟩);(have bV0:=(Bx.new_at w #[.int .i64 n,.int .i64 m,.slice sa sl sc] 27 (n:=X) (by simp[hXX])));(have hV:=((In.self w).alloc (.cells #[.int .i64 n,.int .i64 m,.slice sa sl sc] 27)));(rw[←hXX] at hV ⊢);(have HX:=Lib.hid hXX);clear hXX;(generalize w.alloc (.cells #[.int .i64 n,.int .i64 m,.slice sa sl sc] 27)=V at *))
 have hV0:=hV
 rw[HX.out] at hV0
 have hG:=HX0.out.call hV0.bel
 have hDV:=hD.call hV0.bel
 clear hV0 HX0 hin hD
 (have x0:=bV0.c0;have x1:=bV0.c1;have x2:=bV0.c2;have xl:=bV0.lt)
 go_wp2_with fail
 have hI2:=(In.self V).alloc (.cells #[.slice a0 L c0] 22)
 have bG:=Bx.new_at V #[.slice a0 L c0] 22 rfl
 have cd:=hDV _ (.slice (some ⟨V.heap.size,0,none⟩) 1 1) hI2.bel (by have:=gs_one (l:=xs) (by rw[←HL.out];exact bG) (hG.call hI2.bel);exact this)
 (with_reducible refine cd.mono ?_)
 rintro e w2 ⟨⟨r,c,a,l,k,rfl⟩,hb⟩
 replace hI2:=hI2.call hb
 replace hV:=hV.call hI2.bel
 replace bV0:=bV0.call hI2.bel
 clear hb cd hDV hG x0 x1 x2 xl
 clear hI2 bG
 go_upto_region 2 with fail
 ((obtain⟨D,hD⟩:∃ z,z=w2.heap.size:=⟨_,rfl⟩);(have bD:=Bx.new_at w2 #[.int .i64 r,.int .i64 c,.slice a l k] 37 hD);(replace hV:=hV.alloc (.cells #[.int .i64 r,.int .i64 c,.slice a l k] 37));(replace bV0:=bV0.alloc (.cells #[.int .i64 r,.int .i64 c,.slice a l k] 37));(rw[←hD]);clear hD;(generalize w2.alloc (.cells #[.int .i64 r,.int .i64 c,.slice a l k] 37)=w3 at *))
 rw[←HL.out] at hO
 have cl0:=fun W=>slength_any W ba bl bc n
 rw[hlb] at cl0
 (have x0:=bV0.c0;have x1:=bV0.c1;have x2:=bV0.c2;have xl:=bV0.lt)
 (go_wp2_with fail;(((with_reducible refine(cl0 _).mono ?_)));rintro e wc2 ⟨rfl,hb⟩;clear x0 x1 x2 xl cl0;replace hV:=hV.call hb;replace bV0:=bV0.call hb;replace bD:=bD.call hb;clear hb)
 have cl:=fun W=>slength_any W ya yl yc O
 rw[hl] at cl
 (have x0:=bV0.c0;have x1:=bV0.c1;have x2:=bV0.c2;have xl:=bV0.lt)
 (go_wp2_with fail;(((with_reducible refine(cl _).mono ?_)));rintro e wc3 ⟨rfl,hb⟩;clear x0 x1 x2 xl cl;replace hV:=hV.call hb;replace bV0:=bV0.call hb;replace bD:=bD.call hb;clear hb)
 have hbel:=hV.bel
 rw[HX.out] at hbel
 clear hV bV0
 go_wp2_with fail
 exact bodyPost_ret (v:=.tuple #[.slice none 0 0,.int .i64 E]) (by simp[results,Tryz.results16,go_sem]) rfl ⟨rfl,hbel⟩
set_option maxRecDepth 100000 in
set_option maxHeartbeats 8000000 in
theorem sNested_errD (w:World) (n m:Int) (sa:Option Addr) (sl sc:Nat) (gv:Value) (xs:List (List Int)) (hx:GsAt w gv xs) (ba:Option Addr) (bl bc:Nat) (E:Int) (h0:E≠0) (hD:DenE w (.agg #[.int .i64 n,.int .i64 m,.slice sa sl sc]) xs E) :
  Calls Tryz.prog 18 #[.agg #[.int .i64 n,.int .i64 m,.slice sa sl sc],gv,.slice ba bl bc] w fun e w'=>e=.returned (.tuple #[.slice none 0 0,.int .i64 E])∧Below w.heap.size w w':=by
 have HX0:=Lib.hid hx
 obtain⟨a0,c0,rfl⟩:=hx.shape
 obtain⟨L,hL⟩:∃ L,L=xs.length:=⟨_,rfl⟩
 rw[←hL] at HX0 ⊢
 have HL:=Lib.hid hL
 clear hL hx
 have hne:(E != 0)=true:=by simpa using h0
 have hq0:(E == 0)=false:=by simpa using h0
 have hin:=In.self w
 go_enter Tryz.func18,Tryz.ntmps18
 go_upto_region 1 with fail
 ((obtain⟨X,hXX⟩:∃ z,z=w.heap.size:=⟨_,rfl⟩);(have bV0:=(Bx.new_at w #[.int .i64 n,.int .i64 m,.slice sa sl sc] 27 (n:=X) (by simp[hXX])));(have hV:=((In.self w).alloc (.cells #[.int .i64 n,.int .i64 m,.slice sa sl sc] 27)));(rw[←hXX] at hV ⊢);(have HX:=Lib.hid hXX);clear hXX;(generalize w.alloc (.cells #[.int .i64 n,.int .i64 m,.slice sa sl sc] 27)=V at *))
 have hV0:=hV
 rw[HX.out] at hV0
 have hG:=HX0.out.call hV0.bel
 have hDV:=hD.call hV0.bel
 clear hV0 HX0 hin hD
 (have x0:=bV0.c0;have x1:=bV0.c1;have x2:=bV0.c2;have xl:=bV0.lt)
 go_wp2_with fail
 have hI2:=In.self V
 have cd:=hDV _ _ hI2.bel hG
 (with_reducible refine cd.mono ?_)
 rintro e w2 ⟨⟨r,c,a,l,k,rfl⟩,hb⟩
 replace hI2:=hI2.call hb
 replace hV:=hV.call hI2.bel
 replace bV0:=bV0.call hI2.bel
 clear hb cd hDV hG x0 x1 x2 xl
 clear hI2
 go_upto_region 2 with fail
 ((obtain⟨D,hD⟩:∃ z,z=w2.heap.size:=⟨_,rfl⟩);(have bD:=Bx.new_at w2 #[.int .i64 r,.int .i64 c,.slice a l k] 37 hD);(replace hV:=hV.alloc (.cells #[.int .i64 r,.int .i64 c,.slice a l k] 37));(replace bV0:=bV0.alloc (.cells #[.int .i64 r,.int .i64 c,.slice a l k] 37));(rw[←hD]);clear hD;(generalize w2.alloc (.cells #[.int .i64 r,.int .i64 c,.slice a l k] 37)=w3 at *))
 have hbel:=hV.bel
 rw[HX.out] at hbel
 clear hV bV0
 go_wp2_with fail
 exact bodyPost_ret (v:=.tuple #[.slice none 0 0,.int .i64 E]) (by simp[results,Tryz.results18,go_sem]) rfl ⟨rfl,hbel⟩
set_option maxRecDepth 100000 in
set_option maxHeartbeats 8000000 in
theorem sNested_errL (w:World) (n m:Int) (sa:Option Addr) (sl sc:Nat) (gv:Value) (xs:List (List Int)) (hx:GsAt w gv xs) (ba:Option Addr) (bl bc:Nat) (E:Int) (h0:E≠0) (hD:DenE w (.agg #[.int .i64 n,.int .i64 m,.slice sa sl sc]) xs 0) (hl:lenE bl n=E) :
  Calls Tryz.prog 18 #[.agg #[.int .i64 n,.int .i64 m,.slice sa sl sc],gv,.slice ba bl bc] w fun e w'=>e=.returned (.tuple #[.slice none 0 0,.int .i64 E])∧Below w.heap.size w w':=by
 have HX0:=Lib.hid hx
 obtain⟨a0,c0,rfl⟩:=hx.shape
 obtain⟨L,hL⟩:∃ L,L=xs.length:=⟨_,rfl⟩
 rw[←hL] at HX0 ⊢
 have HL:=Lib.hid hL
 clear hL hx
 have hne:(E != 0)=true:=by simpa using h0
 have hq0:(E == 0)=false:=by simpa using h0
 have hin:=In.self w
 go_enter Tryz.func18,Tryz.ntmps18
 go_upto_region 1 with fail
 ((obtain⟨X,hXX⟩:∃ z,z=w.heap.size:=⟨_,rfl⟩);(have bV0:=(Bx.new_at w #[.int .i64 n,.int .i64 m,.slice sa sl sc] 27 (n:=X) (by simp[hXX])));(have hV:=((In.self w).alloc (.cells #[.int .i64 n,.int .i64 m,.slice sa sl sc] 27)));(rw[←hXX] at hV ⊢);(have HX:=Lib.hid hXX);clear hXX;(generalize w.alloc (.cells #[.int .i64 n,.int .i64 m,.slice sa sl sc] 27)=V at *))
 have hV0:=hV
 rw[HX.out] at hV0
 have hG:=HX0.out.call hV0.bel
 have hDV:=hD.call hV0.bel
 clear hV0 HX0 hin hD
 (have x0:=bV0.c0;have x1:=bV0.c1;have x2:=bV0.c2;have xl:=bV0.lt)
 go_wp2_with fail
 have hI2:=In.self V
 have cd:=hDV _ _ hI2.bel hG
 (with_reducible refine cd.mono ?_)
 rintro e w2 ⟨⟨r,c,a,l,k,rfl⟩,hb⟩
 replace hI2:=hI2.call hb
 replace hV:=hV.call hI2.bel
 replace bV0:=bV0.call hI2.bel
 clear hb cd hDV hG x0 x1 x2 xl
 clear hI2
 go_upto_region 2 with fail
 ((obtain⟨D,hD⟩:∃ z,z=w2.heap.size:=⟨_,rfl⟩);(have bD:=Bx.new_at w2 #[.int .i64 r,.int .i64 c,.slice a l k] 37 hD);(replace hV:=hV.alloc (.cells #[.int .i64 r,.int .i64 c,.slice a l k] 37));(replace bV0:=bV0.alloc (.cells #[.int .i64 r,.int .i64 c,.slice a l k] 37));(rw[←hD]);clear hD;(generalize w2.alloc (.cells #[.int .i64 r,.int .i64 c,.slice a l k] 37)=w3 at *))
 have cl:=fun W=>slength_any W ba bl bc n
 rw[hl] at cl
 (have x0:=bV0.c0;have x1:=bV0.c1;have x2:=bV0.c2;have xl:=bV0.lt)
 (go_wp2_with fail;(((with_reducible refine(cl _).mono ?_)));rintro e wc2 ⟨rfl,hb⟩;clear x0 x1 x2 xl cl;replace hV:=hV.call hb;replace bV0:=bV0.call hb;replace bD:=bD.call hb;clear hb)
 have hbel:=hV.bel
 rw[HX.out] at hbel
 clear hV bV0
 go_wp2_with fail
 exact bodyPost_ret (v:=.tuple #[.slice none 0 0,.int .i64 E]) (by simp[results,Tryz.results18,go_sem]) rfl ⟨rfl,hbel⟩
set_option maxRecDepth 100000 in
set_option maxHeartbeats 8000000 in
theorem sSolve_err (w:World) (n m:Int) (sa:Option Addr) (sl sc:Nat) (a0:Option Addr) (c0:Nat) (xs:List Int) (hx:IntsAt w a0 xs) (ba:Option Addr) (bl bc:Nat) (E:Int) (hB:∀ W gv,Below w.heap.size w W→GsAt W gv [xs]→Calls Tryz.prog 18 #[.agg #[.int .i64 n,.int .i64 m,.slice sa sl sc],gv,.slice ba bl bc] W fun e w'=>e=.returned (.tuple #[.slice none 0 0,.int .i64 E])∧Below W.heap.size W w') :
  Calls Tryz.prog 17 #[.agg #[.int .i64 n,.int .i64 m,.slice sa sl sc],.slice a0 xs.length c0,.slice ba bl bc] w fun e w'=>e=.returned (.tuple #[.slice none 0 0,.int .i64 E])∧Below w.heap.size w w':=by
 obtain⟨L,hL⟩:∃ L,L=xs.length:=⟨_,rfl⟩
 rw[←hL]
 have HL:=Lib.hid hL
 have HX0:=Lib.hid hx
 clear hL hx
 have hin:=In.self w
 go_enter Tryz.func17,Tryz.ntmps17
 go_upto_region 1 with fail
 ((obtain⟨X,hXX⟩:∃ z,z=w.heap.size:=⟨_,rfl⟩);(have bV0:=(Bx.new_at w #[.int .i64 n,.int .i64 m,.slice sa sl sc] 27 (n:=X) (by simp[hXX])));(have hV:=((In.self w).alloc (.cells #[.int .i64 n,.int .i64 m,.slice sa sl sc] 27)));(rw[←hXX] at hV ⊢);(have HX:=Lib.hid hXX);clear hXX;(generalize w.alloc (.cells #[.int .i64 n,.int .i64 m,.slice sa sl sc] 27)=V at *))
 have hV0:=hV
 rw[HX.out] at hV0
 have hG:=HX0.out.call hV0.bel
 have hDV:=fun W gv (h:Below V.heap.size V W)=>hB W gv (hV0.bel.trans (h.mono hV0.bel.size))
 clear HX0 hin hB
 (have x0:=bV0.c0;have x1:=bV0.c1;have x2:=bV0.c2;have xl:=bV0.lt)
 go_wp2_with fail
 have hI2:=(In.self V).alloc (.cells #[.slice a0 L c0] 22)
 have bG:=Bx.new_at V #[.slice a0 L c0] 22 rfl
 have cd:=hDV _ (.slice (some ⟨V.heap.size,0,none⟩) 1 1) hI2.bel (by have:=gs_one (l:=xs) (by rw[←HL.out];exact bG) (hG.call hI2.bel);exact this)
 (with_reducible refine cd.mono ?_)
 rintro e w2 ⟨rfl,hb⟩
 have hbel:=(hV0.call (hI2.call hb).bel).bel
 clear hb cd hDV hG hI2 bG x0 x1 x2 xl hV hV0 bV0
 go_wp2_with fail
 exact bodyPost_ret (v:=.tuple #[.slice none 0 0,.int .i64 E]) (by simp[results,Tryz.results17,go_sem]) rfl ⟨rfl,hbel⟩
set_option maxRecDepth 100000 in
set_option maxHeartbeats 8000000 in
theorem denE_bad {w:World} {s:Value} {E:Int} (hbad:BadAt w s E) (xs:List (List Int)):DenE w s xs E:=fun W gv hW hg=>by
 have hd:=fun W2 (h:Below W.heap.size W W2)=>sdense_bad ((hbad.call hW).call h)
 obtain⟨⟨n,m,sa,sl,sc,rfl⟩,_,h0⟩:=hbad
 obtain⟨ga,gc,rfl⟩:=hg.shape
 clear hg
 have hne:(E != 0)=true:=by simpa using h0
 have hin:=In.self W
 go_enter Tryz.func48,Tryz.ntmps48
 go_upto_region 1 with fail
 ((obtain⟨X,hXX⟩:∃ z,z=W.heap.size:=⟨_,rfl⟩);(have bV0:=((Bx.new_at W #[.int .i64 n,.int .i64 m,.slice sa sl sc] 27 (n:=X) (by simp[hXX])).alloc (.cells #[.int .i64 0,.int .i64 0,.slice none 0 0] 37)));(have bV1:=(Bx.new_at (W.alloc (.cells #[.int .i64 n,.int .i64 m,.slice sa sl sc] 27)) #[.int .i64 0,.int .i64 0,.slice none 0 0] 37 (n:=X+1) (by simp[hXX])));(have hV:=(((In.self W).alloc (.cells #[.int .i64 n,.int .i64 m,.slice sa sl sc] 27)).alloc (.cells #[.int .i64 0,.int .i64 0,.slice none 0 0] 37)));(rw[←hXX] at hV ⊢);(have HX:=Lib.hid hXX);clear hXX;(generalize (W.alloc (.cells #[.int .i64 n,.int .i64 m,.slice sa sl sc] 27)).alloc (.cells #[.int .i64 0,.int .i64 0,.slice none 0 0] 37)=V at *))
 have hV0:=hV
 rw[HX.out] at hV0
 have cd:=hd V hV0.bel
 clear hV0 hd hin hW
 (have x0:=bV0.c0;have x1:=bV0.c1;have x2:=bV0.c2;have xl:=bV0.lt)
 (go_wp2_with fail;(((with_reducible refine(cd).mono ?_)));rintro e w2 ⟨rfl,hb⟩;clear x0 x1 x2 xl cd;replace hV:=hV.call hb;replace bV0:=bV0.call hb;replace bV1:=bV1.call hb;clear hb)
 go_upto_region 2 with fail
 ((obtain⟨D,hD⟩:∃ z,z=w2.heap.size:=⟨_,rfl⟩);(have bD:=Bx.new_at w2 #[.int .i64 0,.int .i64 0,.slice none 0 0] 37 hD);(replace hV:=hV.alloc (.cells #[.int .i64 0,.int .i64 0,.slice none 0 0] 37));(replace bV0:=bV0.alloc (.cells #[.int .i64 0,.int .i64 0,.slice none 0 0] 37));(replace bV1:=bV1.alloc (.cells #[.int .i64 0,.int .i64 0,.slice none 0 0] 37));(rw[←hD]);clear hD;(generalize w2.alloc (.cells #[.int .i64 0,.int .i64 0,.slice none 0 0] 37)=w3 at *))
 have hin:=hV
 have bq:=bV1
 have bx:=bV0
 clear hV bV0 bV1 bD
 (have r0:=bq.c0;
       have r1:=bq.c1;
       have r2:=bq.c2;
       (have f0:=bq.frozen 0);
       (have f1:=bq.frozen 1);
       (have f2:=bq.frozen 2);
       have hrl:=bq.lt;
       (have H1:=Lib.hid (((bq.set 0 (.int .i64 0)).set 1 (.int .i64 0)).set 2 (.slice none 0 0)));
       (have H2:=Lib.hid (((hin.setCell (p:=⟨(X+1),0,none⟩) (by first |(simp;done)|(have:=HX.out;simp;omega)) (.int .i64 0)).setCell (p:=⟨(X+1),1,none⟩) (by first |(simp;done)|(have:=HX.out;simp;omega)) (.int .i64 0)).setCell (p:=⟨(X+1),2,none⟩) (by first |(simp;done)|(have:=HX.out;simp;omega)) (.slice none 0 0)));
       clear bq hin bx;
       go_wp2_with fail;
       have g1:=H1.out;
       have g2:=H2.out;
       clear H1 H2 r0 r1 r2 f0 f1 f2 hrl;
       (generalize ((w3.setCell ⟨(X+1),0,none⟩ (.int .i64 0)).setCell ⟨(X+1),1,none⟩ (.int .i64 0)).setCell ⟨(X+1),2,none⟩ (.slice none 0 0)=W5 at *);
       (have e0:W5.cell? ⟨(X+1),0,none⟩=some (.int .i64 0):=g1.cell 0);
       (have e1:W5.cell? ⟨(X+1),1,none⟩=some (.int .i64 0):=g1.cell 1);
       (have e2:W5.cell? ⟨(X+1),2,none⟩=some (.slice none 0 0):=g1.cell 2);
       have hz:=g2.bel;
       (refine bodyPost_ret (v:=.tuple #[zeroSp,.int .i64 E]) ?_ rfl ⟨⟨_,_,_,_,_,rfl⟩,by rw[←HX.out];exact hz⟩);
       (simp[results,Tryz.results48,go_sem,e0,e1,e2]))
set_option maxRecDepth 100000 in
set_option maxHeartbeats 8000000 in
theorem denE_sq {w:World} {s:Value} {n m:Nat} {F:Mx} (hS:SpM w s n m F) (hn:n≤2048) (hm:m≤2048) (hnm:n≠m) (xs:List (List Int)):DenE w s xs 1:=fun W gv hW hg=>by
 replace hS:=hS.call hW
 obtain⟨sa,sc,rfl⟩:=hS.shape
 obtain⟨ga,gc,rfl⟩:=hg.shape
 clear hg hW
 have hne:((n:Int) != (m:Int))=true:=by simp;omega
 have hin:=In.self W
 go_enter Tryz.func48,Tryz.ntmps48
 go_upto_region 1 with fail
 ((obtain⟨X,hXX⟩:∃ z,z=W.heap.size:=⟨_,rfl⟩);(have bV0:=((Bx.new_at W #[.int .i64 n,.int .i64 m,.slice sa n sc] 27 (n:=X) (by simp[hXX])).alloc (.cells #[.int .i64 0,.int .i64 0,.slice none 0 0] 37)));(have bV1:=(Bx.new_at (W.alloc (.cells #[.int .i64 n,.int .i64 m,.slice sa n sc] 27)) #[.int .i64 0,.int .i64 0,.slice none 0 0] 37 (n:=X+1) (by simp[hXX])));(have hV:=(((In.self W).alloc (.cells #[.int .i64 n,.int .i64 m,.slice sa n sc] 27)).alloc (.cells #[.int .i64 0,.int .i64 0,.slice none 0 0] 37)));(rw[←hXX] at hV ⊢);(have HX:=Lib.hid hXX);clear hXX;(generalize (W.alloc (.cells #[.int .i64 n,.int .i64 m,.slice sa n sc] 27)).alloc (.cells #[.int .i64 0,.int .i64 0,.slice none 0 0] 37)=V at *))
 have hV0:=hV
 rw[HX.out] at hV0
 have cd:=dense_okc V _ n m F (hS.call hV0.bel) hn hm
 clear hV0 hS hin hnm
 (have x0:=bV0.c0;have x1:=bV0.c1;have x2:=bV0.c2;have xl:=bV0.lt)
 (go_wp2_with fail;(((with_reducible refine(cd).mono ?_)));(rintro e w2 ⟨⟨g,N,hN,rfl,hv⟩,hb⟩);clear x0 x1 x2 xl cd;replace hV:=hV.call hb;replace bV0:=bV0.call hb;replace bV1:=bV1.call hb;clear hb)
 clear hN hv
 go_upto_region 2 with fail
 ((obtain⟨D,hD⟩:∃ z,z=w2.heap.size:=⟨_,rfl⟩);(have bD:=Bx.new_at w2 #[.int .i64 n,.int .i64 m,.slice (some ⟨g,0,none⟩) N N] 37 hD);(replace hV:=hV.alloc (.cells #[.int .i64 n,.int .i64 m,.slice (some ⟨g,0,none⟩) N N] 37));(replace bV0:=bV0.alloc (.cells #[.int .i64 n,.int .i64 m,.slice (some ⟨g,0,none⟩) N N] 37));(replace bV1:=bV1.alloc (.cells #[.int .i64 n,.int .i64 m,.slice (some ⟨g,0,none⟩) N N] 37));(rw[←hD]);clear hD;(generalize w2.alloc (.cells #[.int .i64 n,.int .i64 m,.slice (some ⟨g,0,none⟩) N N] 37)=w3 at *))
 (have x0:=bV0.c0;have x1:=bV0.c1;have x2:=bV0.c2;have xl:=bV0.lt)
 have hin:=hV
 have bq:=bV1
 have bx:=bV0
 clear hV bV0 bV1 bD
 (have r0:=bq.c0;
       have r1:=bq.c1;
       have r2:=bq.c2;
       (have f0:=bq.frozen 0);
       (have f1:=bq.frozen 1);
       (have f2:=bq.frozen 2);
       have hrl:=bq.lt;
       (have H1:=Lib.hid (((bq.set 0 (.int .i64 0)).set 1 (.int .i64 0)).set 2 (.slice none 0 0)));
       (have H2:=Lib.hid (((hin.setCell (p:=⟨(X+1),0,none⟩) (by first |(simp;done)|(have:=HX.out;simp;omega)) (.int .i64 0)).setCell (p:=⟨(X+1),1,none⟩) (by first |(simp;done)|(have:=HX.out;simp;omega)) (.int .i64 0)).setCell (p:=⟨(X+1),2,none⟩) (by first |(simp;done)|(have:=HX.out;simp;omega)) (.slice none 0 0)));
       clear bq hin bx;
       go_wp2_with fail;
       have g1:=H1.out;
       have g2:=H2.out;
       clear H1 H2 r0 r1 r2 f0 f1 f2 hrl;
       (generalize ((w3.setCell ⟨(X+1),0,none⟩ (.int .i64 0)).setCell ⟨(X+1),1,none⟩ (.int .i64 0)).setCell ⟨(X+1),2,none⟩ (.slice none 0 0)=W5 at *);
       (have e0:W5.cell? ⟨(X+1),0,none⟩=some (.int .i64 0):=g1.cell 0);
       (have e1:W5.cell? ⟨(X+1),1,none⟩=some (.int .i64 0):=g1.cell 1);
       (have e2:W5.cell? ⟨(X+1),2,none⟩=some (.slice none 0 0):=g1.cell 2);
       have hz:=g2.bel;
       (refine bodyPost_ret (v:=.tuple #[zeroSp,.int .i64 1]) ?_ rfl ⟨⟨_,_,_,_,_,rfl⟩,by rw[←HX.out];exact hz⟩);
       (simp[results,Tryz.results48,go_sem,e0,e1,e2]))
theorem denE_grp {w:World} {s:Value} {n:Nat} {M:Mx} (hS:SpM w s n n M) (hn:n≤2048) (ls:List (List Int)) (hl:ls.length≤4096):DenE w s ls (grpE n ls):=fun W gv hW hg=>
 (sdense_ok W s gv n M ls (hS.call hW) hn hg hl).mono fun e w' ⟨⟨d,h1,h2⟩,hb⟩=>⟨by obtain⟨g,N,_,rfl,_⟩:=h2;exact⟨_,_,_,_,_,h1⟩,hb⟩
end Gus
end
