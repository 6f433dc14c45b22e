/- Proved here: parts of the proof: KPrtC KAt KDia KOwn KItm KEql KPur KArgB KMal KMea. Conditions: those that each theorem states. -/
import Derived.Test.YthblojaeoiemmaaGreatDoorKMakQ
import Derived.ChangeSlices
section
namespace Gus
open Go Go.RowKit Go.Proofs
set_option maxRecDepth 100000 in
set_option maxHeartbeats 2000000 in
theorem mprt3_any (W:World) (bm br bc r c n L M ca cb cap i k x y:Nat) (sa a b:Option Addr) (qs:List Rat) (xs ys:List Int) (hM:Bx W bm 37 [.int .i64 r,.int .i64 c,.slice sa n cap]) (hR:Bx W br 22 [.slice a L ca]) (hC:Bx W bc 22 [.slice b M cb])
  (hm:MatAt W (.agg #[.int .i64 r,.int .i64 c,.slice sa n cap]) r c qs) (hx:IntsAt W a xs) (hy:IntsAt W b ys) (hL:xs.length=L) (hMM:ys.length=M) (hi:i<L) (hk:k<M) (hxi:xs.getD i 0=x) (hyk:ys.getD k 0=y) (hxr:x<r) (hyc:y<c) (hr:r≤2048) (hc:c≤2048) :
  Calls Tryz.prog 120 #[.int .i64 i,.int .i64 k,.pointer (some ⟨bm,0,none⟩),.pointer (some ⟨br,0,none⟩),.pointer (some ⟨bc,0,none⟩)] W fun e w'=>e=.returned (fracV (qs.getD (x*c+y) 0))∧Below W.heap.size W w':=by
 have hat:=fun W2 (hb:Below W.heap.size W W2)=>mel_any W2 _ r c x y qs (hm.call hb) hxr hyc hr hc
 obtain⟨xb,xo,rfl,hxb,hxc⟩:=hx i (by omega)
 obtain⟨yb,yo,rfl,hyb,hyc2⟩:=hy k (by omega)
 rw[hxi] at hxc
 rw[hyk] at hyc2
 obtain⟨q,hq⟩:∃ q,q=qs.getD (x*c+y) 0:=⟨_,rfl⟩
 rw[←hq] at hat ⊢
 have hiI:(i:Int)<L:=by omega
 have hi0:(0:Int)≤i:=by omega
 have hkI:(k:Int)<M:=by omega
 have hk0:(0:Int)≤k:=by omega
 obtain⟨X,hX⟩:∃ X,X=W.heap.size:=⟨_,rfl⟩
 have HX:=Lib.hid hX
 have HAT:=Lib.hid hat
 clear hq hm hx hy hL hMM hxi hyk hxr hyc hat
 go_enter Tryz.func120,Tryz.ntmps120
 go_upto_region 1 with fail
 obtain⟨o,ho⟩:∃ o:Obj,o=.cells #[.int .u64 0,.string ⟨#[]⟩,.bool false,.int .u64 0,.string ⟨#[]⟩] 72:=⟨_,rfl⟩
 have bq:=Bx.new_at W #[.int .u64 0,.string ⟨#[]⟩,.bool false,.int .u64 0,.string ⟨#[]⟩] 72 hX
 rw[←ho] at bq ⊢
 have hin:In X W (W.alloc o):=by rw[hX];exact(In.self W).alloc o
 replace hM:=hM.alloc o
 replace hR:=hR.alloc o
 replace hC:=hC.alloc o
 rw[←hX] at hxb hyb
 rw[←hin.cell xb _ hxb] at hxc
 rw[←hin.cell yb _ hyb] at hyc2
 have hxw:xb<(W.alloc o).heap.size:=by have:=hin.siz;omega
 have hyw:yb<(W.alloc o).heap.size:=by have:=hin.siz;omega
 rw[←hX]
 clear hX ho
 generalize W.alloc o=W1 at *
 have m0:=hM.c0
 have m1:=hM.c1
 have m2:=hM.c2
 have ml:=hM.lt
 have r0:=hR.c0
 have rl:=hR.lt
 have c0:=hC.c0
 have cl:=hC.lt
 have hat:∀ W2,In W1.heap.size W1 W2→Calls Tryz.prog 121 #[.agg #[.int .i64 r,.int .i64 c,.slice sa n cap],.int .i64 x,.int .i64 y] W2 fun e w'=>e=.returned (fracV q)∧Below W2.heap.size W2 w':=fun W2 h=>HAT.out W2 (by rw[←HX.out];exact(hin.call h.bel).bel)
 clear hM hR hC hxb hyb
 have h:=In.self W1
 have hcc:=hc
 have hc:=h.cell
 refine tfw 10 ?_;refine tset ?_;(repeat (first | refine tfs ?_ |((first |((with_reducible refine flow_pure0 (v:=?_) ?_ ?_ ?_ ?_);rotate_left 1;exact trr;exact trf)|((with_reducible refine flow_pureg (v:=?_) (j:=?_) (b:=?_) ?_ ?_ ?_ ?_);rotate_left 3;exact trr;(focus (intro u w1 hw hd;replace hd:=thn hd;simp[yielded,hd];done))));(focus (intro u w1 hw hd;replace hd:=thn hd;have hc':=hw.cell;go_simp;go_at_call 121;((with_reducible refine(hat _ hw.ins).mono ?_));rintro e w'' ⟨rfl,hb⟩;refine⟨?_,hb⟩;exact rfl)))| fail))
 (try clear hc hf h);intro u w' h ha hdi;replace h:=tsz h.ins;replace ha:=tah ha;have hc:=h.cell;have hf:=h.frozen
 (try obtain ha:=ha);(try dsimp only);simp only[ha];clear ha hdi
 replace hin:=hin.call h.bel
 replace bq:=bq.call h.bel
 clear h hc hf hxc hyc2 hxw hyw m0 m1 m2 ml r0 rl c0 cl hat
 ((obtain⟨A1,A2,A3,A4,A5,hA⟩:∃ A1 A2 A3 A4 A5,fracV q=.agg #[.int .u64 A1,.string A2,.bool A3,.int .u64 A4,.string A5]:=⟨_,_,_,_,_,rfl⟩);
       ((try rw[hA]));
       (have HA:=Lib.hid hA);
       clear hA;
       have q0:=bq.c0;
       have q1:=bq.c1;
       have q2:=bq.c2;
       have q3:=bq.c3;
       have q4:=bq.c4;
       (have f0:=bq.frozen 0);
       (have f1:=bq.frozen 1);
       (have f2:=bq.frozen 2);
       (have f3:=bq.frozen 3);
       (have f4:=bq.frozen 4);
       have ql:=bq.lt;
       (have K1:=Lib.hid ((((((bq.set 0 (.int .u64 A1)).set 1 (.string A2)).set 2 (.bool A3)).set 3 (.int .u64 A4)).set 4 (.string A5))));
       (have K2:=Lib.hid ((((((hin.setCell (p:=⟨X,0,none⟩) (by first |(simp;done)|(have:=HX.out;simp;omega)) (.int .u64 A1)).setCell (p:=⟨X,1,none⟩) (by first |(simp;done)|(have:=HX.out;simp;omega)) (.string A2)).setCell (p:=⟨X,2,none⟩) (by first |(simp;done)|(have:=HX.out;simp;omega)) (.bool A3)).setCell (p:=⟨X,3,none⟩) (by first |(simp;done)|(have:=HX.out;simp;omega)) (.int .u64 A4)).setCell (p:=⟨X,4,none⟩) (by first |(simp;done)|(have:=HX.out;simp;omega)) (.string A5))));
       clear bq hin;
       go_wp2_with fail;
       have k1:=K1.out;
       have k2:=K2.out;
       clear q0 q1 q2 q3 q4 f0 f1 f2 f3 f4 ql K1 K2;
       (generalize (((((w'.setCell ⟨X,0,none⟩ (.int .u64 A1)).setCell ⟨X,1,none⟩ (.string A2)).setCell ⟨X,2,none⟩ (.bool A3)).setCell ⟨X,3,none⟩ (.int .u64 A4)).setCell ⟨X,4,none⟩ (.string A5))=W5 at *);
       (have e0:W5.cell? ⟨X,0,none⟩=some (.int .u64 A1):=k1.cell 0);
       (have e1:W5.cell? ⟨X,1,none⟩=some (.string A2):=k1.cell 1);
       (have e2:W5.cell? ⟨X,2,none⟩=some (.bool A3):=k1.cell 2);
       (have e3:W5.cell? ⟨X,3,none⟩=some (.int .u64 A4):=k1.cell 3);
       (have e4:W5.cell? ⟨X,4,none⟩=some (.string A5):=k1.cell 4);
       have hz:=k2.bel;
       have hA:=HA.out;
       (refine bodyPost_ret (v:=.agg #[.int .u64 A1,.string A2,.bool A3,.int .u64 A4,.string A5]) ?_ rfl ⟨by rw[hA],by rw[←HX.out];exact hz⟩);
       (simp[results,Tryz.results120,go_sem,e0,e1,e2,e3,e4]))
def MPart (w:World) (r c:Nat) (qs:List Rat) (xs ys:List Int) (e:Ending) (w':World):Prop:=
 (((xs.any (outI r)|| ys.any (outI c))=true∧e=.returned (.tuple #[zeroSp,.int .i64 1]))∨((xs.any (outI r)|| ys.any (outI c))=false∧∃ d,e=.returned (.tuple #[d,.int .i64 0])∧MatS w' d xs.length ys.length (partF (mvals c qs) xs ys)))∧Below w.heap.size w w'
set_option maxRecDepth 100000 in
set_option maxHeartbeats 4000000 in
theorem mpart_any (w:World) (v:Value) (r c:Nat) (qs:List Rat) (hS:MatAt w v r c qs) (hr:r≤2048) (hc:c≤2048) (a b:Option Addr) (ca cb:Nat) (xs ys:List Int) (hx:IntsAt w a xs) (hy:IntsAt w b ys) (hlx:xs.length≤2048) (hly:ys.length≤2048) :
  Calls Tryz.prog 70 #[v,.slice a xs.length ca,.slice b ys.length cb] w (MPart w r c qs xs ys):=by
 have hck:=fun W (sa:Option Addr) (k:Nat)=>mcheck_any r c sa qs.length k W
 obtain⟨sx,rfl,hql,hvx⟩:=hS
 have hS:MatAt w (.agg #[.int .i64 r,.int .i64 c,sx]) r c qs:=⟨_,rfl,hql,hvx⟩
 obtain⟨sa,cap,rfl⟩:=hvx.shape
 rw[show checkM (r:Int) c qs.length=0 by rw[hql];exact checkM_ok hr hc] at hck
 have h2:=msides_any xs.length ys.length
 rw[show sidesE (xs.length:Int) ys.length=0 by unfold sidesE;rw[if_neg (by omega),if_neg (by omega)]] at h2
 have eg1:∀ args w,(callFunc 117 args).run Tryz.prog w=.ok (.enter 117 args) w:=enters_of Tryz.func117 (by kernel_rfl) rfl
 have eg2:∀ args w,(callFunc 119 args).run Tryz.prog w=.ok (.enter 119 args) w:=enters_of Tryz.func119 (by kernel_rfl) rfl
 obtain⟨X,hX⟩:∃ X,X=w.heap.size:=⟨_,rfl⟩
 have HX:=Lib.hid hX
 have h3:=fun W (hin:In w.heap.size w W) (bx:Bx W X 37 [.int .i64 r,.int .i64 c,.slice sa qs.length cap])=>cont_any (outI r) W a ca xs (hx.call hin.bel) (by omega) 117 #[.pointer (some ⟨X,0,none⟩)] eg1 (fun x W' h=>mprt1_any W' X r c _ (bx.call h.bel) x)
 have h4:=fun W (hin:In w.heap.size w W) (bx:Bx W X 37 [.int .i64 r,.int .i64 c,.slice sa qs.length cap])=>cont_any (outI c) W b cb ys (hy.call hin.bel) (by omega) 119 #[.pointer (some ⟨X,0,none⟩)] eg2 (fun x W' h=>mprt2_any W' X r c _ (bx.call h.bel) x)
 obtain⟨p,hp⟩:∃ p,p=xs.any (outI r):=⟨_,rfl⟩
 obtain⟨q,hq⟩:∃ q,q=ys.any (outI c):=⟨_,rfl⟩
 rw[←hp] at h3
 rw[←hq] at h4
 have HP:=Lib.hid hp
 have HQ:=Lib.hid hq
 obtain⟨L,hL⟩:∃ L,L=xs.length:=⟨_,rfl⟩
 obtain⟨M,hM⟩:∃ M,M=ys.length:=⟨_,rfl⟩
 obtain⟨N,hN⟩:∃ N,N=qs.length:=⟨_,rfl⟩
 rw[←hL,←hM] at h2
 rw[←hL] at h3 hlx ⊢
 rw[←hM] at h4 hly ⊢
 rw[←hN] at hck h3 h4 hS ⊢
 have eg3:∀ args w,(callFunc 120 args).run Tryz.prog w=.ok (.enter 120 args) w:=enters_of Tryz.func120 (by kernel_rfl) rfl
 have HL:=Lib.hid hL
 have HM:=Lib.hid hM
 have HS:=Lib.hid hS
 have HXS:=Lib.hid hx
 have HYS:=Lib.hid hy
 clear hS hx hy hp hq hL hM hN hvx hql
 go_enter Tryz.func70,Tryz.ntmps70
 go_wp2_with fail
 ((with_reducible refine(hck _ _ _).mono ?_))
 rintro e w2 ⟨rfl,hb⟩
 have hin:=(((((In.self w).alloc (.cells #[.int .i64 r,.int .i64 c,.slice sa N cap] 37)).alloc (.cells #[.slice a L ca] 22)).alloc (.cells #[.slice b M cb] 22)).alloc (.cells #[.int .i64 0,.int .i64 0,.slice none 0 0] 37)).call hb
 have bx:=((((Bx.new_at w #[.int .i64 r,.int .i64 c,.slice sa N cap] 37 hX).alloc (.cells #[.slice a L ca] 22)).alloc (.cells #[.slice b M cb] 22)).alloc (.cells #[.int .i64 0,.int .i64 0,.slice none 0 0] 37)).call hb
 have b1:=(((Bx.new_at (w.alloc (.cells #[.int .i64 r,.int .i64 c,.slice sa N cap] 37)) #[.slice a L ca] 22 (n:=X+1) (by rw[World.size_alloc,hX])).alloc (.cells #[.slice b M cb] 22)).alloc (.cells #[.int .i64 0,.int .i64 0,.slice none 0 0] 37)).call hb
 have b2:=((Bx.new_at ((w.alloc (.cells #[.int .i64 r,.int .i64 c,.slice sa N cap] 37)).alloc (.cells #[.slice a L ca] 22)) #[.slice b M cb] 22 (n:=X+1+1) (by rw[World.size_alloc,World.size_alloc,hX])).alloc (.cells #[.int .i64 0,.int .i64 0,.slice none 0 0] 37)).call hb
 have bq:=(Bx.new_at (((w.alloc (.cells #[.int .i64 r,.int .i64 c,.slice sa N cap] 37)).alloc (.cells #[.slice a L ca] 22)).alloc (.cells #[.slice b M cb] 22)) #[.int .i64 0,.int .i64 0,.slice none 0 0] 37 (n:=X+1+1+1) (by rw[World.size_alloc,World.size_alloc,World.size_alloc,hX])).call hb
 rw[←hX]
 clear hX hb hck
 have x0:=b1.c0
 have xl:=b1.lt
 have y0:=b2.c0
 have yl:=b2.lt
 go_wp2_with fail
 ((with_reducible refine(h2 _).mono ?_))
 rintro e w3 ⟨rfl,hb⟩
 replace hin:=hin.call hb
 replace bx:=bx.call hb
 replace b1:=b1.call hb
 replace b2:=b2.call hb
 replace bq:=bq.call hb
 clear hb h2 x0 xl y0 yl
 have x0:=b1.c0
 have xl:=b1.lt
 have y0:=b2.c0
 have yl:=b2.lt
 go_wp2_with fail
 ((with_reducible refine(h3 _ hin bx).mono ?_))
 rintro e w4 ⟨rfl,hb⟩
 replace hin:=hin.call hb
 replace bx:=bx.call hb
 replace b1:=b1.call hb
 replace b2:=b2.call hb
 replace bq:=bq.call hb
 clear hb h3 x0 xl y0 yl
 have y0:=b2.c0
 have yl:=b2.lt
 rcases p with _ | _
 ·go_wp2_with fail
  ((with_reducible refine(h4 _ hin bx).mono ?_))
  rintro e w5 ⟨rfl,hb⟩
  replace hin:=hin.call hb
  replace bx:=bx.call hb
  replace b1:=b1.call hb
  replace b2:=b2.call hb
  replace bq:=bq.call hb
  clear hb h4 y0 yl
  rcases q with _ | _
  ·have x0:=b1.c0
   have xl:=b1.lt
   have y0:=b2.c0
   have yl:=b2.lt
   have hmk:=make_str (partF (mvals c qs) xs ys) w5 L M 120 #[.pointer (some ⟨X,0,none⟩),.pointer (some ⟨X+1,0,none⟩),.pointer (some ⟨X+1+1,0,none⟩)] eg3 hlx hly (fun i k W hi hk h=>by
    obtain⟨x,hx,hxr⟩:=not_out HP.out.symm (i:=i) (by rw[←HL.out];exact hi)
    obtain⟨y,hy,hyc⟩:=not_out HQ.out.symm (i:=k) (by rw[←HM.out];exact hk)
    have:=mprt3_any W X (X+1) (X+1+1) r c N L M ca cb cap i k x y sa a b qs xs ys (bx.call h.bel) (b1.call h.bel) (b2.call h.bel) (HS.out.call (hin.call h.bel).bel) (HXS.out.call (hin.call h.bel).bel) (HYS.out.call (hin.call h.bel).bel) HL.out.symm HM.out.symm hi hk hx hy hxr hyc hr hc
    rw[show partF (mvals c qs) xs ys i k=qs.getD (x*c+y) 0 by unfold partF mvals;rw[hx,hy];rfl]
    exact this)
   go_wp2_with fail
   (with_reducible refine hmk.mono ?_)
   rintro e w6 ⟨⟨d,rfl,hd⟩,hb⟩
   replace hin:=hin.call hb
   replace bq:=bq.call hb
   obtain⟨ad,n,kd,hn,rfl⟩:=hd.shape
   clear hb hmk x0 xl y0 yl hn bx b1 b2
   ((have K5:=Lib.hid (hd.put3 (p':=((L:Nat):Int)) (q':=((M:Nat):Int)) (ao':=ad) (n':=n) (k':=kd) bq));
       have r0:=bq.c0;
       have r1:=bq.c1;
       have r2:=bq.c2;
       (have f0:=bq.frozen 0);
       (have f1:=bq.frozen 1);
       (have f2:=bq.frozen 2);
       have ql:=bq.lt;
       (have K1:=Lib.hid (((bq.set 0 (.int .i64 ((L:Nat):Int))).set 1 (.int .i64 ((M:Nat):Int))).set 2 (.slice ad n kd)));
       (have K2:=Lib.hid (((hin.setCell (p:=⟨(X+1+1+1),0,none⟩) (by first |(simp;done)|(have:=HX.out;simp;omega)) (.int .i64 ((L:Nat):Int))).setCell (p:=⟨(X+1+1+1),1,none⟩) (by first |(simp;done)|(have:=HX.out;simp;omega)) (.int .i64 ((M:Nat):Int))).setCell (p:=⟨(X+1+1+1),2,none⟩) (by first |(simp;done)|(have:=HX.out;simp;omega)) (.slice ad n kd)));
       clear bq hin hd;
       go_wp2_with fail;
       have k1:=K1.out;
       have k2:=K2.out;
       have hm:=K5.out;
       clear r0 r1 r2 f0 f1 f2 ql K1 K2 K5;
       (generalize (((w6.setCell ⟨(X+1+1+1),0,none⟩ (.int .i64 ((L:Nat):Int))).setCell ⟨(X+1+1+1),1,none⟩ (.int .i64 ((M:Nat):Int))).setCell ⟨(X+1+1+1),2,none⟩ (.slice ad n kd))=W9 at *);
       (have e0:W9.cell? ⟨(X+1+1+1),0,none⟩=some (.int .i64 ((L:Nat):Int)):=k1.cell 0);
       (have e1:W9.cell? ⟨(X+1+1+1),1,none⟩=some (.int .i64 ((M:Nat):Int)):=k1.cell 1);
       (have e2:W9.cell? ⟨(X+1+1+1),2,none⟩=some (.slice ad n kd):=k1.cell 2);
       have hz:=k2.bel;
       (refine bodyPost_ret (v:=.tuple #[.agg #[.int .i64 ((L:Nat):Int),.int .i64 ((M:Nat):Int),.slice ad n kd],.int .i64 0]) ?_ rfl ⟨.inr ⟨by rw[←HP.out,←HQ.out];rfl,_,rfl,by rw[←HL.out,←HM.out];exact hm⟩,hz⟩);
       (simp[results,Tryz.results70,go_sem,e0,e1,e2]))
  ·(have r0:=bq.c0;
       have r1:=bq.c1;
       have r2:=bq.c2;
       (have f0:=bq.frozen 0);
       (have f1:=bq.frozen 1);
       (have f2:=bq.frozen 2);
       have hrl:=bq.lt;
       (have H1:=Lib.hid (((bq.set 0 (.int .i64 0)).set 1 (.int .i64 0)).set 2 (.slice none 0 0)));
       (have H2:=Lib.hid (((hin.setCell (p:=⟨(X+1+1+1),0,none⟩) (by first |(simp;done)|(have:=HX.out;simp;omega)) (.int .i64 0)).setCell (p:=⟨(X+1+1+1),1,none⟩) (by first |(simp;done)|(have:=HX.out;simp;omega)) (.int .i64 0)).setCell (p:=⟨(X+1+1+1),2,none⟩) (by first |(simp;done)|(have:=HX.out;simp;omega)) (.slice none 0 0)));
       clear bq hin bx;
       go_wp2_with fail;
       have g1:=H1.out;
       have g2:=H2.out;
       clear H1 H2 r0 r1 r2 f0 f1 f2 hrl;
       (generalize ((w5.setCell ⟨(X+1+1+1),0,none⟩ (.int .i64 0)).setCell ⟨(X+1+1+1),1,none⟩ (.int .i64 0)).setCell ⟨(X+1+1+1),2,none⟩ (.slice none 0 0)=W5 at *);
       (have e0:W5.cell? ⟨(X+1+1+1),0,none⟩=some (.int .i64 0):=g1.cell 0);
       (have e1:W5.cell? ⟨(X+1+1+1),1,none⟩=some (.int .i64 0):=g1.cell 1);
       (have e2:W5.cell? ⟨(X+1+1+1),2,none⟩=some (.slice none 0 0):=g1.cell 2);
       have hz:=g2.bel;
       (refine bodyPost_ret (v:=.tuple #[zeroSp,.int .i64 1]) ?_ rfl ⟨.inl ⟨by rw[←HQ.out,Bool.or_true],rfl⟩,hz⟩);
       (simp[results,Tryz.results70,go_sem,e0,e1,e2]))
 ·clear h4
  ((have r0
       :=bq.c0);
       have r1:=bq.c1;
       have r2:=bq.c2;
       (have f0:=bq.frozen 0);
       (have f1:=bq.frozen 1);
       (have f2:=bq.frozen 2);
       have hrl:=bq.lt;
       (have H1:=Lib.hid (((bq.set 0 (.int .i64 0)).set 1 (.int .i64 0)).set 2 (.slice none 0 0)));
       (have H2:=Lib.hid (((hin.setCell (p:=⟨(X+1+1+1),0,none⟩) (by first |(simp;done)|(have:=HX.out;simp;omega)) (.int .i64 0)).setCell (p:=⟨(X+1+1+1),1,none⟩) (by first |(simp;done)|(have:=HX.out;simp;omega)) (.int .i64 0)).setCell (p:=⟨(X+1+1+1),2,none⟩) (by first |(simp;done)|(have:=HX.out;simp;omega)) (.slice none 0 0)));
       clear bq hin bx;
       go_wp2_with fail;
       have g1:=H1.out;
       have g2:=H2.out;
       clear H1 H2 r0 r1 r2 f0 f1 f2 hrl;
       (generalize ((w4.setCell ⟨(X+1+1+1),0,none⟩ (.int .i64 0)).setCell ⟨(X+1+1+1),1,none⟩ (.int .i64 0)).setCell ⟨(X+1+1+1),2,none⟩ (.slice none 0 0)=W5 at *);
       (have e0:W5.cell? ⟨(X+1+1+1),0,none⟩=some (.int .i64 0):=g1.cell 0);
       (have e1:W5.cell? ⟨(X+1+1+1),1,none⟩=some (.int .i64 0):=g1.cell 1);
       (have e2:W5.cell? ⟨(X+1+1+1),2,none⟩=some (.slice none 0 0):=g1.cell 2);
       have hz:=g2.bel;
       (refine bodyPost_ret (v:=.tuple #[zeroSp,.int .i64 1]) ?_ rfl ⟨.inl ⟨by rw[←HP.out,Bool.true_or],rfl⟩,hz⟩);
       (simp[results,Tryz.results70,go_sem,e0,e1,e2]))
end Gus
end
section
namespace Gus
open Go Go.RowKit Go.Proofs
theorem MatAt.len2 {w:World} {v:Value} {r c:Nat} {qs:List Rat} (h:MatAt w v r c qs):qs.length=r*c:=let ⟨_,_,h,_⟩:=h;h
end Gus
end
section
namespace Gus
open Go Go.RowKit Go.Proofs
theorem info_int8:(Tryz.prog.info? 3).map (fun i=>(i.zero,i.size,i.bytes))=some (some (.int .i64 0),1,8):=by kernel_rfl
theorem ownsRow_kept {w w':World} {lo size n:Nat} {e:TypeId} {v:Value} {xs:List Value} (h:w.ownsRow lo e size v n xs) (hb:∀ k,v.ownBlock=some k→w'.heap[k]?=w.heap[k]?):w'.ownsRow lo e size v n xs:=by
 refine⟨h.1, ?_⟩
 rcases h.2 with h2 |⟨g,cap,cur,rfl,h0,hg,h1⟩
 ·exact .inl h2
 ·exact .inr ⟨g,cap,cur,rfl,h0,(hb g rfl).trans hg,h1⟩
theorem ownsRow_ne {w:World} {lo size n b:Nat} {e T:TypeId} {v:Value} {xs cs:List Value} (h:w.ownsRow lo e size v n xs) (hB:Bx w b T cs) (hT:e≠T):v.ownBlock≠some b:=fun hk=>by
 rcases h.2 with ⟨rfl,_⟩|⟨g,cap,cur,rfl,h0,hg,h1⟩
 ·simp[Value.ownBlock] at hk
 ·simp[Value.ownBlock] at hk
  subst hk
  have h6:w.heap[g]?=some (Obj.cells cs.toArray T (0,0)):=hB
  rw[hg] at h6
  injection h6 with h7
  injection h7 with _ h8
  exact hT h8
theorem ownsRow_grown {w w':World} {lo size n b:Nat} {e T:TypeId} {v:Value} {xs cs:List Value} (h:w.ownsRow lo e size v n xs) (hB:Bx w b T cs) (hT:e≠T) (hg:w.grownBy w' (some b)):w'.ownsRow lo e size v n xs:=
 ownsRow_kept h fun k hk=>hg.block k (h.lt k hk).2 (fun e=>ownsRow_ne h hB hT (by rw[hk,e]))
theorem ownsRow_bel {w w':World} {lo size n:Nat} {e:TypeId} {v:Value} {xs:List Value} (h:w.ownsRow lo e size v n xs) (hb:Below w.heap.size w w'):w'.ownsRow lo e size v n xs:=
 ownsRow_kept h fun k hk=>hb.block k (h.lt k hk).2
end Gus
end
section
namespace Gus
open Go Go.RowKit Go.Proofs
def PRes (bad:Bool) (nr nc:Nat) (F:Nat→Nat→Rat) (w:World) (v:Value) (e:Int):Prop:=
 (∃ pn pm pa pl pk,v=.agg #[.int .i64 pn,.int .i64 pm,.slice pa pl pk])∧((bad=true∧e=1∧v=zeroSp)∨(bad=false∧e=0∧SpM w v nr nc F))
def DRes (bad:Bool) (nr nc:Nat) (F:Nat→Nat→Rat) (w:World) (v:Value) (e:Int):Prop:=
 (∃ pn pm pa pl pk,v=.agg #[.int .i64 pn,.int .i64 pm,.slice pa pl pk])∧((bad=true∧e=1∧v=zeroSp)∨(bad=false∧e=0∧MatAt w v nr nc (dense nr nc F)))
theorem PRes.call {bad:Bool} {nr nc:Nat} {F:Nat→Nat→Rat} {w w':World} {v:Value} {e:Int} (h:PRes bad nr nc F w v e) (hb:Below w.heap.size w w'):PRes bad nr nc F w' v e:=
 ⟨h.1,h.2.imp id fun h=>⟨h.1,h.2.1,h.2.2.call hb⟩⟩
theorem DRes.call {bad:Bool} {nr nc:Nat} {F:Nat→Nat→Rat} {w w':World} {v:Value} {e:Int} (h:DRes bad nr nc F w v e) (hb:Below w.heap.size w w'):DRes bad nr nc F w' v e:=
 ⟨h.1,h.2.imp id fun h=>⟨h.1,h.2.1,h.2.2.call hb⟩⟩
end Gus
end
section
namespace Gus
open Go Go.RowKit Go.Proofs Go.ChangeShapes Go.WideShapes Go.ChangeAt Go.Deep
section
variable {H:Type} {enc:TypeId×Value→H} {W:World} {base:Nat} {sp:Nat→Bool} {held:Bool}
set_option maxRecDepth 100000 in
theorem open_is {b0:Nat} {v:Value} {d:DataW H} {ps:List MemPlace} (hval:Value.okWide Tryz.prog W .any b0 22 v) (hd:DataW.Trod enc Tryz.prog W base sp held 22 v d ps) :
  ∃ a xs cap,v=.slice a (List.length xs) cap∧IntsAt W a xs∧(∀ n∈xs,-9223372036854775808≤n∧n<9223372036854775808)∧xs.length≤maxLen:=by
 obtain⟨a,len,cap,rfl⟩:=okWide_slice Tryz.underlying22 hval
 obtain⟨fuel,hf⟩:=hd
 rcases open_ints Tryz.underlying22 Tryz.underlying3 (by kernel_rfl) hf with ⟨e,_⟩|⟨a',len',cap',zs,e,_,hlc,hcm,hzl,_,hc,hw⟩
 ·simp[Value.cells] at e
  obtain⟨rfl,rfl,rfl⟩:=e
  exact⟨none,[],0,rfl,fun i hi=>absurd hi (Nat.not_lt_zero _),fun n hn=>by(cases hn),Nat.zero_le _⟩
 ·simp[Value.cells] at e
  obtain⟨rfl,rfl,rfl⟩:=e
  have hle:len≤zs.length:=by rw[hzl];split <;> omega
  have htl:(zs.take len).length=len:=by rw[List.length_take];omega
  refine⟨some a',zs.take len,cap,by rw[htl],fun i hi=>?_,fun n hn=>?_,by rw[htl];omega⟩
  ·rw[htl] at hi
   obtain⟨b,off,spot⟩:=a'
   obtain rfl:spot=none:=by
    have hs:=World.cell?_spot (hc 0 (by omega))
    simpa[Addr.add] using hs
   have h1:=hc i (by omega)
   rw[add_plain] at h1
   refine⟨b,off,rfl,cell_in h1, ?_⟩
   rw[h1,List.getD_eq_getElem?_getD,List.getD_eq_getElem?_getD,List.getElem?_take,if_pos hi]
  ·have:=bounds_i64 (hw n (List.mem_of_mem_take hn))
   omega
end
end Gus
end
section
namespace Gus
open Go Go.RowKit Go.Proofs
set_option maxRecDepth 100000 in
set_option maxHeartbeats 2000000 in
theorem mall_two (w:World) (b r c r' c' n k n' k':Nat) (a a':Option Addr) (hB:Bx w b 37 [.int .i64 r,.int .i64 c,.slice a n k,.int .i64 r',.int .i64 c',.slice a' n' k']) (h1:checkM r c n=0) (h2:checkM r' c' n'=0) :
  Calls Tryz.prog 83 #[.slice (some ⟨b,0,none⟩) 2 2] w fun e w'=>e=.returned (.int .i64 0)∧Below w.heap.size w w':=by
 have c1:=fun W=>mcheck_any r c a n k W
 have c2:=fun W=>mcheck_any r' c' a' n' k' W
 rw[h1] at c1
 rw[h2] at c2
 have HB:=Lib.hid hB
 have hbw:=hB.lt
 clear h1 h2 hB
 go_enter Tryz.func83,Tryz.ntmps83
 go_wp2_with fail
 go_loopw [8] (fun v8 wr=>∃ p:Nat,p≤2∧v8=.int .i64 p∧In w.heap.size w wr) (fun v8 _=>2 - (RowKit.intOf v8).toNat)
 case atStart=>exact⟨0,by decide,rfl,In.self _⟩
 case round=>
  obtain⟨p,hp,rfl,hin⟩:=hrel
  have hbr:b<wr.heap.size:=by have:=hin.siz;omega
  have x0:=hin.cell b 0 hbw
  have x1:=hin.cell b 1 hbw
  have x2:=hin.cell b 2 hbw
  have x3:=hin.cell b 3 hbw
  have x4:=hin.cell b 4 hbw
  have x5:=hin.cell b 5 hbw
  rw[HB.out.c0] at x0
  rw[HB.out.c1] at x1
  rw[HB.out.c2] at x2
  rw[HB.out.c3] at x3
  rw[HB.out.c4] at x4
  rw[HB.out.c5] at x5
  match p,hp with
  | 0,_=>
   go_wp2_with fail
   ((with_reducible refine(c1 _).mono ?_))
   rintro e w2 ⟨rfl,hb⟩
   have hin2:=(hin.alloc (.cells #[.int .i64 r,.int .i64 c,.slice a n k] 37)).call hb
   clear hb hin x0 x1 x2 x3 x4 x5
   go_wp2_with fail
   exact⟨⟨1,by decide,rfl,hin2⟩,by simp[RowKit.intOf]⟩
  | 1,_=>
   go_wp2_with fail
   ((with_reducible refine(c2 _).mono ?_))
   rintro e w2 ⟨rfl,hb⟩
   have hin2:=(hin.alloc (.cells #[.int .i64 r',.int .i64 c',.slice a' n' k'] 37)).call hb
   clear hb hin x0 x1 x2 x3 x4 x5
   go_wp2_with fail
   exact⟨⟨2,by decide,rfl,hin2⟩,by simp[RowKit.intOf]⟩
  | 2,_=>
   clear x0 x1 x2 x3 x4 x5
   go_wp2_with fail
   go_ret
   exact⟨rfl,hin.bel⟩
end Gus
end
