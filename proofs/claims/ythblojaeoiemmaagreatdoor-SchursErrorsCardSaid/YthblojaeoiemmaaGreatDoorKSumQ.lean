/- Proved here: parts of the proof: KSum KDot KMro KMpp KMfo KMsy. Conditions: those that each theorem states. -/
import Derived.Test.YthblojaeoiemmaaGreatDoorKMebQ
section
namespace Gus
open Go Go.RowKit Go.Proofs
set_option maxRecDepth 100000 in
set_option maxHeartbeats 2000000 in
theorem tadd_any {j l:Nat} (N:Nat) (w0 W:World) (T:Nat) (s x:Rat) (hT:Bx W T 229 (fcs s)) (hs:SzK j s) (hx:SzK l x) (hjl:j+l+1<17592186044416) (hin:In N w0 W) (hN:N≤T) :
  Calls Tryz.prog 164 #[.pointer (some ⟨T,0,none⟩),fracV x] W fun e w'=>e=.returned (.tuple #[])∧Bx w' T 229 (fcs (s+x))∧In N w0 w':=by
 have h1:=fadd_any s x hs hx hjl
 obtain⟨S1,S2,S3,S4,S5,hs1,hs2⟩:∃ A1 A2 A3 A4 A5,fracV s=.agg #[.int .u64 A1,.string A2,.bool A3,.int .u64 A4,.string A5]∧fcs s=[.int .u64 A1,.string A2,.bool A3,.int .u64 A4,.string A5]:=⟨_,_,_,_,_,rfl,rfl⟩
 obtain⟨X1,X2,X3,X4,X5,hx1⟩:∃ A1 A2 A3 A4 A5,fracV x=.agg #[.int .u64 A1,.string A2,.bool A3,.int .u64 A4,.string A5]:=⟨_,_,_,_,_,rfl⟩
 rw[hs1,hx1] at h1
 rw[hs2] at hT
 rw[hx1]
 obtain⟨z,hz⟩:∃ z,z=s+x:=⟨_,rfl⟩
 rw[←hz] at h1 ⊢
 obtain⟨N1,N2,N3,N4,N5,hn1,hn2⟩:∃ A1 A2 A3 A4 A5,fracV z=.agg #[.int .u64 A1,.string A2,.bool A3,.int .u64 A4,.string A5]∧fcs z=[.int .u64 A1,.string A2,.bool A3,.int .u64 A4,.string A5]:=⟨_,_,_,_,_,rfl,rfl⟩
 rw[hn1] at h1
 rw[hn2]
 have hTl:=hT.lt
 clear hz hs1 hs2 hx1 hn1 hn2
 go_enter Tryz.func164,Tryz.ntmps164
 go_upto_region 1 with fail
 obtain⟨Z,hZ⟩:∃ Z,Z=W.heap.size:=⟨_,rfl⟩
 have bx:=Bx.new_at W #[.int .u64 X1,.string X2,.bool X3,.int .u64 X4,.string X5] 72 hZ
 replace hT:=hT.alloc (.cells #[.int .u64 X1,.string X2,.bool X3,.int .u64 X4,.string X5] 72)
 replace hin:=hin.alloc (.cells #[.int .u64 X1,.string X2,.bool X3,.int .u64 X4,.string X5] 72)
 rw[←hZ]
 clear hZ hTl
 generalize W.alloc (.cells #[.int .u64 X1,.string X2,.bool X3,.int .u64 X4,.string X5] 72)=W1 at *
 have x0:=bx.c0
 have x1:=bx.c1
 have x2:=bx.c2
 have x3:=bx.c3
 have x4:=bx.c4
 have xl:=bx.lt
 have s0:=hT.c0
 have s1:=hT.c1
 have s2:=hT.c2
 have s3:=hT.c3
 have s4:=hT.c4
 have sl:=hT.lt
 have h:=In.self W1
 have hc:=h.cell
 refine tfw 9 ?_;refine tset ?_;(repeat (first | refine tfs ?_ |((first |((with_reducible refine flow_pure0 (v:=?_) ?_ ?_ ?_ ?_);rotate_left 1;exact trr;exact trf)|((with_reducible refine flow_pureg (v:=?_) (j:=?_) (b:=?_) ?_ ?_ ?_ ?_);rotate_left 3;exact trr;(focus (intro u w1 hw hd;replace hd:=thn hd;simp[yielded,hd];done))));(focus (intro u w1 hw hd;replace hd:=thn hd;have hc':=hw.cell;go_simp;go_at_call 74;((with_reducible refine(h1 _).mono ?_));rintro e w'' ⟨rfl,hb⟩;refine⟨?_,hb⟩;exact rfl)))| fail))
 (try clear hc hf h);intro u w' h ha hdi;replace h:=tsz h.ins;replace ha:=tah ha;have hc:=h.cell;have hf:=h.frozen
 (try obtain ha:=ha);(try dsimp only);simp only[ha];clear ha hdi
 have hT2:=hT.call h.bel
 have hin2:=hin.call h.bel
 have q0:=hT2.c0
 have q1:=hT2.c1
 have q2:=hT2.c2
 have q3:=hT2.c3
 have q4:=hT2.c4
 have f0:=hT2.frozen 0
 have f1:=hT2.frozen 1
 have f2:=hT2.frozen 2
 have f3:=hT2.frozen 3
 have f4:=hT2.frozen 4
 have ql:=hT2.lt
 have K1:=Lib.hid (((((hT2.set 0 (.int .u64 N1)).set 1 (.string N2)).set 2 (.bool N3)).set 3 (.int .u64 N4)).set 4 (.string N5))
 have K2:=Lib.hid (((((hin2.setCell (p:=⟨T,0,none⟩) hN (.int .u64 N1)).setCell (p:=⟨T,1,none⟩) hN (.string N2)).setCell (p:=⟨T,2,none⟩) hN (.bool N3)).setCell (p:=⟨T,3,none⟩) hN (.int .u64 N4)).setCell (p:=⟨T,4,none⟩) hN (.string N5))
 clear h hc hf hT hin hT2 hin2 h1 x0 x1 x2 x3 x4 xl s0 s1 s2 s3 s4 sl bx
 go_wp2_with fail
 go_end0
 exact⟨rfl,K1.out,K2.out⟩
set_option maxRecDepth 100000 in
set_option maxHeartbeats 4000000 in
theorem feach_any {j:Nat} (N:Nat) (w0 W:World) (T:Nat) (v:Value) (qs:List Rat) (F:Nat→Rat) (hv:VecAt w0 v qs) (hF:∀ i,F i=qs.getD i 0) (hT:Bx W T 229 (fcs 0)) (hq:∀ i,SzK j (qs.getD i 0)) (hcap:1+qs.length*(j+1)<17592186044416) (hl:qs.length≤4096) (hin:In N w0 W) (hN:N≤T) (hN0:w0.heap.size≤N) :
  Calls Tryz.prog 163 #[.func (.func 164) #[.pointer (some ⟨T,0,none⟩)] #[],v] W fun e w'=>e=.returned (.tuple #[])∧Bx w' T 229 (fcs (sumTo F qs.length))∧In N w0 w':=by
 have eg:∀ args w,(callFunc 164 args).run Tryz.prog w=.ok (.enter 164 args) w:=enters_of Tryz.func164 (by kernel_rfl) rfl
 have hsz:=sumTo_szk (F:=F) (j:=j) (fun t=>by rw[hF];exact hq t)
 have HV:=Lib.hid hv
 obtain⟨a,k,rfl⟩:=hv.shape
 obtain⟨n,hn⟩:∃ n,n=qs.length:=⟨_,rfl⟩
 rw[←hn] at hcap hl ⊢
 have HN:=Lib.hid hn
 have HSZ:=Lib.hid hsz
 have HF:=Lib.hid hF
 have HQ:=Lib.hid hq
 have HC:=Lib.hid hcap
 clear hv hn hsz hF hq hcap
 go_enter Tryz.func163,Tryz.ntmps163
 go_wp2_with fail
 go_loopw [8] (fun v8 wr=>∃ i:Nat,i≤n∧v8=.int .i64 i∧Bx wr T 229 (fcs (sumTo F i))∧In N w0 wr) (fun v8 _=>n - (RowKit.intOf v8).toNat)
 case atStart=>exact⟨0,Nat.zero_le _,rfl,hT,hin⟩
 case round=>
  clear hT hin
  obtain⟨i,hi,rfl,hT,hin⟩:=hrel
  by_cases hin2:i<n
  ·have hiI:(i:Int)<n:=by omega
   have hi0:(0:Int)≤i:=by omega
   have hiw:IntKind.i64.wrap ((i:Int)+1)=((i+1:Nat):Int):=IntWalk.i64_in _ (by omega)
   obtain⟨b1,o1,_,B1,B2,B3,B4,B5,e1,hb1,_,hf1,y0,y1,y2,y3,y4⟩:=HV.out.at (i:=i) (by rw[←HN.out];exact hin2)
   simp only[Value.slice.injEq] at e1
   obtain⟨rfl,_,hk1⟩:=e1
   subst hk1
   rw[←hin.cell b1 _ (by omega)] at y0 y1 y2 y3 y4
   have hbw1:b1<wr.heap.size:=by have:=hin.siz;omega
   have hcp:=HC.out
   have hci:(i+1)*(j+1)≤n*(j+1):=Nat.mul_le_mul_right _ (by omega)
   rw[Nat.add_mul,Nat.one_mul] at hci
   have hcon:=tadd_any N w0 (wr.alloc (.cells #[.int .u64 B1,.string B2,.bool B3,.int .u64 B4,.string B5] 72)) T (sumTo F i) (qs.getD i 0) (hT.alloc _) (HSZ.out i) (HQ.out i) (by omega) (hin.alloc _) hN
   rw[show sumTo F i+qs.getD i 0=sumTo F (i+1) by rw[←HF.out];rfl,hf1] at hcon
   clear hT hin hf1 hb1
   go_wp2_with fail
   (refine hcon.mono ?_)
   rintro e w2 ⟨rfl,hT2,hin3⟩
   clear hcon y0 y1 y2 y3 y4 hbw1
   go_wp2_with fail
   exact⟨⟨i+1,by omega,by go_num,hT2,hin3⟩,by simp[RowKit.intOf];omega⟩
  ·obtain rfl:i=n:=by omega
   have hiI:¬ (i:Int)<i:=by omega
   go_wp2_with fail
   go_end0
   exact⟨rfl,hT,hin⟩
set_option maxRecDepth 100000 in
set_option maxHeartbeats 2000000 in
theorem fsum_any {j:Nat} (w:World) (v:Value) (qs:List Rat) (hv:VecAt w v qs) (hq:∀ i,SzK j (qs.getD i 0)) (hcap:1+qs.length*(j+1)<17592186044416) (hl:qs.length≤4096) :
  Calls Tryz.prog 130 #[v] w fun e w'=>e=.returned (fracV (sumTo (fun i=>qs.getD i 0) qs.length))∧Below w.heap.size w w':=by
 have h1:=fun W T (hT:Bx W T 229 (fcs 0)) (hin:In (w.heap.size+1) (w.alloc (.cells #[.int .u64 0,.string ⟨#[]⟩,.bool false,.int .u64 0,.string ⟨#[]⟩] 72)) W) (hN:w.heap.size+1≤T)=>feach_any (j:=j) (w.heap.size+1) (w.alloc (.cells #[.int .u64 0,.string ⟨#[]⟩,.bool false,.int .u64 0,.string ⟨#[]⟩] 72)) W T v qs (fun i=>qs.getD i 0) (hv.call ((Below.refl _ _).alloc (Nat.le_refl _) _)) (fun _=>rfl) hT hq hcap hl hin hN (by rw[World.size_alloc];exact Nat.le_refl _)
 obtain⟨a,k,rfl⟩:=hv.shape
 obtain⟨z,hz⟩:∃ z,z=sumTo (fun i=>qs.getD i 0) qs.length:=⟨_,rfl⟩
 rw[←hz] at h1 ⊢
 obtain⟨n,hn⟩:∃ n,n=qs.length:=⟨_,rfl⟩
 rw[←hn] at h1 ⊢
 obtain⟨Z,hZ⟩:∃ Z,Z=w.heap.size:=⟨_,rfl⟩
 have HX:=Lib.hid hZ
 obtain⟨N1,N2,N3,N4,N5,hn1,hn2⟩:∃ A1 A2 A3 A4 A5,fracV z=.agg #[.int .u64 A1,.string A2,.bool A3,.int .u64 A4,.string A5]∧fcs z=[.int .u64 A1,.string A2,.bool A3,.int .u64 A4,.string A5]:=⟨_,_,_,_,_,rfl,rfl⟩
 rw[hn2] at h1
 rw[hn1]
 clear hz hn hv hq hcap hn1 hn2
 go_enter Tryz.func130,Tryz.ntmps130
 go_wp2_with fail
 ((with_reducible refine(h1 _ _ ?_ ?_ ?_).mono ?_))
 ·exact Bx.new_at _ _ _ (by simp)
 ·exact(In.of (w.alloc (.cells #[.int .u64 0,.string ⟨#[]⟩,.bool false,.int .u64 0,.string ⟨#[]⟩] 72)) (by rw[World.size_alloc])).alloc _
 ·exact Nat.le_refl _
 rintro e w2 ⟨rfl,hT,hin⟩
 have bq:Bx w2 Z 72 [.int .u64 0,.string ⟨#[]⟩,.bool false,.int .u64 0,.string ⟨#[]⟩]:=Bx.below (Bx.new_at w #[.int .u64 0,.string ⟨#[]⟩,.bool false,.int .u64 0,.string ⟨#[]⟩] 72 hZ) hin.bel (by omega)
 have hin2:In Z w w2:=hin.out (by rw[hZ];exact(In.self w).alloc _) (by omega)
 rw[←hZ] at hT ⊢
 clear hZ hin h1
 have s0:=hT.c0
 have s1:=hT.c1
 have s2:=hT.c2
 have s3:=hT.c3
 have s4:=hT.c4
 have sl:=hT.lt
 have q0:=bq.c0
 have q1:=bq.c1
 have q2:=bq.c2
 have q3:=bq.c3
 have q4:=bq.c4
 have f0:=bq.frozen 0
 have f1:=bq.frozen 1
 have f2:=bq.frozen 2
 have f3:=bq.frozen 3
 have f4:=bq.frozen 4
 have ql:=bq.lt
 have K1:=Lib.hid (((((bq.set 0 (.int .u64 N1)).set 1 (.string N2)).set 2 (.bool N3)).set 3 (.int .u64 N4)).set 4 (.string N5))
 have K2:=Lib.hid (((((hin2.setCell (p:=⟨Z,0,none⟩) (Nat.le_refl _) (.int .u64 N1)).setCell (p:=⟨Z,1,none⟩) (Nat.le_refl _) (.string N2)).setCell (p:=⟨Z,2,none⟩) (Nat.le_refl _) (.bool N3)).setCell (p:=⟨Z,3,none⟩) (Nat.le_refl _) (.int .u64 N4)).setCell (p:=⟨Z,4,none⟩) (Nat.le_refl _) (.string N5))
 clear hT bq hin2
 go_wp2_with fail
 have k1:=K1.out
 have k2:=K2.out
 clear K1 K2 s0 s1 s2 s3 s4 sl q0 q1 q2 q3 q4 f0 f1 f2 f3 f4 ql
 generalize ((((w2.setCell ⟨Z,0,none⟩ (.int .u64 N1)).setCell ⟨Z,1,none⟩ (.string N2)).setCell ⟨Z,2,none⟩ (.bool N3)).setCell ⟨Z,3,none⟩ (.int .u64 N4)).setCell ⟨Z,4,none⟩ (.string N5)=W5 at *
 have e0:W5.cell? ⟨Z,0,none⟩=some (.int .u64 N1):=k1.cell 0
 have e1:W5.cell? ⟨Z,1,none⟩=some (.string N2):=k1.cell 1
 have e2:W5.cell? ⟨Z,2,none⟩=some (.bool N3):=k1.cell 2
 have e3:W5.cell? ⟨Z,3,none⟩=some (.int .u64 N4):=k1.cell 3
 have e4:W5.cell? ⟨Z,4,none⟩=some (.string N5):=k1.cell 4
 refine bodyPost_ret (v:=.agg #[.int .u64 N1,.string N2,.bool N3,.int .u64 N4,.string N5]) ?_ rfl ⟨rfl,by rw[←HX.out];exact k2.bel⟩
 simp[results,Tryz.results130,go_sem,e0,e1,e2,e3,e4]
end Gus
end
section
namespace Gus
open Go Go.RowKit Go.Proofs
def dotV (qs ps:List Rat) (n:Nat):Rat:=sumTo (fun i=>qs.getD i 0*ps.getD i 0) n
theorem sumTo_congr {F G:Nat→Rat}:∀ n,(∀ i,i<n→F i=G i)→sumTo F n=sumTo G n
 | 0,_=>rfl
 | n+1,h=>by rw[sumTo,sumTo,sumTo_congr n (fun i hi=>h i (by omega)),h n (by omega)]
set_option maxRecDepth 100000 in
set_option maxHeartbeats 2000000 in
theorem vdot_ok {j l:Nat} (w:World) (x y:Value) (qs ps:List Rat) (n:Nat) (hx:VecAt w x qs) (hy:VecAt w y ps) (hl:qs.length=n) (hl':ps.length=n) (hn:n≤2048) (hq:∀ i,SzK j (qs.getD i 0)) (hp:∀ i,SzK l (ps.getD i 0)) (hcap:1+n*(j+l+1)<17592186044416) :
  Calls Tryz.prog 85 #[x,y] w fun e w'=>e=.returned (.tuple #[fracV (dotV qs ps n),.int .i64 0])∧Below w.heap.size w w':=by
 have eg:∀ args w,(callFunc 39 args).run Tryz.prog w=.ok (.enter 39 args) w:=enters_of Tryz.func39 (by kernel_rfl) rfl
 have hjl:0<n→j+l+1≤n*(j+l+1):=fun h=>Nat.le_mul_of_pos_left _ h
 have h1:=fun W (hb:Below w.heap.size w W)=>veach_any (·*·) W x y qs ps n 39 #[] (hx.call hb) (hy.call hb) hl hl' hn eg (fun i W2 hi _=>fmul_any _ _ (hq i) (hp i) (by have:=hjl (by omega);omega) W2)
 obtain⟨ms,hms⟩:∃ ms,ms=(List.range n).map fun i=>qs.getD i 0*ps.getD i 0:=⟨_,rfl⟩
 have hml:ms.length=n:=by rw[hms];simp
 have hmi:∀ i,i<n→ms.getD i 0=qs.getD i 0*ps.getD i 0:=fun i hi=>by
  rw[hms,List.getD_eq_getElem?_getD,List.getElem?_map,List.getElem?_range hi];rfl
 have hmz:∀ i,SzK (j+l) (ms.getD i 0):=fun i=>by
  by_cases hi:i<n
  ·rw[hmi i hi];exact(hq i).mul (hp i)
  ·rw[List.getD_eq_getElem?_getD,List.getElem?_eq_none (by omega)]
   exact SzK.zero.mono (by have:=(hq 0).pos;omega)
 rw[←hms] at h1
 have h2:=fun W v (h:VecAt W v ms)=>fsum_any (j:=j+l) W v ms h hmz (by rw[hml];exact hcap) (by omega)
 rw[hml,sumTo_congr n hmi] at h2
 unfold dotV
 obtain⟨z,hz⟩:∃ z,z=sumTo (fun i=>qs.getD i 0*ps.getD i 0) n:=⟨_,rfl⟩
 rw[←hz] at h2 ⊢
 obtain⟨a,k,rfl⟩:=hx.shape
 obtain⟨a',k',rfl⟩:=hy.shape
 rw[hl,hl'] at h1
 rw[hl,hl']
 obtain⟨X,hX⟩:∃ X,X=w.heap.size:=⟨_,rfl⟩
 have HX:=Lib.hid hX
 have HML:=Lib.hid hml
 clear hx hy hl hl' hq hp hcap hjl hms hml hmi hmz hz eg
 go_enter Tryz.func85,Tryz.ntmps85
 go_wp2_with fail
 ((with_reducible refine(h1 _ ?_).mono ?_))
 ·exact((In.self w).alloc _).bel
 rintro e w2 ⟨⟨d,rfl,hd⟩,hb⟩
 have hin:=((In.self w).alloc (.cells #[.int .u64 0,.string ⟨#[]⟩,.bool false,.int .u64 0,.string ⟨#[]⟩] 72)).call hb
 have bq:=(Bx.new_at w #[.int .u64 0,.string ⟨#[]⟩,.bool false,.int .u64 0,.string ⟨#[]⟩] 72 hX).call hb
 obtain⟨da,dk,rfl⟩:=hd.shape
 rw[HML.out] at hd ⊢
 rw[←hX]
 clear hX hb h1
 go_wp2_with fail
 ((with_reducible refine(h2 _ _ hd).mono ?_))
 rintro e w3 ⟨rfl,hb⟩
 replace hin:=hin.call hb
 replace bq:=bq.call hb
 clear hb h2 hd
 ((obtain⟨A1,A2,A3,A4,A5,hA⟩:∃ A1 A2 A3 A4 A5,fracV z=.agg #[.int .u64 A1,.string A2,.bool A3,.int .u64 A4,.string A5]:=⟨_,_,_,_,_,rfl⟩);
       ((try rw[hA]));
       (have HA:=Lib.hid hA);
       clear hA;
       have q0:=bq.c0;
       have q1:=bq.c1;
       have q2:=bq.c2;
       have q3:=bq.c3;
       have q4:=bq.c4;
       (have f0:=bq.frozen 0);
       (have f1:=bq.frozen 1);
       (have f2:=bq.frozen 2);
       (have f3:=bq.frozen 3);
       (have f4:=bq.frozen 4);
       have ql:=bq.lt;
       (have K1:=Lib.hid ((((((bq.set 0 (.int .u64 A1)).set 1 (.string A2)).set 2 (.bool A3)).set 3 (.int .u64 A4)).set 4 (.string A5))));
       (have K2:=Lib.hid ((((((hin.setCell (p:=⟨X,0,none⟩) (by first |(simp;done)|(have:=HX.out;simp;omega)) (.int .u64 A1)).setCell (p:=⟨X,1,none⟩) (by first |(simp;done)|(have:=HX.out;simp;omega)) (.string A2)).setCell (p:=⟨X,2,none⟩) (by first |(simp;done)|(have:=HX.out;simp;omega)) (.bool A3)).setCell (p:=⟨X,3,none⟩) (by first |(simp;done)|(have:=HX.out;simp;omega)) (.int .u64 A4)).setCell (p:=⟨X,4,none⟩) (by first |(simp;done)|(have:=HX.out;simp;omega)) (.string A5))));
       clear bq hin;
       go_wp2_with fail;
       have k1:=K1.out;
       have k2:=K2.out;
       clear q0 q1 q2 q3 q4 f0 f1 f2 f3 f4 ql K1 K2;
       (generalize (((((w3.setCell ⟨X,0,none⟩ (.int .u64 A1)).setCell ⟨X,1,none⟩ (.string A2)).setCell ⟨X,2,none⟩ (.bool A3)).setCell ⟨X,3,none⟩ (.int .u64 A4)).setCell ⟨X,4,none⟩ (.string A5))=W5 at *);
       (have e0:W5.cell? ⟨X,0,none⟩=some (.int .u64 A1):=k1.cell 0);
       (have e1:W5.cell? ⟨X,1,none⟩=some (.string A2):=k1.cell 1);
       (have e2:W5.cell? ⟨X,2,none⟩=some (.bool A3):=k1.cell 2);
       (have e3:W5.cell? ⟨X,3,none⟩=some (.int .u64 A4):=k1.cell 3);
       (have e4:W5.cell? ⟨X,4,none⟩=some (.string A5):=k1.cell 4);
       have hz:=k2.bel;
       have hA:=HA.out;
       (refine bodyPost_ret (v:=.tuple #[.agg #[.int .u64 A1,.string A2,.bool A3,.int .u64 A4,.string A5],.int .i64 0]) ?_ rfl ⟨by rw[hA],hz⟩);
       (simp[results,Tryz.results85,go_sem,e0,e1,e2,e3,e4]))
end Gus
end
section
namespace Gus
open Go Go.RowKit Go.Proofs
def rowV (c:Nat) (qs:List Rat) (i:Nat):List Rat:=(List.range c).map fun t=>mvals c qs i t
theorem rowV_length (c:Nat) (qs:List Rat) (i:Nat):(rowV c qs i).length=c:=by simp[rowV]
theorem rowV_getD {c:Nat} (qs:List Rat) (i:Nat) {t:Nat} (ht:t<c):(rowV c qs i).getD t 0=mvals c qs i t:=by
 rw[rowV,List.getD_eq_getElem?_getD,List.getElem?_map,List.getElem?_range ht];rfl
set_option maxRecDepth 100000 in
set_option maxHeartbeats 2000000 in
theorem mrow2_any (w:World) (v:Value) (r c i:Nat) (qs:List Rat) (hM:MatAt w v r c qs) (hk:CapOk v) (hi:i<r) (hr:r≤2048) (hc:c≤2048) :
  Calls Tryz.prog 86 #[v,.int .i64 i] w fun e w'=>(∃ x,e=.returned x∧VecAt w' x (rowV c qs i))∧Below w.heap.size w w':=by
 obtain⟨x,rfl,hql,hvx⟩:=hM
 obtain⟨a,k,rfl⟩:=hvx.shape
 have hnk:qs.length≤k:=by
  obtain⟨p,q,a2,n2,k2,e,h⟩:=hk
  simp only[Value.agg.injEq] at e
  have e2:=congrArg Array.toList e
  simp only[List.cons.injEq,Value.slice.injEq,and_true] at e2
  omega
 obtain⟨n,hn⟩:∃ n,n=qs.length:=⟨_,rfl⟩
 have hn4:n≤4194304:=by rw[hn,hql];exact Nat.mul_le_mul hr hc
 have hlt:(i+1)*c≤n:=by rw[hn,hql];exact Nat.mul_le_mul_right c (by omega)
 obtain⟨d,hd⟩:∃ d,d=i*c:=⟨_,rfl⟩
 have hd2:(i+1)*c=d+c:=by rw[hd,Nat.add_mul,Nat.one_mul]
 rw[hd2] at hlt
 have hw1:IntKind.i64.wrap ((i:Int)*c)=(d:Int):=by rw[hd,←Int.natCast_mul];exact IntWalk.i64_in _ (by omega)
 have hw0:IntKind.i64.wrap ((i:Int)+1)=((i+1:Nat):Int):=IntWalk.i64_in _ (by omega)
 obtain⟨i1,hi1⟩:∃ i1,i1=i+1:=⟨_,rfl⟩
 rw[←hi1] at hw0 hd2
 obtain⟨u,hu⟩:∃ u,u=d+c:=⟨_,rfl⟩
 have hw2:IntKind.i64.wrap ((i1:Int)*c)=(u:Int):=by rw[hu,←hd2,←Int.natCast_mul];exact IntWalk.i64_in _ (by rw[hd2];omega)
 rw[←hn] at hnk hvx ⊢
 have k1:(d:Int)≤u:=by omega
 have k2:(u:Int)≤k:=by omega
 have k3:(0:Int)≤d:=by omega
 have HV:=Lib.hid hvx
 have HN:=Lib.hid hn
 have HD:=Lib.hid hd
 have HE:Hid (c=0→∀ x,VecAt w (.slice x 0 0) (rowV c qs i)):=Lib.hid fun h x=>by
  have:rowV c qs i=[]:=by unfold rowV;rw[h];rfl
  rw[this];exact VecAt.nil w x 0
 have HG:Hid (∀ b off kk,a=some ⟨b,off,none⟩→VecAt w (.slice (some ⟨b,off+d*5,none⟩) c kk) (rowV c qs i)):=Lib.hid fun b off kk h=>by
  refine⟨_,kk,by rw[rowV_length],fun t ht=>?_⟩
  rw[rowV_length] at ht
  obtain⟨a',k',e1,e2⟩:=hvx
  simp only[Value.slice.injEq] at e1
  obtain⟨b2,off2,e3,e4,e5⟩:=e2 (d+t) (by omega)
  rw[←e1.1,h] at e3
  simp only[Option.some.injEq,Addr.mk.injEq,and_true] at e3
  obtain⟨rfl,rfl⟩:=e3
  refine⟨b,off+d*5,rfl,e4,fun j hj=>?_,e5.typed⟩
  rw[rowV_getD qs i ht,show off+d*5+t*5+j=off+(d+t)*5+j by omega,e5 j hj,hd];rfl
 clear hd hd2 hn hi1 hvx hql hk
 go_enter Tryz.func86,Tryz.ntmps86
 go_upto_region 1 with fail
 obtain⟨W1,hW1⟩:∃ W1,W1=w.alloc (.cells #[.int .i64 r,.int .i64 c,.slice a n k] 37):=⟨_,rfl⟩
 obtain⟨X,hX⟩:∃ X,X=w.heap.size:=⟨_,rfl⟩
 have hin:In w.heap.size w W1:=by rw[hW1];exact(In.self w).alloc _
 have bx:=Bx.new_at w #[.int .i64 r,.int .i64 c,.slice a n k] 37 hX
 rw[←hW1] at bx ⊢
 rw[←hX]
 have x0:=bx.c0
 have x1:=bx.c1
 have x2:=bx.c2
 have xl:=bx.lt
 clear hW1 hX
 have h:=In.self W1
 have hcc:=hc
 have hc:=h.cell
 refine tfw 10 ?_;refine tset ?_;(repeat (first | refine tfs ?_))
 (try clear hc hf h);intro u w' h ha hdi;replace h:=tsz h.ins;replace ha:=tah ha;have hc:=h.cell;have hf:=h.frozen
 (try obtain ha:=ha);(try dsimp only);simp only[ha];clear ha hdi
 have hin2:=hin.call h.bel
 have bx2:=bx.call h.bel
 clear h hc hf hin bx x0 x1 x2 xl
 have x2:=bx2.c2
 have xl:=bx2.lt
 by_cases hn0:n=0
 ·obtain rfl:c=0:=by omega
  obtain rfl:d=0:=by omega
  subst hn0
  have HE2:=Lib.hid (fun x=>(HE.out rfl x).call hin2.bel)
  clear HE HG HV HD
  go_wp2_with fail
  all_goals
   go_ret
   first | exact⟨⟨_,rfl,HE2.out _⟩,hin2.bel⟩| exact⟨HE2.out _,hin2.bel⟩
 ·obtain⟨b,off,rfl⟩:∃ b off,a=some ⟨b,off,none⟩:=by
   obtain⟨a',k',e1,e2⟩:=HV.out
   simp only[Value.slice.injEq] at e1
   obtain⟨b,off,e3,_⟩:=e2 0 (by rw[←HN.out];omega)
   exact⟨b,off,e1.1.trans e3⟩
  have HG2:=Lib.hid (fun kk=>(HG.out b off kk rfl).call hin2.bel)
  have HE2:=Lib.hid (fun h x=>(HE.out h x).call hin2.bel)
  clear HE HG HV
  go_wp2_with fail
  all_goals
   go_ret
   first | exact⟨⟨_,rfl,HG2.out c⟩,hin2.bel⟩| exact⟨⟨.slice (some ⟨b,off,none⟩) 0 0,rfl,(by
     have h0:c=0:=by first | assumption | omega
     have h1:=HE2.out h0 (some ⟨b,off,none⟩)
     rw[h0] at h1
     exact h1)⟩,hin2.bel⟩
end Gus
end
section
namespace Gus
open Go Go.RowKit Go.Proofs
set_option maxRecDepth 100000 in
set_option maxHeartbeats 2000000 in
theorem mall_one (w:World) (b r c n k:Nat) (a:Option Addr) (hB:Bx w b 37 [.int .i64 r,.int .i64 c,.slice a n k]) (h1:checkM r c n=0) :
  Calls Tryz.prog 83 #[.slice (some ⟨b,0,none⟩) 1 1] w fun e w'=>e=.returned (.int .i64 0)∧Below w.heap.size w w':=by
 have c1:=fun W=>mcheck_any r c a n k W
 rw[h1] at c1
 have HB:=Lib.hid hB
 have hbw:=hB.lt
 clear h1 hB
 go_enter Tryz.func83,Tryz.ntmps83
 go_wp2_with fail
 go_loopw [8] (fun v8 wr=>∃ p:Nat,p≤1∧v8=.int .i64 p∧In w.heap.size w wr) (fun v8 _=>1 - (RowKit.intOf v8).toNat)
 case atStart=>exact⟨0,by decide,rfl,In.self _⟩
 case round=>
  obtain⟨p,hp,rfl,hin⟩:=hrel
  have hbr:b<wr.heap.size:=by have:=hin.siz;omega
  have x0:=hin.cell b 0 hbw
  have x1:=hin.cell b 1 hbw
  have x2:=hin.cell b 2 hbw
  rw[HB.out.c0] at x0
  rw[HB.out.c1] at x1
  rw[HB.out.c2] at x2
  match p,hp with
  | 0,_=>
   go_wp2_with fail
   ((with_reducible refine(c1 _).mono ?_))
   rintro e w2 ⟨rfl,hb⟩
   have hin2:=(hin.alloc (.cells #[.int .i64 r,.int .i64 c,.slice a n k] 37)).call hb
   clear hb hin x0 x1 x2
   go_wp2_with fail
   exact⟨⟨1,by decide,rfl,hin2⟩,by simp[RowKit.intOf]⟩
  | 1,_=>
   clear x0 x1 x2
   go_wp2_with fail
   go_ret
   exact⟨rfl,hin.bel⟩
def mappL (r c:Nat) (qs ps:List Rat):List Rat:=(List.range r).map fun i=>dotV (rowV c qs i) ps c
def VRes (bad:Bool) (L:List Rat) (w:World) (v:Value) (e:Int):Prop:=(bad=true∧e=1∧v=.slice none 0 0)∨(bad=false∧e=0∧VecAt w v L)
theorem VRes.call {bad:Bool} {L:List Rat} {w w':World} {v:Value} {e:Int} (h:VRes bad L w v e) (hb:Below w.heap.size w w'):VRes bad L w' v e:=h.imp id fun h=>⟨h.1,h.2.1,h.2.2.call hb⟩
set_option maxRecDepth 100000 in
set_option maxHeartbeats 4000000 in
theorem mapp_any {j l:Nat} (w:World) (x y:Value) (r c m:Nat) (qs ps:List Rat) (hx:MatAt w x r c qs) (hk:CapOk x) (hy:VecAt w y ps) (hl:ps.length=m) (hr:r≤2048) (hc:c≤2048) (hm:m≤2048) (hq:∀ i,SzK j (qs.getD i 0)) (hp:∀ i,SzK l (ps.getD i 0)) (hcap:1+c*(j+l+1)<17592186044416) :
  Calls Tryz.prog 37 #[x,y] w fun e w'=>(∃ d e',e=.returned (.tuple #[d,.int .i64 e'])∧VRes (!decide (m=c)) (mappL r c qs ps) w' d e')∧Below w.heap.size w w':=by
 have k1:checkM (r:Int) c qs.length=0:=by rw[hx.len2];exact checkM_ok hr hc
 have hrow:=fun W i (hi:i<r) (hb:Below w.heap.size w W)=>mrow2_any W x r c i qs (hx.call hb) hk hi hr hc
 have hdot:=fun W (u:Value) i (hu:VecAt W u (rowV c qs i)) (hmc:m=c) (hb:Below w.heap.size w W)=>vdot_ok (j:=j) (l:=l) W u y (rowV c qs i) ps c hu (hy.call hb) (rowV_length c qs i) (hl.trans hmc) hc (fun t=>by
  by_cases ht:t<c
  ·rw[rowV_getD qs i ht];exact hq _
  ·rw[List.getD_eq_getElem?_getD,List.getElem?_eq_none (by rw[rowV_length];omega)]
   exact SzK.zero.mono (hq 0).pos) hp hcap
 obtain⟨a,k,rfl⟩:=hx.shape
 obtain⟨a',k',rfl⟩:=hy.shape
 rw[hl] at hdot ⊢
 have c1:=fun W b h=>mall_one W b r c qs.length k a h k1
 have c2:=fun W b T h=>short_one W b m k' T a' h hm
 obtain⟨n,hn⟩:∃ n,n=qs.length:=⟨_,rfl⟩
 rw[←hn] at c1 hrow ⊢
 have hmk:=mk_vec r (by omega)
 obtain⟨fc,hfc⟩:∃ fc,fc=fcl (List.replicate r 0):=⟨_,rfl⟩
 rw[←hfc] at hmk
 have HF:=Lib.hid hfc
 obtain⟨X,hX⟩:∃ X,X=w.heap.size:=⟨_,rfl⟩
 have HX:=Lib.hid hX
 have HROW:=Lib.hid hrow
 have HDOT:=Lib.hid hdot
 clear k1 hn hx hy hl hk hq hp hcap hfc hrow hdot
 go_enter Tryz.func37,Tryz.ntmps37
 go_wp2_with fail
 ((with_reducible refine(c1 _ _ ?_).mono ?_))
 ·exact Bx.new_at _ _ _ (by simp)
 rintro e w2 ⟨rfl,hb⟩
 have hin:=(((In.self w).alloc (.cells #[.int .i64 r,.int .i64 c,.slice a n k] 37)).alloc (.cells #[.int .i64 r,.int .i64 c,.slice a n k] 37)).call hb
 have bx:=((Bx.new_at w #[.int .i64 r,.int .i64 c,.slice a n k] 37 hX).alloc (.cells #[.int .i64 r,.int .i64 c,.slice a n k] 37)).call hb
 rw[←hX]
 clear hX hb c1
 go_wp2_with fail
 ((with_reducible refine(c2 _ _ 32 ?_).mono ?_))
 ·exact Bx.new_at _ _ _ rfl
 rintro e w3 ⟨rfl,hb⟩
 replace hin:=(hin.alloc (.cells #[.slice a' m k'] 32)).call hb
 replace bx:=(bx.alloc (.cells #[.slice a' m k'] 32)).call hb
 clear hb c2
 have x0:=bx.c0
 have x1:=bx.c1
 have xl:=bx.lt
 by_cases hmc:m=c
 ·have h2:((m:Int) != c)=false:=by rw[hmc];simp
  have HMC:=Lib.hid hmc
  clear hmc
  go_upto_region 10 with fail
  obtain⟨g,hg⟩:∃ g,g=w3.heap.size:=⟨_,rfl⟩
  have hXg:X<g:=by omega
  have bv:VBx (w3.alloc (.cells fc.toArray 72)) g (pv (fun i=>dotV (rowV c qs i) ps c) r 0):=by
   have:=Bx.new_at w3 fc.toArray 72 hg
   show Bx _ g 72 (fcl _)
   rw[pv_zero,←HF.out];exact this
  replace bx:=bx.alloc (.cells fc.toArray 72)
  replace hin:=hin.alloc (.cells fc.toArray 72)
  rw[←hg]
  clear hg hmk x0 x1 xl h2
  generalize w3.alloc (.cells fc.toArray 72)=W1 at *
  have x0:=bx.c0
  have xl:=bx.lt
  go_wp2_with fail
  clear x0 xl
  go_loopw [32] (fun v32 wr=>∃ i:Nat,i≤r∧v32=.int .i64 i∧In w.heap.size w wr∧Bx wr X 37 [.int .i64 r,.int .i64 c,.slice a n k]∧VBx wr g (pv (fun i=>dotV (rowV c qs i) ps c) r i)) (fun v32 _=>r - (RowKit.intOf v32).toNat)
  case atStart=>exact⟨0,Nat.zero_le _,rfl,hin,bx,bv⟩
  case round=>
   clear hin bx bv
   obtain⟨i,hi,rfl,hin,bx,bv⟩:=hrel
   by_cases hir:i<r
   ·have hiI:(i:Int)<r:=by omega
    have hi0:(0:Int)≤i:=by omega
    have hiw:IntKind.i64.wrap ((i:Int)+1)=((i+1:Nat):Int):=IntWalk.i64_in _ (by omega)
    have hrow:=HROW.out wr i hir hin.bel
    have x0:=bx.c0
    have x1:=bx.c1
    have x2:=bx.c2
    have xl:=bx.lt
    go_wp2_with fail
    (with_reducible refine hrow.mono ?_)
    rintro e w4 ⟨⟨u,rfl,hu⟩,hb⟩
    replace hin:=hin.call hb
    replace bx:=bx.call hb
    replace bv:=bv.call hb
    have hdot:=HDOT.out w4 u i hu HMC.out hin.bel
    obtain⟨q,hq⟩:∃ q,q=dotV (rowV c qs i) ps c:=⟨_,rfl⟩
    rw[←hq] at hdot
    have HQ:=Lib.hid hq
    clear hq hb hu hrow x0 x1 x2 xl
    go_wp2_with fail
    (with_reducible refine hdot.mono ?_)
    rintro e w5 ⟨rfl,hb⟩
    have hin3:=hin.call hb
    have bx3:=bx.call hb
    have bv3:=bv.call hb
    have hlt:i<(pv (fun i=>dotV (rowV c qs i) ps c) r i).length:=by rw[pv_length];exact hir
    obtain⟨_,_,_,_,_,_,c0,c1,c2,c3,c4,f0,f1,f2,f3,f4⟩:=VBx.cells bv3 hlt
    have hgl3:=bv3.lt
    have hs:=VBx.set bv3 i q hlt
    rw[show(pv (fun i=>dotV (rowV c qs i) ps c) r i).set i q=pv (fun i=>dotV (rowV c qs i) ps c) r (i+1) by rw[HQ.out];exact pv_set _ _ _] at hs
    have H1:=Lib.hid hs
    have H2:=Lib.hid (hin3.put5 (g:=g) (by have:=HX.out;omega) i q)
    have H4:=Lib.hid (((((bx3.other (a:=⟨g,i*5,none⟩) (by simp;omega) (.int .u64 (lo q.num.natAbs))).other (a:=⟨g,i*5+1,none⟩) (by simp;omega) (.string (bg q.num.natAbs))).other (a:=⟨g,i*5+2,none⟩) (by simp;omega) (.bool (decide (q.num<0)))).other (a:=⟨g,i*5+3,none⟩) (by simp;omega) (.int .u64 (lo (q.den - 1)))).other (a:=⟨g,i*5+4,none⟩) (by simp;omega) (.string (bg (q.den - 1))))
    clear hs hin3 bx3 bv3 hin bx bv hb hdot
    go_wp2_with fail
    exact⟨⟨i+1,by omega,by go_num,H2.out,H4.out,H1.out⟩,by simp[RowKit.intOf];omega⟩
   ·obtain rfl:i=r:=by omega
    have hiI:¬ (i:Int)<i:=by omega
    rw[pv_full] at bv
    have hv:VecAt wr (.slice (some ⟨g,0,none⟩) i i) (mappL i c qs ps):=VBx.at bv i (by simp) i
    have H1:=Lib.hid hv
    have H2:=Lib.hid hin
    clear bv hin hv bx
    go_wp2_with fail
    exact bodyPost_ret (v:=.tuple #[.slice (some ⟨g,0,none⟩) i i,.int .i64 0]) (by simp[results,Tryz.results37,go_sem]) rfl ⟨⟨_,_,rfl,.inr ⟨by simp[HMC.out],rfl,H1.out⟩⟩,H2.out.bel⟩
 ·have h2:((m:Int) != c)=true:=by
   have:¬ (m:Int)=c:=by omega
   simpa using this
  have HMC:Hid ((!decide (m=c))=true):=Lib.hid (by simp[hmc])
  clear hmc
  go_wp2_with fail
  exact bodyPost_ret (v:=.tuple #[.slice none 0 0,.int .i64 1]) (by simp[results,Tryz.results37,go_sem]) rfl ⟨⟨_,_,rfl,.inl ⟨HMC.out,rfl,rfl⟩⟩,hin.bel⟩
end Gus
end
