/- Proved here: parts of the proof: KMeb KMad KMtu KMmu KVdt. Conditions: those that each theorem states. -/
import Derived.Test.YthblojaeoiemmaaGreatDoorKPrtCQ
import Derived.Handy
section
namespace Gus
open Go Go.RowKit Go.Proofs
theorem DRes.put3 {bad:Bool} {nr nc:Nat} {F:Nat→Nat→Rat} {w:World} {v:Value} {e:Int} {n k n' k':Nat} {p q p' q':Int} {ao ao':Option Addr} {S:Nat} (h:DRes bad nr nc F w v e) (hS:Bx w S 37 [.int .i64 p,.int .i64 q,.slice ao n k]) :
  DRes bad nr nc F (((w.setCell ⟨S,0,none⟩ (.int .i64 p')).setCell ⟨S,1,none⟩ (.int .i64 q')).setCell ⟨S,2,none⟩ (.slice ao' n' k')) v e:=
 ⟨h.1,h.2.imp id fun h=>⟨h.1,h.2.1,h.2.2.put3 hS⟩⟩
end Gus
end
section
namespace Gus
open Go Go.RowKit Go.Proofs
def sumTo (F:Nat→Rat):Nat→Rat
 | 0=>0
 | n+1=>sumTo F n+F n
theorem sumTo_szk {F:Nat→Rat} {j:Nat} (h:∀ t,SzK j (F t)):∀ n,SzK (1+n*(j+1)) (sumTo F n)
 | 0=>by rw[Nat.zero_mul];exact SzK.zero
 | n+1=>by
  have:=(sumTo_szk h n).add (h n)
  rw[show 1+(n+1)*(j+1)=1+n*(j+1)+j+1 by rw[Nat.add_mul];omega]
  exact this
set_option maxRecDepth 100000 in
set_option maxHeartbeats 4000000 in
theorem mmul1_any {j l:Nat} (W:World) (ba bb r c c' n k n' k' i m:Nat) (a a':Option Addr) (qs ps:List Rat) (hA:Bx W ba 37 [.int .i64 r,.int .i64 c,.slice a n k]) (hB:Bx W bb 37 [.int .i64 c,.int .i64 c',.slice a' n' k'])
  (ha:MatAt W (.agg #[.int .i64 r,.int .i64 c,.slice a n k]) r c qs) (hb:MatAt W (.agg #[.int .i64 c,.int .i64 c',.slice a' n' k']) c c' ps) (hi:i<r) (hm:m<c') (hr:r≤2048) (hc:c≤2048) (hc':c'≤2048) (hq:∀ i,SzK j (qs.getD i 0)) (hp:∀ i,SzK l (ps.getD i 0)) (hcap:1+c*(j+l+1)<17592186044416) :
  Calls Tryz.prog 129 #[.int .i64 i,.int .i64 m,.pointer (some ⟨ba,0,none⟩),.pointer (some ⟨bb,0,none⟩)] W fun e w'=>e=.returned (fracV (sumTo (fun t=>mvals c qs i t*mvals c' ps t m) c))∧Below W.heap.size W w':=by
 have h1:=fun t W2 (ht:t<c) (hb:Below W.heap.size W W2)=>mel_any W2 _ r c i t qs (ha.call hb) hi ht hr hc
 have h2:=fun t W2 (ht:t<c) (hb2:Below W.heap.size W W2)=>mel_any W2 _ c c' t m ps (hb.call hb2) ht hm hc hc'
 have HA0:=Lib.hid hA.lt
 have HB0:=Lib.hid hB.lt
 obtain⟨F,hF⟩:∃ F,F=fun t=>mvals c qs i t*mvals c' ps t m:=⟨_,rfl⟩
 rw[←hF]
 have hsz:=sumTo_szk (F:=F) (j:=j+l) (fun t=>by rw[hF];exact(hq _).mul (hp _))
 have hjl:0<c→j+l+1≤c*(j+l+1):=fun h=>Nat.le_mul_of_pos_left _ h
 have h3:∀ t W2,t<c→Calls Tryz.prog 39 #[fracV (qs.getD (i*c+t) 0),fracV (ps.getD (t*c'+m) 0)] W2 fun e w'=>e=.returned (fracV (F t))∧Below W2.heap.size W2 w':=fun t W2 ht=>by
  have:=hjl (by omega)
  rw[hF];exact fmul_any _ _ (hq _) (hp _) (by omega) W2
 have h4:∀ t W2,t<c→Calls Tryz.prog 74 #[fracV (sumTo F t),fracV (F t)] W2 fun e w'=>e=.returned (fracV (sumTo F (t+1)))∧Below W2.heap.size W2 w':=fun t W2 ht=>by
  have h6:(t+1)*(j+l+1)≤c*(j+l+1):=Nat.mul_le_mul_right _ (by omega)
  rw[Nat.add_mul,Nat.one_mul] at h6
  exact fadd_any _ _ (hsz t) (show SzK (j+l) (F t) by rw[hF];exact(hq _).mul (hp _)) (by omega) W2
 obtain⟨Z,hZ⟩:∃ Z,Z=W.heap.size:=⟨_,rfl⟩
 have HX:=Lib.hid hZ
 have H1:=Lib.hid h1
 have H2:=Lib.hid h2
 have H3:=Lib.hid h3
 have H4:=Lib.hid h4
 clear h1 h2 h3 h4 ha hb hsz hF hq hp hjl hcap
 go_enter Tryz.func129,Tryz.ntmps129
 go_upto_region 2 with fail
 have hin:In Z W ((W.alloc (.cells #[.int .u64 0,.string ⟨#[]⟩,.bool false,.int .u64 0,.string ⟨#[]⟩] 72)).alloc (.cells #[.int .u64 0,.string ⟨#[]⟩,.bool false,.int .u64 0,.string ⟨#[]⟩] 72)):=by rw[hZ];exact((In.self W).alloc _).alloc _
 have bq:=(Bx.new_at W #[.int .u64 0,.string ⟨#[]⟩,.bool false,.int .u64 0,.string ⟨#[]⟩] 72 hZ).alloc (.cells #[.int .u64 0,.string ⟨#[]⟩,.bool false,.int .u64 0,.string ⟨#[]⟩] 72)
 have bs:Bx ((W.alloc (.cells #[.int .u64 0,.string ⟨#[]⟩,.bool false,.int .u64 0,.string ⟨#[]⟩] 72)).alloc (.cells #[.int .u64 0,.string ⟨#[]⟩,.bool false,.int .u64 0,.string ⟨#[]⟩] 72)) (Z+1) 72 (fcs (sumTo F 0)):=Bx.new_at (W.alloc (.cells #[.int .u64 0,.string ⟨#[]⟩,.bool false,.int .u64 0,.string ⟨#[]⟩] 72)) #[.int .u64 0,.string ⟨#[]⟩,.bool false,.int .u64 0,.string ⟨#[]⟩] 72 (n:=Z+1) (by rw[World.size_alloc,hZ])
 replace hA:=(hA.alloc (.cells #[.int .u64 0,.string ⟨#[]⟩,.bool false,.int .u64 0,.string ⟨#[]⟩] 72)).alloc (.cells #[.int .u64 0,.string ⟨#[]⟩,.bool false,.int .u64 0,.string ⟨#[]⟩] 72)
 replace hB:=(hB.alloc (.cells #[.int .u64 0,.string ⟨#[]⟩,.bool false,.int .u64 0,.string ⟨#[]⟩] 72)).alloc (.cells #[.int .u64 0,.string ⟨#[]⟩,.bool false,.int .u64 0,.string ⟨#[]⟩] 72)
 have HBZ:Hid (ba<Z∧bb<Z):=Lib.hid (by rw[hZ];exact⟨HA0.out,HB0.out⟩)
 rw[←hZ]
 clear hZ
 generalize (W.alloc (.cells #[.int .u64 0,.string ⟨#[]⟩,.bool false,.int .u64 0,.string ⟨#[]⟩] 72)).alloc (.cells #[.int .u64 0,.string ⟨#[]⟩,.bool false,.int .u64 0,.string ⟨#[]⟩] 72)=W1 at *
 have x0:=hA.c0
 have x1:=hA.c1
 have x2:=hA.c2
 have xl:=hA.lt
 go_wp2_with fail
 clear x0 x1 x2 xl
 go_loopw [12] (fun v12 wr=>∃ t:Nat,t≤c∧v12=.int .i64 t∧In Z W wr∧Bx wr Z 72 [.int .u64 0,.string ⟨#[]⟩,.bool false,.int .u64 0,.string ⟨#[]⟩]∧Bx wr (Z+1) 72 (fcs (sumTo F t))∧Bx wr ba 37 [.int .i64 r,.int .i64 c,.slice a n k]∧Bx wr bb 37 [.int .i64 c,.int .i64 c',.slice a' n' k']) (fun v12 _=>c - (RowKit.intOf v12).toNat)
 case atStart=>exact⟨0,Nat.zero_le _,rfl,hin,bq,bs,hA,hB⟩
 case round=>
  clear hin bq bs hA hB
  obtain⟨t,ht,rfl,hin,bq,bs,hA,hB⟩:=hrel
  obtain⟨S1,S2,S3,S4,S5,hs1,hs2⟩:∃ A1 A2 A3 A4 A5,fracV (sumTo F t)=.agg #[.int .u64 A1,.string A2,.bool A3,.int .u64 A4,.string A5]∧fcs (sumTo F t)=[.int .u64 A1,.string A2,.bool A3,.int .u64 A4,.string A5]:=⟨_,_,_,_,_,rfl,rfl⟩
  rw[hs2] at bs
  by_cases htc:t<c
  ·have htI:(t:Int)<c:=by omega
   have ht0:(0:Int)≤t:=by omega
   have htw:IntKind.i64.wrap ((t:Int)+1)=((t+1:Nat):Int):=IntWalk.i64_in _ (by omega)
   have h1:=fun W2 (h:In wr.heap.size wr W2)=>H1.out t W2 htc (by rw[←HX.out];exact(hin.call h.bel).bel)
   have h2:=fun W2 (h:In wr.heap.size wr W2)=>H2.out t W2 htc (by rw[←HX.out];exact(hin.call h.bel).bel)
   have h3:=fun W2=>H3.out t W2 htc
   have h4:=fun W2=>H4.out t W2 htc
   rw[hs1] at h4
   obtain⟨x,hx⟩:∃ x,x=qs.getD (i*c+t) 0:=⟨_,rfl⟩
   obtain⟨y,hy⟩:∃ y,y=ps.getD (t*c'+m) 0:=⟨_,rfl⟩
   obtain⟨z,hz⟩:∃ z,z=F t:=⟨_,rfl⟩
   obtain⟨s2,hs⟩:∃ s,s=sumTo F (t+1):=⟨_,rfl⟩
   rw[←hx] at h1 h3
   rw[←hy] at h2 h3
   rw[←hz] at h3 h4
   rw[←hs] at h4
   have HS:=Lib.hid hs
   have x0:=hA.c0
   have x1:=hA.c1
   have x2:=hA.c2
   have xl:=hA.lt
   have y0:=hB.c0
   have y1:=hB.c1
   have y2:=hB.c2
   have yl:=hB.lt
   have s0:=bs.c0
   have s1:=bs.c1
   have s2':=bs.c2
   have s3:=bs.c3
   have s4:=bs.c4
   have sl:=bs.lt
   clear hx hy hz hs hs1 hs2
   go_upto_region 5 with fail
   have h:=In.self wr
   have hcc:=hc
   have hc:=h.cell
   refine tfw 11 ?_;refine tset ?_;(repeat (first | refine tfs ?_ |((first |((with_reducible refine flow_pure0 (v:=?_) ?_ ?_ ?_ ?_);rotate_left 1;exact trr;exact trf)|((with_reducible refine flow_pureg (v:=?_) (j:=?_) (b:=?_) ?_ ?_ ?_ ?_);rotate_left 3;exact trr;(focus (intro u w1 hw hd;replace hd:=thn hd;simp[yielded,hd];done))));(focus (intro u w1 hw hd;replace hd:=thn hd;have hc':=hw.cell;go_simp;first |(go_at_call 121;((with_reducible refine(h1 _ hw.ins).mono ?_));rintro e w'' ⟨rfl,hb⟩;refine⟨?_,hb⟩;exact rfl)|(go_at_call 121;((with_reducible refine(h2 _ hw.ins).mono ?_));rintro e w'' ⟨rfl,hb⟩;refine⟨?_,hb⟩;exact rfl)|(go_at_call 39;((with_reducible refine(h3 _).mono ?_));rintro e w'' ⟨rfl,hb⟩;refine⟨?_,hb⟩;exact rfl)|(go_at_call 74;((with_reducible refine(h4 _).mono ?_));rintro e w'' ⟨rfl,hb⟩;refine⟨?_,hb⟩;exact rfl))))| fail))
   (try clear hc hf h);intro u w' h ha hdi;replace h:=tsz h.ins;replace ha:=tah ha;have hc:=h.cell;have hf:=h.frozen
   (try obtain ha:=ha);(try dsimp only);simp only[ha];clear ha hdi
   obtain⟨N1,N2,N3,N4,N5,hn1,hn2⟩:∃ A1 A2 A3 A4 A5,fracV s2=.agg #[.int .u64 A1,.string A2,.bool A3,.int .u64 A4,.string A5]∧fcs s2=[.int .u64 A1,.string A2,.bool A3,.int .u64 A4,.string A5]:=⟨_,_,_,_,_,rfl,rfl⟩
   rw[hn1]
   have hin3:=hin.call h.bel
   have bq3:=bq.call h.bel
   have bs3:=bs.call h.bel
   have hA3:=hA.call h.bel
   have hB3:=hB.call h.bel
   have hab:=HBZ.out
   have f0:=bs3.frozen 0
   have f1:=bs3.frozen 1
   have f2:=bs3.frozen 2
   have f3:=bs3.frozen 3
   have f4:=bs3.frozen 4
   have g0:=bs3.c0
   have g1:=bs3.c1
   have g2:=bs3.c2
   have g3:=bs3.c3
   have g4:=bs3.c4
   have gl:=bs3.lt
   have K1:=Lib.hid (((((bs3.set 0 (.int .u64 N1)).set 1 (.string N2)).set 2 (.bool N3)).set 3 (.int .u64 N4)).set 4 (.string N5))
   have K2:=Lib.hid ((((((bq3.other (a:=⟨Z+1,0,none⟩) (by simp) (.int .u64 N1)).other (a:=⟨Z+1,1,none⟩) (by simp) (.string N2)).other (a:=⟨Z+1,2,none⟩) (by simp) (.bool N3)).other (a:=⟨Z+1,3,none⟩) (by simp) (.int .u64 N4)).other (a:=⟨Z+1,4,none⟩) (by simp) (.string N5)))
   have K3:=Lib.hid ((((((hA3.other (a:=⟨Z+1,0,none⟩) (by simp;omega) (.int .u64 N1)).other (a:=⟨Z+1,1,none⟩) (by simp;omega) (.string N2)).other (a:=⟨Z+1,2,none⟩) (by simp;omega) (.bool N3)).other (a:=⟨Z+1,3,none⟩) (by simp;omega) (.int .u64 N4)).other (a:=⟨Z+1,4,none⟩) (by simp;omega) (.string N5)))
   have K4:=Lib.hid ((((((hB3.other (a:=⟨Z+1,0,none⟩) (by simp;omega) (.int .u64 N1)).other (a:=⟨Z+1,1,none⟩) (by simp;omega) (.string N2)).other (a:=⟨Z+1,2,none⟩) (by simp;omega) (.bool N3)).other (a:=⟨Z+1,3,none⟩) (by simp;omega) (.int .u64 N4)).other (a:=⟨Z+1,4,none⟩) (by simp;omega) (.string N5)))
   have K5:=Lib.hid (((((hin3.setCell (p:=⟨Z+1,0,none⟩) (by simp) (.int .u64 N1)).setCell (p:=⟨Z+1,1,none⟩) (by simp) (.string N2)).setCell (p:=⟨Z+1,2,none⟩) (by simp) (.bool N3)).setCell (p:=⟨Z+1,3,none⟩) (by simp) (.int .u64 N4)).setCell (p:=⟨Z+1,4,none⟩) (by simp) (.string N5))
   have HN:=Lib.hid hn2
   clear h hc hf hin bq bs hA hB hin3 bq3 bs3 hA3 hB3 h1 h2 h3 h4 x0 x1 x2 xl y0 y1 y2 yl s0 s1 s2' s3 s4 sl hn1 hn2
   go_wp2_with fail
   exact⟨⟨t+1,by omega,by go_num,K5.out,K2.out,by rw[←HS.out,HN.out];exact K1.out,K3.out,K4.out⟩,by simp[RowKit.intOf];omega⟩
  ·obtain rfl:t=c:=by omega
   have htI:¬ (t:Int)<t:=by omega
   have s0:=bs.c0
   have s1:=bs.c1
   have s2:=bs.c2
   have s3:=bs.c3
   have s4:=bs.c4
   have sl:=bs.lt
   have q0:=bq.c0
   have q1:=bq.c1
   have q2:=bq.c2
   have q3:=bq.c3
   have q4:=bq.c4
   have f0:=bq.frozen 0
   have f1:=bq.frozen 1
   have f2:=bq.frozen 2
   have f3:=bq.frozen 3
   have f4:=bq.frozen 4
   have ql:=bq.lt
   have K1:=Lib.hid (((((bq.set 0 (.int .u64 S1)).set 1 (.string S2)).set 2 (.bool S3)).set 3 (.int .u64 S4)).set 4 (.string S5))
   have K2:=Lib.hid (((((hin.setCell (p:=⟨Z,0,none⟩) (Nat.le_refl _) (.int .u64 S1)).setCell (p:=⟨Z,1,none⟩) (Nat.le_refl _) (.string S2)).setCell (p:=⟨Z,2,none⟩) (Nat.le_refl _) (.bool S3)).setCell (p:=⟨Z,3,none⟩) (Nat.le_refl _) (.int .u64 S4)).setCell (p:=⟨Z,4,none⟩) (Nat.le_refl _) (.string S5))
   have HS1:=Lib.hid hs1
   clear hin bq bs hA hB hs1 hs2
   go_wp2_with fail
   have k1:=K1.out
   have k2:=K2.out
   clear K1 K2 s0 s1 s2 s3 s4 sl q0 q1 q2 q3 q4 f0 f1 f2 f3 f4 ql
   generalize ((((wr.setCell ⟨Z,0,none⟩ (.int .u64 S1)).setCell ⟨Z,1,none⟩ (.string S2)).setCell ⟨Z,2,none⟩ (.bool S3)).setCell ⟨Z,3,none⟩ (.int .u64 S4)).setCell ⟨Z,4,none⟩ (.string S5)=W5 at *
   have e0:W5.cell? ⟨Z,0,none⟩=some (.int .u64 S1):=k1.cell 0
   have e1:W5.cell? ⟨Z,1,none⟩=some (.string S2):=k1.cell 1
   have e2:W5.cell? ⟨Z,2,none⟩=some (.bool S3):=k1.cell 2
   have e3:W5.cell? ⟨Z,3,none⟩=some (.int .u64 S4):=k1.cell 3
   have e4:W5.cell? ⟨Z,4,none⟩=some (.string S5):=k1.cell 4
   refine bodyPost_ret (v:=.agg #[.int .u64 S1,.string S2,.bool S3,.int .u64 S4,.string S5]) ?_ rfl ⟨by rw[HS1.out],by rw[←HX.out];exact k2.bel⟩
   simp[results,Tryz.results129,go_sem,e0,e1,e2,e3,e4]
def mulF (c:Nat) (f g:Nat→Nat→Rat) (i k:Nat):Rat:=sumTo (fun t=>f i t*g t k) c
set_option maxRecDepth 100000 in
set_option maxHeartbeats 4000000 in
theorem mmul_any {j l:Nat} (w:World) (x y:Value) (r c r' c':Nat) (qs ps:List Rat) (hx:MatAt w x r c qs) (hy:MatAt w y r' c' ps) (hr:r≤2048) (hc:c≤2048) (hr':r'≤2048) (hc':c'≤2048) (hq:∀ i,SzK j (qs.getD i 0)) (hp:∀ i,SzK l (ps.getD i 0)) (hcap:1+c*(j+l+1)<17592186044416) :
  Calls Tryz.prog 82 #[x,y] w fun e w'=>(∃ d e',e=.returned (.tuple #[d,.int .i64 e'])∧DRes (!decide (c=r')) r c' (mulF c (mvals c qs) (mvals c' ps)) w' d e')∧Below w.heap.size w w':=by
 have k1:checkM (r:Int) c qs.length=0:=by rw[hx.len2];exact checkM_ok hr hc
 have k2:checkM (r':Int) c' ps.length=0:=by rw[hy.len2];exact checkM_ok hr' hc'
 have HX0:=Lib.hid hx
 have HY0:=Lib.hid hy
 obtain⟨a,k,rfl⟩:=hx.shape
 obtain⟨a',k',rfl⟩:=hy.shape
 have c1:=fun W b h=>mall_two W b r c r' c' qs.length k ps.length k' a a' h k1 k2
 obtain⟨n,hn⟩:∃ n,n=qs.length:=⟨_,rfl⟩
 obtain⟨n',hn'⟩:∃ n,n=ps.length:=⟨_,rfl⟩
 rw[←hn,←hn'] at c1
 rw[←hn] at HX0 ⊢
 rw[←hn'] at HY0 ⊢
 have eg1:∀ args w,(callFunc 129 args).run Tryz.prog w=.ok (.enter 129 args) w:=enters_of Tryz.func129 (by kernel_rfl) rfl
 obtain⟨X,hX⟩:∃ X,X=w.heap.size:=⟨_,rfl⟩
 have HX:=Lib.hid hX
 have HQ:=Lib.hid hq
 have HP:=Lib.hid hp
 have HCP:=Lib.hid hcap
 clear k1 k2 hn hn' hx hy hq hp hcap
 go_enter Tryz.func82,Tryz.ntmps82
 go_wp2_with fail
 ((with_reducible refine(c1 _ _ ?_).mono ?_))
 ·exact Bx.new_at _ _ _ (by simp)
 rintro e w2 ⟨rfl,hb⟩
 have hin:=(((((In.self w).alloc (.cells #[.int .i64 r,.int .i64 c,.slice a n k] 37)).alloc (.cells #[.int .i64 r',.int .i64 c',.slice a' n' k'] 37)).alloc (.cells #[.int .i64 0,.int .i64 0,.slice none 0 0] 37)).alloc (.cells #[.int .i64 r,.int .i64 c,.slice a n k,.int .i64 r',.int .i64 c',.slice a' n' k'] 37)).call hb
 have bx:=((((Bx.new_at w #[.int .i64 r,.int .i64 c,.slice a n k] 37 hX).alloc (.cells #[.int .i64 r',.int .i64 c',.slice a' n' k'] 37)).alloc (.cells #[.int .i64 0,.int .i64 0,.slice none 0 0] 37)).alloc (.cells #[.int .i64 r,.int .i64 c,.slice a n k,.int .i64 r',.int .i64 c',.slice a' n' k'] 37)).call hb
 have by_:=(((Bx.new_at (w.alloc (.cells #[.int .i64 r,.int .i64 c,.slice a n k] 37)) #[.int .i64 r',.int .i64 c',.slice a' n' k'] 37 (n:=X+1) (by rw[World.size_alloc,hX])).alloc (.cells #[.int .i64 0,.int .i64 0,.slice none 0 0] 37)).alloc (.cells #[.int .i64 r,.int .i64 c,.slice a n k,.int .i64 r',.int .i64 c',.slice a' n' k'] 37)).call hb
 have bq:=((Bx.new_at ((w.alloc (.cells #[.int .i64 r,.int .i64 c,.slice a n k] 37)).alloc (.cells #[.int .i64 r',.int .i64 c',.slice a' n' k'] 37)) #[.int .i64 0,.int .i64 0,.slice none 0 0] 37 (n:=X+1+1) (by rw[World.size_alloc,World.size_alloc,hX])).alloc (.cells #[.int .i64 r,.int .i64 c,.slice a n k,.int .i64 r',.int .i64 c',.slice a' n' k'] 37)).call hb
 rw[←hX]
 clear hX hb c1
 have x0:=bx.c0
 have x1:=bx.c1
 have xl:=bx.lt
 have y0:=by_.c0
 have y1:=by_.c1
 have yl:=by_.lt
 by_cases he:c=r'
 ·subst he
  have hmk:=make_any (mulF c (mvals c qs) (mvals c' ps)) w2 r c' 129 #[.pointer (some ⟨X,0,none⟩),.pointer (some ⟨X+1,0,none⟩)] eg1 hr hc' (fun i t W hi ht h=>
   mmul1_any W X (X+1) r c c' n k n' k' i t a a' qs ps (bx.call h.bel) (by_.call h.bel) (HX0.out.call (hin.call h.bel).bel) (HY0.out.call (hin.call h.bel).bel) hi ht hr hc hc' HQ.out HP.out HCP.out)
  go_wp2_with fail
  (with_reducible refine hmk.mono ?_)
  rintro e w6 ⟨⟨d,rfl,hd⟩,hb⟩
  replace hin:=hin.call hb
  replace bq:=bq.call hb
  obtain⟨ad,kd,rfl⟩:=hd.shape
  rw[dense_length] at hd ⊢
  obtain⟨m,hm⟩:∃ m,m=r*c':=⟨_,rfl⟩
  rw[←hm] at hd ⊢
  clear hb hmk x0 x1 xl y0 y1 yl hm bx by_
  ((have K5
       :=Lib.hid (hd.put3 (p':=((r:Nat):Int)) (q':=((c':Nat):Int)) (ao':=ad) (n':=m) (k':=kd) bq));
       have r0:=bq.c0;
       have r1:=bq.c1;
       have r2:=bq.c2;
       (have f0:=bq.frozen 0);
       (have f1:=bq.frozen 1);
       (have f2:=bq.frozen 2);
       have ql:=bq.lt;
       (have K1:=Lib.hid (((bq.set 0 (.int .i64 ((r:Nat):Int))).set 1 (.int .i64 ((c':Nat):Int))).set 2 (.slice ad m kd)));
       (have K2:=Lib.hid (((hin.setCell (p:=⟨(X+1+1),0,none⟩) (by first |(simp;done)|(have:=HX.out;simp;omega)) (.int .i64 ((r:Nat):Int))).setCell (p:=⟨(X+1+1),1,none⟩) (by first |(simp;done)|(have:=HX.out;simp;omega)) (.int .i64 ((c':Nat):Int))).setCell (p:=⟨(X+1+1),2,none⟩) (by first |(simp;done)|(have:=HX.out;simp;omega)) (.slice ad m kd)));
       clear bq hin hd;
       go_wp2_with fail;
       have k1:=K1.out;
       have k2:=K2.out;
       have hm:=K5.out;
       clear r0 r1 r2 f0 f1 f2 ql K1 K2 K5;
       (generalize (((w6.setCell ⟨(X+1+1),0,none⟩ (.int .i64 ((r:Nat):Int))).setCell ⟨(X+1+1),1,none⟩ (.int .i64 ((c':Nat):Int))).setCell ⟨(X+1+1),2,none⟩ (.slice ad m kd))=W9 at *);
       (have e0:W9.cell? ⟨(X+1+1),0,none⟩=some (.int .i64 ((r:Nat):Int)):=k1.cell 0);
       (have e1:W9.cell? ⟨(X+1+1),1,none⟩=some (.int .i64 ((c':Nat):Int)):=k1.cell 1);
       (have e2:W9.cell? ⟨(X+1+1),2,none⟩=some (.slice ad m kd):=k1.cell 2);
       have hz:=k2.bel;
       (refine bodyPost_ret (v:=.tuple #[.agg #[.int .i64 ((r:Nat):Int),.int .i64 ((c':Nat):Int),.slice ad m kd],.int .i64 0]) ?_ rfl ⟨⟨_,_,rfl,⟨_,_,_,_,_,rfl⟩,.inr ⟨by simp,rfl,hm⟩⟩,hz⟩);
       (simp[results,Tryz.results82,go_sem,e0,e1,e2]))
 ·have HSD:Hid ((!decide (c=r'))=true):=Lib.hid (by simp[he])
  have h3:((c:Int) != r')=true:=by
   have:¬ (c:Int)=r':=by omega
   simpa using this
  clear he
  ((have r0
       :=bq.c0);
       have r1:=bq.c1;
       have r2:=bq.c2;
       (have f0:=bq.frozen 0);
       (have f1:=bq.frozen 1);
       (have f2:=bq.frozen 2);
       have hrl:=bq.lt;
       (have H1:=Lib.hid (((bq.set 0 (.int .i64 0)).set 1 (.int .i64 0)).set 2 (.slice none 0 0)));
       (have H2:=Lib.hid (((hin.setCell (p:=⟨(X+1+1),0,none⟩) (by first |(simp;done)|(have:=HX.out;simp;omega)) (.int .i64 0)).setCell (p:=⟨(X+1+1),1,none⟩) (by first |(simp;done)|(have:=HX.out;simp;omega)) (.int .i64 0)).setCell (p:=⟨(X+1+1),2,none⟩) (by first |(simp;done)|(have:=HX.out;simp;omega)) (.slice none 0 0)));
       clear bq hin bx;
       go_wp2_with fail;
       have g1:=H1.out;
       have g2:=H2.out;
       clear H1 H2 r0 r1 r2 f0 f1 f2 hrl;
       (generalize ((w2.setCell ⟨(X+1+1),0,none⟩ (.int .i64 0)).setCell ⟨(X+1+1),1,none⟩ (.int .i64 0)).setCell ⟨(X+1+1),2,none⟩ (.slice none 0 0)=W5 at *);
       (have e0:W5.cell? ⟨(X+1+1),0,none⟩=some (.int .i64 0):=g1.cell 0);
       (have e1:W5.cell? ⟨(X+1+1),1,none⟩=some (.int .i64 0):=g1.cell 1);
       (have e2:W5.cell? ⟨(X+1+1),2,none⟩=some (.slice none 0 0):=g1.cell 2);
       have hz:=g2.bel;
       (refine bodyPost_ret (v:=.tuple #[zeroSp,.int .i64 1]) ?_ rfl ⟨⟨_,_,rfl,⟨_,_,_,_,_,rfl⟩,.inl ⟨HSD.out,rfl,rfl⟩⟩,hz⟩);
       (simp[results,Tryz.results82,go_sem,e0,e1,e2]))
end Gus
end
section
namespace Gus
open Go Go.RowKit Go.Proofs
set_option maxRecDepth 100000 in
set_option maxHeartbeats 2000000 in
theorem alike_two (w:World) (b n n' k k':Nat) (T:TypeId) (a a':Option Addr) (hB:Bx w b T [.slice a n k,.slice a' n' k']) (h1:n≤2048) (h2:n'≤2048) :
  Calls Tryz.prog 131 #[.slice (some ⟨b,0,none⟩) 2 2] w fun e w'=>e=.returned (.int .i64 (if n=n' then 0 else 1))∧Below w.heap.size w w':=by
 have x0:=hB.c0
 have x1:=hB.c1
 have xl:=hB.lt
 have k1:¬ (2048:Int)<n:=by omega
 have k2:¬ (2048:Int)<n':=by omega
 have hbel:=Below.refl w.heap.size w
 clear hB h1 h2
 by_cases he:n=n'
 ·subst he
  rw[if_pos rfl]
  go_enter Tryz.func131,Tryz.ntmps131
  go_wp2_with fail
  go_rounds 3
  go_wp2_with fail
  go_rounds 3
  exact bodyPost_ret (v:=.int .i64 0) (by simp[results,Tryz.results131,go_sem, *]) rfl ⟨rfl,hbel⟩
 ·rw[if_neg he]
  have h3:((n':Int) != n)=true:=by
   have:¬ (n':Int)=n:=by omega
   simpa using this
  clear he
  go_enter Tryz.func131,Tryz.ntmps131
  go_wp2_with fail
  go_rounds 3
  go_wp2_with fail
  go_rounds 3
  exact bodyPost_ret (v:=.int .i64 1) (by simp[results,Tryz.results131,go_sem, *]) rfl ⟨rfl,hbel⟩
set_option maxRecDepth 100000 in
set_option maxHeartbeats 2000000 in
theorem short_one (w:World) (b n k:Nat) (T:TypeId) (a:Option Addr) (hB:Bx w b T [.slice a n k]) (h1:n≤2048) :
  Calls Tryz.prog 84 #[.slice (some ⟨b,0,none⟩) 1 1] w fun e w'=>e=.returned (.int .i64 0)∧Below w.heap.size w w':=by
 have x0:=hB.c0
 have xl:=hB.lt
 have k1:¬ (2048:Int)<n:=by omega
 have hbel:=Below.refl w.heap.size w
 clear hB h1
 go_enter Tryz.func84,Tryz.ntmps84
 go_wp2_with fail
 go_rounds 2
 exact bodyPost_ret (v:=.int .i64 0) (by simp[results,Tryz.results84,go_sem, *]) rfl ⟨rfl,hbel⟩
set_option maxRecDepth 100000 in
set_option maxHeartbeats 4000000 in
theorem veach_any (op:Rat→Rat→Rat) (w:World) (x y:Value) (qs ps:List Rat) (n gf:Nat) (cbf:Array Value) (hx:VecAt w x qs) (hy:VecAt w y ps) (hl:qs.length=n) (hl':ps.length=n) (hn:n≤2048) (eg:∀ args w,(callFunc gf args).run Tryz.prog w=.ok (.enter gf args) w)
  (hop:∀ i W2,i<n→In w.heap.size w W2→Calls Tryz.prog gf (#[fracV (qs.getD i 0),fracV (ps.getD i 0)] ++ cbf) W2 fun e w'=>e=.returned (fracV (op (qs.getD i 0) (ps.getD i 0)))∧Below W2.heap.size W2 w') :
  Calls Tryz.prog 87 #[x,y,.func (.func gf) #[] cbf] w fun e w'=>(∃ d,e=.returned (.tuple #[d,.int .i64 0])∧VecAt w' d ((List.range n).map fun i=>op (qs.getD i 0) (ps.getD i 0)))∧Below w.heap.size w w':=by
 have HX0:=Lib.hid hx
 have HY0:=Lib.hid hy
 obtain⟨a,k,rfl⟩:=hx.shape
 obtain⟨a',k',rfl⟩:=hy.shape
 rw[hl] at HX0 ⊢
 rw[hl'] at HY0 ⊢
 have c1:=fun W b T h=>alike_two W b n n k k' T a a' h hn hn
 rw[if_pos rfl] at c1
 have hmk:=mk_vec n (by omega)
 obtain⟨fc,hfc⟩:∃ fc,fc=fcl (List.replicate n 0):=⟨_,rfl⟩
 rw[←hfc] at hmk
 have HF:=Lib.hid hfc
 have HL:=Lib.hid hl
 have HL':=Lib.hid hl'
 have HOP:=Lib.hid hop
 obtain⟨X,hX⟩:∃ X,X=w.heap.size:=⟨_,rfl⟩
 have HX:=Lib.hid hX
 clear hx hy hl hl' hop hfc
 go_enter Tryz.func87,Tryz.ntmps87
 go_wp2_with fail
 ((with_reducible refine(c1 _ _ 32 ?_).mono ?_))
 ·exact Bx.new_at _ _ _ rfl
 rintro e w2 ⟨rfl,hb⟩
 have hin:=((In.self w).alloc (.cells #[.slice a n k,.slice a' n k'] 32)).call hb
 rw[←hX] at hin
 clear hb c1 hX
 go_upto_region 5 with fail
 obtain⟨g,hg⟩:∃ g,g=w2.heap.size:=⟨_,rfl⟩
 have hXg:X≤g:=by have:=hin.siz;omega
 have bv:VBx (w2.alloc (.cells fc.toArray 72)) g (pv (fun i=>op (qs.getD i 0) (ps.getD i 0)) n 0):=by
  have:=Bx.new_at w2 fc.toArray 72 hg
  show Bx _ g 72 (fcl _)
  rw[pv_zero,←HF.out];exact this
 replace hin:=hin.alloc (.cells fc.toArray 72)
 rw[←hg]
 clear hg hmk
 generalize w2.alloc (.cells fc.toArray 72)=W1 at *
 go_wp2_with fail
 go_loopw [23] (fun v23 wr=>∃ i:Nat,i≤n∧v23=.int .i64 i∧In X w wr∧VBx wr g (pv (fun i=>op (qs.getD i 0) (ps.getD i 0)) n i)) (fun v23 _=>n - (RowKit.intOf v23).toNat)
 case atStart=>exact⟨0,Nat.zero_le _,rfl,hin,bv⟩
 case round=>
  clear hin bv
  obtain⟨i,hi,rfl,hin,bv⟩:=hrel
  by_cases hin2:i<n
  ·have hiI:(i:Int)<n:=by omega
   have hi0:(0:Int)≤i:=by omega
   have hiw:IntKind.i64.wrap ((i:Int)+1)=((i+1:Nat):Int):=IntWalk.i64_in _ (by omega)
   obtain⟨b1,o1,_,B1,B2,B3,B4,B5,e1,hb1,_,hf1,y0,y1,y2,y3,y4⟩:=HX0.out.at (i:=i) (by rw[HL.out];exact hin2)
   obtain⟨b2,o2,_,D1,D2,D3,D4,D5,e2,hb2,_,hf2,z0,z1,z2,z3,z4⟩:=HY0.out.at (i:=i) (by rw[HL'.out];exact hin2)
   simp only[Value.slice.injEq] at e1 e2
   obtain⟨rfl,_,_⟩:=e1
   obtain⟨rfl,_,_⟩:=e2
   rw[←HX.out] at hb1 hb2
   rw[←hin.cell b1 _ hb1] at y0 y1 y2 y3 y4
   rw[←hin.cell b2 _ hb2] at z0 z1 z2 z3 z4
   have hbw1:b1<wr.heap.size:=by have:=hin.siz;omega
   have hbw2:b2<wr.heap.size:=by have:=hin.siz;omega
   have h3:=fun W2 (h:In wr.heap.size wr W2)=>HOP.out i W2 hin2 (by rw[←HX.out];exact hin.call h.bel)
   obtain⟨q,hq⟩:∃ q,q=op (qs.getD i 0) (ps.getD i 0):=⟨_,rfl⟩
   rw[←hq,hf1,hf2] at h3
   have hlt:i<(pv (fun i=>op (qs.getD i 0) (ps.getD i 0)) n i).length:=by rw[pv_length];exact hin2
   have hgl:=bv.lt
   have HQ:=Lib.hid hq
   clear hq hf1 hf2
   go_upto_region 8 with fail
   have h:=In.self wr
   have hc:=h.cell
   refine tfw 13 ?_;refine tset ?_;(repeat (first | refine tfs ?_))
   (with_reducible refine flow_pure0 (v:=fracV q) ?_ ?_ ?_ ?_)
   case refine_1=>with_reducible rfl
   case refine_2=>rfl
   case refine_3=>
    intro u w1 hw hd
    replace hd:=thn hd
    have hc':=hw.cell
    go_simp
    refine(h3 _ hw.ins).mono ?_
    rintro e w'' ⟨rfl,hb⟩
    exact⟨rfl,hb⟩
   (repeat (first | refine tfs ?_))
   (try clear hc hf h);intro u w' h ha hdi;replace h:=tsz h.ins;replace ha:=tah ha;have hc:=h.cell;have hf:=h.frozen
   (try obtain ha:=ha);(try dsimp only);simp only[ha];clear ha hdi
   have bv3:=bv.call h.bel
   have hin3:=hin.call h.bel
   obtain⟨_,_,_,_,_,_,c0,c1,c2,c3,c4,f0,f1,f2,f3,f4⟩:=VBx.cells bv3 hlt
   have hgl3:=bv3.lt
   have hs:=VBx.set bv3 i q hlt
   rw[show(pv (fun i=>op (qs.getD i 0) (ps.getD i 0)) n i).set i q=pv (fun i=>op (qs.getD i 0) (ps.getD i 0)) n (i+1) by rw[HQ.out];exact pv_set _ _ _] at hs
   have H1:=Lib.hid hs
   have H2:=Lib.hid (hin3.put5 (g:=g) hXg i q)
   clear h hc hf hs hin3 bv3 hin bv h3 y0 y1 y2 y3 y4 z0 z1 z2 z3 z4 hbw1 hbw2 hb1 hb2 hgl
   go_wp2_with fail
   exact⟨⟨i+1,by omega,by go_num,H2.out,H1.out⟩,by simp[RowKit.intOf];omega⟩
  ·obtain rfl:i=n:=by omega
   have hiI:¬ (i:Int)<i:=by omega
   rw[pv_full] at bv
   have hv:VecAt wr (.slice (some ⟨g,0,none⟩) i i) ((List.range i).map fun t=>op (qs.getD t 0) (ps.getD t 0)):=VBx.at bv i (by simp) i
   have H1:=Lib.hid hv
   have H2:=Lib.hid hin
   clear bv hin hv
   go_wp2_with fail
   exact bodyPost_ret (v:=.tuple #[.slice (some ⟨g,0,none⟩) i i,.int .i64 0]) (by simp[results,Tryz.results87,go_sem]) rfl ⟨⟨_,rfl,H1.out⟩,by rw[←HX.out];exact H2.out.bel⟩
end Gus
end
