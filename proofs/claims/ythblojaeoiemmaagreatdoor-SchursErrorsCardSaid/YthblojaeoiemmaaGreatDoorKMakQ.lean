/- Proved here: parts of the proof: KMak KBin KIdx KPrt KPrtB. Conditions: those that each theorem states. -/
import Derived.Test.YthblojaeoiemmaaGreatDoorKDnsQ
section
namespace Gus
open Go Go.RowKit Go.Proofs
def MatS (w:World) (v:Value) (r c:Nat) (F:Nat→Nat→Rat):Prop:=∃ g n,n=r*c∧v=.agg #[.int .i64 r,.int .i64 c,.slice (some ⟨g,0,none⟩) n n]∧VBx w g (dense r c F)
theorem MatS.mat {w:World} {v:Value} {r c:Nat} {F:Nat→Nat→Rat} (h:MatS w v r c F):MatAt w v r c (dense r c F):=by
 obtain⟨g,n,hn,rfl,hb⟩:=h
 exact⟨_,rfl,dense_length r c F,hb.at n (by rw[dense_length,hn]) n⟩
theorem MatS.cap {w:World} {v:Value} {r c:Nat} {F:Nat→Nat→Rat} (h:MatS w v r c F):CapOk v:=by
 obtain⟨g,n,_,rfl,_⟩:=h
 exact⟨_,_,_,n,n,rfl,Nat.le_refl _⟩
theorem MatS.call {w w':World} {v:Value} {r c:Nat} {F:Nat→Nat→Rat} (h:MatS w v r c F) (hb:Below w.heap.size w w'):MatS w' v r c F:=by
 obtain⟨g,n,hn,rfl,h1⟩:=h
 exact⟨g,n,hn,rfl,h1.call hb⟩
theorem MatS.shape {w:World} {v:Value} {r c:Nat} {F:Nat→Nat→Rat} (h:MatS w v r c F):∃ a n k,n=r*c∧v=.agg #[.int .i64 r,.int .i64 c,.slice a n k]:=by
 obtain⟨g,n,hn,rfl,_⟩:=h
 exact⟨_,n,n,hn,rfl⟩
theorem MatS.put3 {w:World} {v:Value} {r c n k n' k':Nat} {p q p' q':Int} {ao ao':Option Addr} {F:Nat→Nat→Rat} {S:Nat} (h:MatS w v r c F) (hS:Bx w S 37 [.int .i64 p,.int .i64 q,.slice ao n k]) :
  MatS (((w.setCell ⟨S,0,none⟩ (.int .i64 p')).setCell ⟨S,1,none⟩ (.int .i64 q')).setCell ⟨S,2,none⟩ (.slice ao' n' k')) v r c F:=by
 obtain⟨g,n,hn,rfl,h1⟩:=h
 have hne:S≠g:=fun e=>by
  subst e
  have h6:w.heap[S]?=some (Obj.cells _ 37 (0,0)):=hS
  have h7:w.heap[S]?=some (Obj.cells _ 72 (0,0)):=h1
  rw[h6] at h7
  injection h7 with h8
  injection h8 with _ h9
  exact absurd h9 (by decide)
 exact⟨g,n,hn,rfl,((Bx.other (a:=⟨S,0,none⟩) h1 hne _).other (a:=⟨S,1,none⟩) hne _).other (a:=⟨S,2,none⟩) hne _⟩
set_option maxRecDepth 100000 in
set_option maxHeartbeats 2000000 in
theorem mel_any (w:World) (v:Value) (r c i k:Nat) (qs:List Rat) (hM:MatAt w v r c qs) (hi:i<r) (hk:k<c) (hr:r≤2048) (hc:c≤2048) :
  Calls Tryz.prog 121 #[v,.int .i64 i,.int .i64 k] w fun e w'=>e=.returned (fracV (qs.getD (i*c+k) 0))∧Below w.heap.size w w':=by
 obtain⟨x,rfl,hl,hv⟩:=hM
 obtain⟨t,ht⟩:∃ t,t=i*c+k:=⟨_,rfl⟩
 have htl:t<qs.length:=by rw[hl,ht];exact pos_lt hi hk
 obtain⟨b,off,cap,A1,A2,A3,A4,A5,rfl,hb,_,hA,d0,d1,d2,d3,d4⟩:=hv.at htl
 have hn4:r*c≤4194304:=Nat.mul_le_mul hr hc
 rw[←ht,hA]
 obtain⟨L,hL⟩:∃ L,L=qs.length:=⟨_,rfl⟩
 obtain⟨d,hd⟩:∃ d,d=i*c:=⟨_,rfl⟩
 have hw1:IntKind.i64.wrap ((i:Int)*c)=(d:Int):=by rw[hd,←Int.natCast_mul];exact IntWalk.i64_in _ (by omega)
 have hw2:IntKind.i64.wrap ((d:Int)+k)=(t:Int):=by rw[ht,hd,←Int.natCast_add];exact IntWalk.i64_in _ (by omega)
 rw[←hL] at htl ⊢
 have htn:(t:Int)<L:=by omega
 have ht0:(0:Int)≤t:=by omega
 clear hv hl ht hd hL hA hn4
 go_enter Tryz.func121,Tryz.ntmps121
 go_wp2_with fail
 exact bodyPost_ret (v:=.agg #[.int .u64 A1,.string A2,.bool A3,.int .u64 A4,.string A5]) (by simp[results,Tryz.results121,go_sem, *]) rfl ⟨rfl,by exact tfin⟩
set_option maxRecDepth 100000 in
set_option maxHeartbeats 2000000 in
theorem mrow_any (w:World) (r c i n g:Nat) (hn:n=r*c) (hi:i<r) (hr:r≤2048) (hc:c≤2048) :
  Calls Tryz.prog 86 #[.agg #[.int .i64 r,.int .i64 c,.slice (some ⟨g,0,none⟩) n n],.int .i64 i] w fun e w'=>∃ o,e=.returned (.slice (some ⟨g,o,none⟩) c c)∧(0<c→o=i*c*5)∧Below w.heap.size w w':=by
 have hn4:n≤4194304:=by rw[hn];exact Nat.mul_le_mul hr hc
 have hlt:(i+1)*c≤n:=by rw[hn];exact Nat.mul_le_mul_right c (by omega)
 obtain⟨d,hd⟩:∃ d,d=i*c:=⟨_,rfl⟩
 have hd2:(i+1)*c=d+c:=by rw[hd,Nat.add_mul,Nat.one_mul]
 rw[hd2] at hlt
 have hw1:IntKind.i64.wrap ((i:Int)*c)=(d:Int):=by rw[hd,←Int.natCast_mul];exact IntWalk.i64_in _ (by omega)
 have hw0:IntKind.i64.wrap ((i:Int)+1)=((i+1:Nat):Int):=IntWalk.i64_in _ (by omega)
 obtain⟨i1,hi1⟩:∃ i1,i1=i+1:=⟨_,rfl⟩
 rw[←hi1] at hw0 hd2
 obtain⟨u,hu⟩:∃ u,u=d+c:=⟨_,rfl⟩
 have hw2:IntKind.i64.wrap ((i1:Int)*c)=(u:Int):=by rw[hu,←hd2,←Int.natCast_mul];exact IntWalk.i64_in _ (by rw[hd2];omega)
 rw[←hd]
 have k1:(d:Int)≤u:=by omega
 have k2:(u:Int)≤n:=by omega
 have k3:(0:Int)≤d:=by omega
 clear hd hd2 hn hi1
 go_enter Tryz.func86,Tryz.ntmps86
 go_upto_region 1 with fail
 obtain⟨W1,hW1⟩:∃ W1,W1=w.alloc (.cells #[.int .i64 r,.int .i64 c,.slice (some ⟨g,0,none⟩) n n] 37):=⟨_,rfl⟩
 obtain⟨X,hX⟩:∃ X,X=w.heap.size:=⟨_,rfl⟩
 have hin:In w.heap.size w W1:=by rw[hW1];exact(In.self w).alloc _
 have bx:=Bx.new_at w #[.int .i64 r,.int .i64 c,.slice (some ⟨g,0,none⟩) n n] 37 hX
 rw[←hW1] at bx ⊢
 rw[←hX]
 have x0:=bx.c0
 have x1:=bx.c1
 have x2:=bx.c2
 have xl:=bx.lt
 clear hW1 hX
 have h:=In.self W1
 have hcc:=hc
 have hc:=h.cell
 refine tfw 10 ?_;refine tset ?_;(repeat (first | refine tfs ?_))
 (try clear hc hf h);intro u w' h ha hdi;replace h:=tsz h.ins;replace ha:=tah ha;have hc:=h.cell;have hf:=h.frozen
 (try obtain ha:=ha);(try dsimp only);simp only[ha];clear ha hdi
 have hin2:=hin.call h.bel
 have bx2:=bx.call h.bel
 clear h hc hf hin bx x0 x1 x2 xl
 have x2:=bx2.c2
 have xl:=bx2.lt
 go_wp2_with fail
 all_goals
  go_ret
  first | exact⟨d*5,rfl,fun _=>rfl,hin2.bel⟩| exact⟨⟨0,rfl⟩,hin2.bel⟩| exact⟨⟨d*5,rfl,fun _=>rfl⟩,hin2.bel⟩
set_option maxRecDepth 100000 in
set_option maxHeartbeats 4000000 in
theorem make_fst (F:Nat→Nat→Rat) (w:World) (r c:Nat) (g0:Nat) (fs cb:Array Value) (eg:∀ args w,(callFunc g0 args).run Tryz.prog w=.ok (.enter g0 args) w) (hr:r≤2048) (hc:c≤2048)
  (hcl:∀ i k W,i<r→k<c→In w.heap.size w W→Calls Tryz.prog g0 (fs ++ (#[.int .i64 (i:Nat),.int .i64 (k:Nat)] ++ cb)) W fun e w'=>e=.returned (fracV (F i k))∧Below W.heap.size W w') :
  Calls Tryz.prog 100 #[.int .i64 r,.int .i64 c,.func (.func g0) fs cb] w fun e w'=>(∃ d,e=.returned (.tuple #[d,.int .i64 0])∧MatS w' d r c F)∧Below w.heap.size w w':=by
 have h1:=msides_any r c
 rw[show sidesE (r:Int) c=0 by unfold sidesE;rw[if_neg (by omega),if_neg (by omega)]] at h1
 obtain⟨n,hn⟩:∃ n,n=r*c:=⟨_,rfl⟩
 have hn4:n≤4194304:=by rw[hn];exact Nat.mul_le_mul hr hc
 have HN:=Lib.hid hn
 have hmk:=info_frac6 n hn4
 have hwm:IntKind.i64.wrap ((r:Int)*c)=(n:Int):=by rw[hn,←Int.natCast_mul];exact IntWalk.i64_in _ (by rw[←hn];omega)
 obtain⟨fc,hfc⟩:∃ fc,fc=fcl (List.replicate n 0):=⟨_,rfl⟩
 have HF:=Lib.hid hfc
 rw[←hfc] at hmk
 obtain⟨X,hX⟩:∃ X,X=w.heap.size:=⟨_,rfl⟩
 have HX:=Lib.hid hX
 have HC:=Lib.hid hcl
 have hnf:∀ W,(binOp .eql 132 (.func (.func g0) fs cb) .nilFunc).run Tryz.prog W=.ok (.bool false) W:=fun W=>rfl
 clear hn hfc hcl
 go_enter Tryz.func100,Tryz.ntmps100
 go_wp2_with fail
 ((with_reducible refine(h1 _).mono ?_))
 rintro e w1 ⟨rfl,hb⟩
 have hin:=((In.self w).alloc (.cells #[.int .i64 0,.int .i64 0,.slice none 0 0] 37)).call hb
 have bx:=(Bx.new_at w #[.int .i64 0,.int .i64 0,.slice none 0 0] 37 hX).call hb
 rw[←hX] at hin ⊢
 have x0:=bx.c0
 have x1:=bx.c1
 have x2:=bx.c2
 have xl:=bx.lt
 clear hX hb h1
 go_upto_region 7 with fail
 obtain⟨g,hg⟩:∃ g,g=w1.heap.size:=⟨_,rfl⟩
 have hXg:X<g:=by omega
 have bv:VBx ((w1.alloc (.cells fc.toArray 72)).alloc (.cells #[.int .i64 r,.int .i64 c,.slice (some ⟨g,0,none⟩) n n] 37)) g (pv (fun p=>F (p / c) (p % c)) n 0):=by
  have:=(Bx.new_at w1 fc.toArray 72 hg).alloc (.cells #[.int .i64 r,.int .i64 c,.slice (some ⟨g,0,none⟩) n n] 37)
  show Bx _ g 72 (fcl _)
  rw[pv_zero,←HF.out];exact this
 have bs:=Bx.new_at (w1.alloc (.cells fc.toArray 72)) #[.int .i64 r,.int .i64 c,.slice (some ⟨g,0,none⟩) n n] 37 (n:=g+1) (by rw[World.size_alloc,hg])
 replace bx:=(bx.alloc (.cells fc.toArray 72)).alloc (.cells #[.int .i64 r,.int .i64 c,.slice (some ⟨g,0,none⟩) n n] 37)
 replace hin:=(hin.alloc (.cells fc.toArray 72)).alloc (.cells #[.int .i64 r,.int .i64 c,.slice (some ⟨g,0,none⟩) n n] 37)
 rw[←hg]
 clear hg hmk x0 x1 x2 xl hnf hwm
 generalize (w1.alloc (.cells fc.toArray 72)).alloc (.cells #[.int .i64 r,.int .i64 c,.slice (some ⟨g,0,none⟩) n n] 37)=W1 at *
 go_wp2_with fail
 go_loopw [31] (fun v31 wr=>∃ i:Nat,i≤r∧v31=.int .i64 i∧In X w wr∧Bx wr X 37 [.int .i64 0,.int .i64 0,.slice none 0 0]∧Bx wr (g+1) 37 [.int .i64 r,.int .i64 c,.slice (some ⟨g,0,none⟩) n n]∧VBx wr g (pv (fun p=>F (p / c) (p % c)) n (i*c))) (fun v31 _=>r - (RowKit.intOf v31).toNat)
 case atStart=>exact⟨0,Nat.zero_le _,rfl,hin,bx,bs,by rw[Nat.zero_mul];exact bv⟩
 case round=>
  clear hin bx bs bv
  obtain⟨i,hi,rfl,hin,bx,bs,bv⟩:=hrel
  by_cases hir:i<r
  ·have hiI:(i:Int)<r:=by omega
   have s0:=bs.c0
   have s1:=bs.c1
   have s2:=bs.c2
   have sl:=bs.lt
   have s0:=bs.c0
   have s1:=bs.c1
   have s2:=bs.c2
   have sl:=bs.lt
   have hrow:=mrow_any wr r c i n g HN.out hir hr hc
   obtain⟨d,hd⟩:∃ d,d=i*c:=⟨_,rfl⟩
   have hdn:d+c≤n:=by
    have:=Nat.mul_le_mul_right c (show i+1≤r by omega)
    rw[Nat.add_mul,Nat.one_mul] at this
    rw[hd,HN.out];exact this
   simp only[←hd] at hrow bv
   have HD:=Lib.hid hd
   clear hd
   go_wp2_with fail
   (with_reducible refine hrow.mono ?_)
   rintro e w2 ⟨o,rfl,ho,hb⟩
   replace hin:=hin.call hb
   replace bx:=bx.call hb
   replace bs:=bs.call hb
   replace bv:=bv.call hb
   clear hb hrow s0 s1 s2 sl
   go_wp2_with fail
   go_loopw [38] (fun v38 wq=>∃ k:Nat,k≤c∧v38=.int .i64 k∧In X w wq∧Bx wq X 37 [.int .i64 0,.int .i64 0,.slice none 0 0]∧Bx wq (g+1) 37 [.int .i64 r,.int .i64 c,.slice (some ⟨g,0,none⟩) n n]∧VBx wq g (pv (fun p=>F (p / c) (p % c)) n (d+k))) (fun v38 _=>c - (RowKit.intOf v38).toNat)
   case atStart=>exact⟨0,Nat.zero_le _,rfl,hin,bx,bs,bv⟩
   case round=>
    clear hin bx bs bv
    obtain⟨k,hk,rfl,hin,bx,bs,bv⟩:=hrel
    by_cases hkc:k<c
    ·have hkI:(k:Int)<c:=by omega
     have hk0:(0:Int)≤k:=by omega
     have hcl:=HC.out i k wr hir hkc (by rw[←HX.out];exact hin)
     obtain⟨q,hq⟩:∃ q,q=F i k:=⟨_,rfl⟩
     rw[←hq] at hcl
     have HQ:=Lib.hid hq
     clear hq
     go_wp2_with fail
     (refine hcl.mono ?_)
     rintro e w3 ⟨rfl,hb⟩
     have hin3:=hin.call hb
     have bx3:=bx.call hb
     have bs3:=bs.call hb
     have bv3:=bv.call hb
     obtain rfl:=ho (by omega)
     have hlt:d+k<(pv (fun p=>F (p / c) (p % c)) n (d+k)).length:=by rw[pv_length];omega
     obtain⟨_,_,_,_,_,_,c0,c1,c2,c3,c4,f0,f1,f2,f3,f4⟩:=VBx.cells bv3 hlt
     have hgl:=bv3.lt
     have hs:=VBx.set bv3 (d+k) q hlt
     rw[show(pv (fun p=>F (p / c) (p % c)) n (d+k)).set (d+k) q=pv (fun p=>F (p / c) (p % c)) n (d+(k+1)) by
      rw[HQ.out,show F i k=(fun p=>F (p / c) (p % c)) (d+k) by
       simp only[HD.out,(pos_of (i:=i) hkc).1,(pos_of (i:=i) hkc).2]]
      exact pv_set _ _ _] at hs
     have hX1:X+1+1≤g+1:=by omega
     have hi5:=hin3.put5 (g:=g) (by omega) (d+k) q
     have bx5:=((((bx3.other (a:=⟨g,(d+k)*5,none⟩) (by simp;omega) (.int .u64 (lo q.num.natAbs))).other (a:=⟨g,(d+k)*5+1,none⟩) (by simp;omega) (.string (bg q.num.natAbs))).other (a:=⟨g,(d+k)*5+2,none⟩) (by simp;omega) (.bool (decide (q.num<0)))).other (a:=⟨g,(d+k)*5+3,none⟩) (by simp;omega) (.int .u64 (lo (q.den - 1)))).other (a:=⟨g,(d+k)*5+4,none⟩) (by simp;omega) (.string (bg (q.den - 1)))
     have bs5:=((((bs3.other (a:=⟨g,(d+k)*5,none⟩) (by simp) (.int .u64 (lo q.num.natAbs))).other (a:=⟨g,(d+k)*5+1,none⟩) (by simp) (.string (bg q.num.natAbs))).other (a:=⟨g,(d+k)*5+2,none⟩) (by simp) (.bool (decide (q.num<0)))).other (a:=⟨g,(d+k)*5+3,none⟩) (by simp) (.int .u64 (lo (q.den - 1)))).other (a:=⟨g,(d+k)*5+4,none⟩) (by simp) (.string (bg (q.den - 1)))
     rw[Nat.add_mul] at hs hi5 bx5 bs5 c0 c1 c2 c3 c4 f0 f1 f2 f3 f4
     have H1:=Lib.hid hs
     have H2:=Lib.hid hi5
     have H3:=Lib.hid bx5
     have H4:=Lib.hid bs5
     have hkw:IntKind.i64.wrap ((k:Int)+1)=((k+1:Nat):Int):=IntWalk.i64_in _ (by omega)
     clear hs hi5 bx5 bs5 hin3 bx3 bs3 bv3 hin bx bs bv hb hcl
     go_wp2_with fail
     exact⟨⟨k+1,by omega,by go_num,H2.out,H3.out,H4.out,H1.out⟩,by simp[RowKit.intOf];omega⟩
    ·obtain rfl:k=c:=by omega
     have hkI:¬ (k:Int)<k:=by omega
     have hiw:IntKind.i64.wrap ((i:Int)+1)=((i+1:Nat):Int):=IntWalk.i64_in _ (by omega)
     have H1:Hid (VBx wr g (pv (fun p=>F (p / k) (p % k)) n ((i+1)*k))):=Lib.hid (by rw[Nat.add_mul,Nat.one_mul,←HD.out];exact bv)
     have H2:=Lib.hid hin
     have H3:=Lib.hid bx
     have H4:=Lib.hid bs
     clear hin bx bs bv
     go_wp2_with fail
     exact⟨⟨i+1,by omega,by go_num,H2.out,H3.out,H4.out,H1.out⟩,by simp[RowKit.intOf];omega⟩
  ·obtain rfl:i=r:=by omega
   have hiI:¬ (i:Int)<i:=by omega
   rw[←HN.out,pv_full] at bv
   have s0:=bs.c0
   have s1:=bs.c1
   have s2:=bs.c2
   have sl:=bs.lt
   have x0:=bx.c0
   have x1:=bx.c1
   have x2:=bx.c2
   have x3:=bx.frozen 0
   have x4:=bx.frozen 1
   have x5:=bx.frozen 2
   have xl:=bx.lt
   have hXg2:¬ X=g:=by omega
   have G1:=Lib.hid (((bx.set 0 (.int .i64 i)).set 1 (.int .i64 c)).set 2 (.slice (some ⟨g,0,none⟩) n n))
   have G2:=Lib.hid (((Bx.other (a:=⟨X,0,none⟩) bv hXg2 (.int .i64 i)).other (a:=⟨X,1,none⟩) hXg2 (.int .i64 c)).other (a:=⟨X,2,none⟩) hXg2 (.slice (some ⟨g,0,none⟩) n n))
   have G3:=Lib.hid (((hin.setCell (p:=⟨X,0,none⟩) (Nat.le_refl _) (.int .i64 i)).setCell (p:=⟨X,1,none⟩) (Nat.le_refl _) (.int .i64 c)).setCell (p:=⟨X,2,none⟩) (Nat.le_refl _) (.slice (some ⟨g,0,none⟩) n n))
   clear hin bx bs bv
   go_wp2_with fail
   have g1:=G1.out
   have g2:=G2.out
   have g3:=G3.out
   clear G1 G2 G3 s0 s1 s2 sl x0 x1 x2 x3 x4 x5 xl
   generalize ((wr.setCell ⟨X,0,none⟩ (.int .i64 i)).setCell ⟨X,1,none⟩ (.int .i64 c)).setCell ⟨X,2,none⟩ (.slice (some ⟨g,0,none⟩) n n)=W5 at *
   have e0:W5.cell? ⟨X,0,none⟩=some (.int .i64 i):=g1.cell 0
   have e1:W5.cell? ⟨X,1,none⟩=some (.int .i64 c):=g1.cell 1
   have e2:W5.cell? ⟨X,2,none⟩=some (.slice (some ⟨g,0,none⟩) n n):=g1.cell 2
   have hv:VBx W5 g (dense i c F):=by
    have:=g2
    rw[HN.out] at this
    exact this
   have hN:=HN.out
   refine bodyPost_ret (v:=.tuple #[.agg #[.int .i64 i,.int .i64 c,.slice (some ⟨g,0,none⟩) n n],.int .i64 0]) ?_ rfl ⟨⟨_,rfl,g,n,hN,rfl,hv⟩,by rw[←HX.out];exact g3.bel⟩
   simp[results,Tryz.results100,go_sem,e0,e1,e2]
theorem make_str (F:Nat→Nat→Rat) (w:World) (r c:Nat) (g0:Nat) (cb:Array Value) (eg:∀ args w,(callFunc g0 args).run Tryz.prog w=.ok (.enter g0 args) w) (hr:r≤2048) (hc:c≤2048)
  (hcl:∀ i k W,i<r→k<c→In w.heap.size w W→Calls Tryz.prog g0 (#[.int .i64 (i:Nat),.int .i64 (k:Nat)] ++ cb) W fun e w'=>e=.returned (fracV (F i k))∧Below W.heap.size W w') :
  Calls Tryz.prog 100 #[.int .i64 r,.int .i64 c,.func (.func g0) #[] cb] w fun e w'=>(∃ d,e=.returned (.tuple #[d,.int .i64 0])∧MatS w' d r c F)∧Below w.heap.size w w':=
 make_fst F w r c g0 #[] cb eg hr hc fun i k W hi hk h=>by rw[Array.empty_append];exact hcl i k W hi hk h
theorem make_any (F:Nat→Nat→Rat) (w:World) (r c:Nat) (g0:Nat) (cb:Array Value) (eg:∀ args w,(callFunc g0 args).run Tryz.prog w=.ok (.enter g0 args) w) (hr:r≤2048) (hc:c≤2048)
  (hcl:∀ i k W,i<r→k<c→In w.heap.size w W→Calls Tryz.prog g0 (#[.int .i64 (i:Nat),.int .i64 (k:Nat)] ++ cb) W fun e w'=>e=.returned (fracV (F i k))∧Below W.heap.size W w') :
  Calls Tryz.prog 100 #[.int .i64 r,.int .i64 c,.func (.func g0) #[] cb] w fun e w'=>(∃ d,e=.returned (.tuple #[d,.int .i64 0])∧MatAt w' d r c (dense r c F))∧Below w.heap.size w w':=
 (make_str F w r c g0 cb eg hr hc hcl).mono fun _ _ ⟨⟨d,h1,h2⟩,h3⟩=>⟨⟨d,h1,h2.mat⟩,h3⟩
end Gus
end
section
namespace Gus
open Go Go.RowKit Go.Proofs
def IdxPost (w:World) (xs:List Int) (p:Int→Bool) (e:Ending) (w':World):Prop:=(∃ z:Int,e=.returned (.int .i64 z)∧decide (0≤z)=xs.any p)∧Below w.heap.size w w'
set_option maxRecDepth 100000 in
set_option maxHeartbeats 2000000 in
theorem idx_any (p:Int→Bool) (w:World) (a:Option Addr) (cap:Nat) (xs:List Int) (hx:IntsAt w a xs) (hl:xs.length≤4096) (g:Nat) (cb:Array Value) (eg:∀ args w,(callFunc g args).run Tryz.prog w=.ok (.enter g args) w)
  (hcl:∀ x W,In w.heap.size w W→Calls Tryz.prog g (#[.int .i64 (x:Int)] ++ cb) W fun e w'=>e=.returned (.bool (p x))∧Below W.heap.size W w') :
  Calls Tryz.prog 157 #[.slice a xs.length cap,.func (.func g) #[] cb] w (IdxPost w xs p):=by
 obtain⟨L,hL⟩:∃ L,L=xs.length:=⟨_,rfl⟩
 unfold IntsAt at hx
 rw[←hL] at hx hl ⊢
 have HX:=Lib.hid hx
 have HC:=Lib.hid hcl
 have HL:=Lib.hid hL
 clear hx hcl hL
 go_enter Tryz.func157,Tryz.ntmps157
 go_wp2_with fail
 go_loopw [8] (fun v8 wr=>∃ i:Nat,i≤L∧v8=.int .i64 i∧In w.heap.size w wr∧Hid (xs.any p=(xs.drop i).any p)) (fun v8 _=>L - (RowKit.intOf v8).toNat)
 case atStart=>exact⟨0,Nat.zero_le _,rfl,In.self _,Lib.hid rfl⟩
 case round=>
  obtain⟨i,hi,rfl,hin,HA⟩:=hrel
  by_cases hiL:i<L
  ·obtain⟨b,off,rfl,hb,hc⟩:=HX.out i hiL
   have hd:=drop_getD xs 0 (show i<xs.length by rw[←HL.out];exact hiL)
   obtain⟨x,hx⟩:∃ x,x=xs.getD i 0:=⟨_,rfl⟩
   rw[←hx] at hc hd
   rw[←hin.cell b _ hb] at hc
   have hbw:b<wr.heap.size:=by have:=hin.siz;omega
   have hcon:=HC.out x wr hin
   have hiI:(i:Int)<L:=by omega
   have hi0:(0:Int)≤i:=by omega
   have hiw:IntKind.i64.wrap ((i:Int)+1)=((i+1:Nat):Int):=IntWalk.i64_in _ (by omega)
   have ha:=HA.out
   rw[hd,List.any_cons] at ha
   obtain⟨y,hy⟩:∃ y,y=p x:=⟨_,rfl⟩
   rw[←hy] at hcon ha
   have HAA:=Lib.hid ha
   clear hd hx hy ha HA
   rcases y with _ | _
   ·go_wp2_with fail
    (refine hcon.mono ?_)
    rintro e w2 ⟨rfl,hb2⟩
    have hin2:=hin.call hb2
    clear hb2 hcon hc hbw hin
    go_wp2_with fail
    exact⟨⟨i+1,by omega,by go_num,hin2,Lib.hid (by rw[HAA.out,Bool.false_or])⟩,by simp[RowKit.intOf];omega⟩
   ·go_wp2_with fail
    (refine hcon.mono ?_)
    rintro e w2 ⟨rfl,hb2⟩
    have hin2:=hin.call hb2
    clear hb2 hcon hc hbw hin
    go_wp2_with fail
    go_ret
    exact⟨⟨i,rfl,by rw[HAA.out,Bool.true_or];exact decide_eq_true hi0⟩,hin2.bel⟩
  ·have hiI:¬ (i:Int)<L:=by omega
   have ha:=HA.out
   rw[List.drop_eq_nil_of_le (by rw[←HL.out];omega)] at ha
   have HAA:=Lib.hid ha
   clear ha HA
   go_wp2_with fail
   go_ret
   exact⟨⟨-1,rfl,by rw[HAA.out];rfl⟩,hin.bel⟩
theorem cont_any (p:Int→Bool) (w:World) (a:Option Addr) (cap:Nat) (xs:List Int) (hx:IntsAt w a xs) (hl:xs.length≤4096) (g:Nat) (cb:Array Value) (eg:∀ args w,(callFunc g args).run Tryz.prog w=.ok (.enter g args) w)
  (hcl:∀ x W,In w.heap.size w W→Calls Tryz.prog g (#[.int .i64 (x:Int)] ++ cb) W fun e w'=>e=.returned (.bool (p x))∧Below W.heap.size W w') :
  Calls Tryz.prog 116 #[.slice a xs.length cap,.func (.func g) #[] cb] w fun e w'=>e=.returned (.bool (xs.any p))∧Below w.heap.size w w':=by
 have h1:=idx_any p w a cap xs hx hl g cb eg hcl
 obtain⟨y,hy⟩:∃ y,y=xs.any p:=⟨_,rfl⟩
 rw[←hy]
 have HY:=Lib.hid hy
 clear hy hx hcl
 go_enter Tryz.func116,Tryz.ntmps116
 go_wp2_with fail
 (with_reducible refine h1.mono ?_)
 rintro e w2 ⟨⟨z,rfl,hz⟩,hb⟩
 rw[←HY.out] at hz
 have HZ:=Lib.hid hz
 clear hz h1
 go_wp2_with fail
 go_ret
 exact⟨(show Ending.returned (.bool (decide (0≤z)))=.returned (.bool y) by rw[HZ.out]),hb⟩
def outI (n:Nat) (x:Int):Bool:=!(decide (0≤x) && decide (x<n))
theorem mhas_any (i n:Int) (w:World) :
  Calls Tryz.prog 118 #[.int .i64 i,.int .i64 n] w fun e w'=>e=.returned (.bool (decide (0≤i) && decide (i<n)))∧Below w.heap.size w w':=by
 by_cases h1:0≤i <;> by_cases h2:i<n <;> simp only[h1,h2,decide_true,decide_false,Bool.and_true,Bool.and_false]
 all_goals
  go_enter Tryz.func118,Tryz.ntmps118
  go_wp2_with fail
  go_ret
  exact⟨rfl,by exact tfin⟩
end Gus
end
section
namespace Gus
open Go Go.RowKit Go.Proofs
theorem mprt1_any (W:World) (b:Nat) (n m:Nat) (sl:Value) (hB:Bx W b 37 [.int .i64 n,.int .i64 m,sl]) (x:Int) :
  Calls Tryz.prog 117 #[.int .i64 x,.pointer (some ⟨b,0,none⟩)] W fun e w'=>e=.returned (.bool (outI n x))∧Below W.heap.size W w':=by
 have h1:=mhas_any x n
 unfold outI
 obtain⟨y,hy⟩:∃ y,y=(decide (0≤x) && decide (x<(n:Int))):=⟨_,rfl⟩
 rw[←hy] at h1 ⊢
 have x0:=hB.c0
 have xl:=hB.lt
 clear hy hB
 go_enter Tryz.func117,Tryz.ntmps117
 go_wp2_with fail
 ((with_reducible refine(h1 _).mono ?_))
 rintro e w2 ⟨rfl,hb⟩
 clear h1
 go_wp2_with fail
 go_ret
 exact⟨rfl,hb⟩
theorem mprt2_any (W:World) (b:Nat) (n m:Nat) (sl:Value) (hB:Bx W b 37 [.int .i64 n,.int .i64 m,sl]) (x:Int) :
  Calls Tryz.prog 119 #[.int .i64 x,.pointer (some ⟨b,0,none⟩)] W fun e w'=>e=.returned (.bool (outI m x))∧Below W.heap.size W w':=by
 have h1:=mhas_any x m
 unfold outI
 obtain⟨y,hy⟩:∃ y,y=(decide (0≤x) && decide (x<(m:Int))):=⟨_,rfl⟩
 rw[←hy] at h1 ⊢
 have x1:=hB.c1
 have xl:=hB.lt
 clear hy hB
 go_enter Tryz.func119,Tryz.ntmps119
 go_wp2_with fail
 ((with_reducible refine(h1 _).mono ?_))
 rintro e w2 ⟨rfl,hb⟩
 clear h1
 go_wp2_with fail
 go_ret
 exact⟨rfl,hb⟩
theorem not_out {n:Nat} {xs:List Int} (h:xs.any (outI n)=false) {i:Nat} (hi:i<xs.length):∃ k:Nat,xs.getD i 0=k∧k<n:=by
 have hm:xs.getD i 0∈xs:=by
  rw[List.getD_eq_getElem?_getD,List.getElem?_eq_getElem hi];exact List.getElem_mem hi
 have:=List.any_eq_false.1 h _ hm
 unfold outI at this
 simp only[Bool.not_eq_true',Bool.not_eq_false,Bool.and_eq_true,decide_eq_true_eq] at this
 obtain⟨k,hk⟩:=Int.eq_ofNat_of_zero_le this.1
 exact⟨k,hk,by omega⟩
def partF (f:Nat→Nat→Rat) (xs ys:List Int) (i k:Nat):Rat:=f (xs.getD i 0).toNat (ys.getD k 0).toNat
end Gus
end
