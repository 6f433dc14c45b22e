/- Proved here: parts of the proof: KDns KDnb KLof KSma KArg. Conditions: those that each theorem states. -/
import Derived.Test.YthblojaeoiemmaaGreatDoorKSameQ
import Derived.Deep.SlicePairs
import Derived.Carry
section
namespace Gus
open Go Go.RowKit Go.Proofs
def den (r c:Nat) (f:Nat→Nat→Rat) (t:List (Nat×Nat×Rat)):List Rat:=(List.range (r*c)).map fun p=>if t.any (fun x=>x.1*c+x.2.1 == p) then 0 else f (p / c) (p % c)
def dense (r c:Nat) (f:Nat→Nat→Rat):List Rat:=(List.range (r*c)).map fun p=>f (p / c) (p % c)
theorem den_length (r c:Nat) (f:Nat→Nat→Rat) (t:List (Nat×Nat×Rat)):(den r c f t).length=r*c:=by simp[den]
theorem dense_length (r c:Nat) (f:Nat→Nat→Rat):(dense r c f).length=r*c:=by simp[dense]
theorem den_nil (r c:Nat) (f:Nat→Nat→Rat):den r c f []=dense r c f:=by simp[den,dense]
theorem pos_of {c i k:Nat} (hk:k<c):(i*c+k) / c=i∧(i*c+k) % c=k:=by
 have hc0:0<c:=by omega
 exact⟨by rw[Nat.mul_comm,Nat.mul_add_div hc0,Nat.div_eq_of_lt hk,Nat.add_zero],by rw[Nat.mul_comm,Nat.mul_add_mod,Nat.mod_eq_of_lt hk]⟩
theorem pos_lt {r c i k:Nat} (hi:i<r) (hk:k<c):i*c+k<r*c:=by
 have:=Nat.mul_le_mul_right c (show i+1≤r by omega)
 rw[Nat.add_mul,Nat.one_mul] at this
 omega
theorem pos_split {r c p:Nat} (hp:p<r*c):p / c<r∧p % c<c∧p / c*c+p % c=p:=by
 have hc0:0<c:=by
  rcases Nat.eq_zero_or_pos c with e | e
  ·rw[e,Nat.mul_zero] at hp;omega
  ·exact e
 exact⟨by rw[Nat.div_lt_iff_lt_mul hc0];exact hp,Nat.mod_lt _ hc0,by rw[Nat.mul_comm];exact Nat.div_add_mod p c⟩
theorem den_all (r c:Nat) (f:Nat→Nat→Rat):den r c f (items r c f)=List.replicate (r*c) 0:=by
 apply List.ext_getElem
 ·simp[den]
 ·intro p h1 h2
  have hp:p<r*c:=by simpa[den] using h1
  obtain⟨a1,a2,a3⟩:=pos_split hp
  simp only[den,List.getElem_map,List.getElem_range,List.getElem_replicate]
  by_cases hz:f (p / c) (p % c)=0
  ·split
   ·rfl
   ·exact hz
  ·rw[if_pos]
   exact List.any_eq_true.2 ⟨(p / c,p % c,f (p / c) (p % c)),mem_items.2 ⟨a1,a2,hz,rfl⟩,by simpa using a3⟩
theorem den_set {r c i k:Nat} {q:Rat} {f:Nat→Nat→Rat} {t pre:List (Nat×Nat×Rat)} (h:items r c f=pre ++ (i,k,q) :: t):i<r∧k<c∧q=f i k∧(den r c f ((i,k,q) :: t)).set (i*c+k) q=den r c f t:=by
 have hm:(i,k,q)∈items r c f:=by rw[h];exact List.mem_append.2 (.inr (.head _))
 obtain⟨hi,hk,hz,hq⟩:=mem_items.1 hm
 refine⟨hi,hk,hq, ?_⟩
 have ho:=items_once r c f
 rw[h,List.pairwise_append,List.pairwise_cons] at ho
 have hnot:=ho.2.1.1
 have ht:∀ x∈t,x.1<r∧x.2.1<c:=fun x hx=>by
  have:=mem_items.1 (show(x.1,x.2.1,x.2.2)∈items r c f by rw[h];exact List.mem_append.2 (.inr (.tail _ hx)))
  exact⟨this.1,this.2.1⟩
 apply List.ext_getElem
 ·simp[den]
 ·intro p h1 h2
  have hp:p<r*c:=by simpa[den] using h2
  rw[List.getElem_set]
  simp only[den,List.getElem_map,List.getElem_range]
  by_cases he:i*c+k=p
  ·rw[if_pos he,←he,(pos_of (i:=i) hk).1,(pos_of (i:=i) hk).2,if_neg,hq]
   rw[List.any_eq_true]
   rintro⟨x,hx,e⟩
   have e:=of_decide_eq_true e
   have hxt:=ht x hx
   have e1:=congrArg (· / c) e
   have e2:=congrArg (· % c) e
   simp only[(pos_of (i:=i) hk).1,(pos_of (i:=i) hk).2,(pos_of (i:=x.1) hxt.2).1,(pos_of (i:=x.1) hxt.2).2] at e1 e2
   exact hnot x hx ⟨e1.symm,e2.symm⟩
  ·rw[if_neg he,List.any_cons]
   rw[show((i*c+k == p)=false) by simpa using he,Bool.false_or]
theorem dense_getD {r c i k:Nat} (f:Nat→Nat→Rat) (hi:i<r) (hk:k<c):(dense r c f).getD (i*c+k) 0=f i k:=by
 have hp:=pos_lt hi hk
 rw[List.getD_eq_getElem?_getD,List.getElem?_eq_getElem (by rw[dense_length];exact hp)]
 simp[dense,(pos_of (i:=i) hk).1,(pos_of (i:=i) hk).2]
theorem fcs_inj {q:Rat} {A1 A4:Int} {A2 A5:ByteArray} {A3:Bool} (h:fcs q=[.int .u64 A1,.string A2,.bool A3,.int .u64 A4,.string A5]):(lo q.num.natAbs:Int)=A1∧bg q.num.natAbs=A2∧decide (q.num<0)=A3∧(lo (q.den - 1):Int)=A4∧bg (q.den - 1)=A5:=by
 simpa[fcs] using h
theorem VBx.setA {w:World} {g:Nat} {qs:List Rat} (h:VBx w g qs) (i:Nat) (q:Rat) (hi:i<qs.length) {A1 A4:Int} {A2 A5:ByteArray} {A3:Bool} (hq:fcs q=[.int .u64 A1,.string A2,.bool A3,.int .u64 A4,.string A5]) :
  VBx (((((w.setCell ⟨g,i*5,none⟩ (.int .u64 A1)).setCell ⟨g,i*5+1,none⟩ (.string A2)).setCell ⟨g,i*5+2,none⟩ (.bool A3)).setCell ⟨g,i*5+3,none⟩ (.int .u64 A4)).setCell ⟨g,i*5+4,none⟩ (.string A5)) g (qs.set i q):=by
 obtain⟨rfl,rfl,rfl,rfl,rfl⟩:=fcs_inj hq
 exact VBx.set h i q hi
theorem gr_putA (w:World) (g i:Nat) (v0 v1 v2 v3 v4:Value) :
  w.grownBy (((((w.setCell ⟨g,i*5,none⟩ v0).setCell ⟨g,i*5+1,none⟩ v1).setCell ⟨g,i*5+2,none⟩ v2).setCell ⟨g,i*5+3,none⟩ v3).setCell ⟨g,i*5+4,none⟩ v4) (some g):=
 ((((gr_cell w ⟨g,i*5,none⟩ _).trans (gr_cell _ ⟨g,i*5+1,none⟩ _)).trans (gr_cell _ ⟨g,i*5+2,none⟩ _)).trans (gr_cell _ ⟨g,i*5+3,none⟩ _)).trans (gr_cell _ ⟨g,i*5+4,none⟩ _)
set_option maxRecDepth 100000 in
set_option maxHeartbeats 2000000 in
theorem dns1_any (W:World) (g bm bs r c n i k cap:Nat) (a:Option Addr) (q:Rat) (qs:List Rat) (hm:Bx W bm 37 [.int .i64 r,.int .i64 c,.slice (some ⟨g,0,none⟩) n n]) (hs:Bx W bs 27 [.int .i64 r,.int .i64 c,.slice a r cap]) (hg:VBx W g qs) (hn:qs.length=n) (hi:i*c+k<n) (hn4:n≤4194304) :
  Calls Tryz.prog 114 #[.int .i64 i,.int .i64 k,fracV q,.pointer (some ⟨bm,0,none⟩),.pointer (some ⟨bs,0,none⟩)] W fun e w'=>e=.returned (.tuple #[])∧VBx w' g (qs.set (i*c+k) q)∧W.grownBy w' (some g):=by
 obtain⟨A1,A2,A3,A4,A5,hA,hA2⟩:∃ A1 A2 A3 A4 A5,fracV q=.agg #[.int .u64 A1,.string A2,.bool A3,.int .u64 A4,.string A5]∧fcs q=[.int .u64 A1,.string A2,.bool A3,.int .u64 A4,.string A5]:=⟨_,_,_,_,_,rfl,rfl⟩
 obtain⟨t,ht⟩:∃ t,t=i*c+k:=⟨_,rfl⟩
 obtain⟨d,hd⟩:∃ d,d=i*c:=⟨_,rfl⟩
 have hw1:IntKind.i64.wrap ((i:Int)*c)=(d:Int):=by rw[hd,←Int.natCast_mul];exact IntWalk.i64_in _ (by omega)
 have hw2:IntKind.i64.wrap ((d:Int)+k)=(t:Int):=by rw[ht,hd,←Int.natCast_add];exact IntWalk.i64_in _ (by omega)
 rw[←ht] at hi ⊢
 have htn:(t:Int)<n:=by omega
 have ht0:(0:Int)≤t:=by omega
 obtain⟨o,ho⟩:∃ o:Obj,o=.cells #[.int .u64 A1,.string A2,.bool A3,.int .u64 A4,.string A5] 72:=⟨_,rfl⟩
 have H3:=Lib.hid (Bx.alloc (hg.setA t q (by omega) hA2) o)
 have H4:=Lib.hid ((gr_putA W g t (.int .u64 A1) (.string A2) (.bool A3) (.int .u64 A4) (.string A5)).trans (World.grownBy_alloc _ o (some g)))
 rw[ho] at H3 H4
 obtain⟨B1,B2,B3,B4,B5,_,c0,c1,c2,c3,c4,g0,g1,g2,g3,g4⟩:=VBx.cells hg (i:=t) (by omega)
 have m0:=hm.c0
 have m1:=hm.c1
 have m2:=hm.c2
 have s0:=hs.c0
 have s1:=hs.c1
 have s2:=hs.c2
 have hml:=hm.lt
 have hsl:=hs.lt
 have hgl:=hg.lt
 rw[hA]
 clear hm hs hg ht hd hA hA2 ho hn
 go_enter Tryz.func114,Tryz.ntmps114
 go_wp2_with fail
 go_end0
 exact⟨rfl,H3.out,H4.out⟩
end Gus
end
section
namespace Gus
open Go Go.RowKit Go.Proofs
theorem info_frac6 (L:Nat) (hL:L≤4194304) (w:World):(Instr.makeSlice 31 (.int .i64 (L:Int)) (.int .i64 (L:Int))).run Tryz.prog w =
  .ok (.slice (some ⟨w.heap.size,0,none⟩) L L) (w.alloc (.cells (fcl (List.replicate L 0)).toArray 72)):=by
 obtain⟨i0,hi,hz0,hz1,hz2⟩:=info_parts info_frac5
 have:=run_make (P:=Tryz.prog) w 31 72 i0 _ Tryz.underlying31 hi hz0 .i64 .i64 L L (by omega) (Int.le_refl _) (by rw[hz2];omega) (by omega)
 rw[this]
 simp only[Int.toNat_natCast,hz1]
 rw[made_frac]
def NewD (X r c n:Nat) (fc:List Value) (x:Value) (w:World):Prop:=∃ g,x=.agg #[.int .i64 r,.int .i64 c,.slice (some ⟨g,0,none⟩) n n]∧X≤g∧Bx w g 72 fc
theorem stable_newD (X r c n:Nat) (fc:List Value):Stable (NewD X r c n fc):=fun _ _ _ ⟨R,h1,h2,h3⟩ hs=>⟨R,h1,h2,h3.call hs⟩
set_option maxRecDepth 100000 in
set_option maxHeartbeats 4000000 in
theorem dense_okc (w:World) (v:Value) (r c:Nat) (f:Nat→Nat→Rat) (hS:SpM w v r c f) (hr:r≤2048) (hc:c≤2048) :
  Calls Tryz.prog 69 #[v] w fun e w'=>(∃ g n,n=r*c∧e=.returned (.tuple #[.agg #[.int .i64 r,.int .i64 c,.slice (some ⟨g,0,none⟩) n n],.int .i64 0])∧VBx w' g (dense r c f))∧Below w.heap.size w w':=by
 have hck:=fun W (hb:Below w.heap.size w W)=>scheck_ok (hS.call hb) hr hc
 obtain⟨a,cap,rfl⟩:=hS.shape
 obtain⟨X,hX⟩:∃ X,X=w.heap.size:=⟨_,rfl⟩
 have HX:=Lib.hid hX
 have HS:=Lib.hid hS
 obtain⟨n,hn⟩:∃ n,n=r*c:=⟨_,rfl⟩
 have hn4:n≤4194304:=by rw[hn];exact Nat.mul_le_mul hr hc
 have HN:=Lib.hid hn
 have HMK:=Lib.hid (info_frac6 n hn4)
 have hwm:IntKind.i64.wrap ((r:Int)*c)=(n:Int):=by rw[hn,←Int.natCast_mul];exact IntWalk.i64_in _ (by rw[←hn];omega)
 obtain⟨fc,hfc⟩:∃ fc,fc=fcl (List.replicate n 0):=⟨_,rfl⟩
 have HF:=Lib.hid hfc
 rw[←hfc] at HMK
 clear hS hn hfc
 go_enter Tryz.func69,Tryz.ntmps69
 go_wp2_with fail
 ((with_reducible refine(hck _ ?_).mono ?_))
 ·exact(((In.self w).alloc _).alloc _).bel
 rintro e w2 ⟨rfl,hb⟩
 have hin:=(((In.self w).alloc (.cells #[.int .i64 r,.int .i64 c,.slice a r cap] 27)).alloc (.cells #[.int .i64 0,.int .i64 0,.slice none 0 0] 37)).call hb
 have bx:=((Bx.new_at w #[.int .i64 r,.int .i64 c,.slice a r cap] 27 hX).alloc (.cells #[.int .i64 0,.int .i64 0,.slice none 0 0] 37)).call hb
 have bq:=(Bx.new_at (w.alloc (.cells #[.int .i64 r,.int .i64 c,.slice a r cap] 27)) #[.int .i64 0,.int .i64 0,.slice none 0 0] 37 (n:=X+1) (by rw[World.size_alloc,hX])).call hb
 rw[←hX] at hin ⊢
 clear hX hck hb
 have x0:=bx.c0
 have x1:=bx.c1
 have x2:=bx.c2
 have hxl:=bx.lt
 go_upto_region 4 with fail
 have h:=In.self w2
 have hc':=h.cell
 refine tfw 12 ?_;refine tset ?_;(repeat (first | refine tfs ?_))
 (with_reducible refine flow_slice (t:=72) (zs:=fc.toArray) (n:=n) ?_ ?_ ?_ ?_);(focus (with_reducible rfl));(focus rfl);(focus (intro u w1 hw hd;replace hd:=thn hd;go_simp;rw[HMK.out];simp[Result.andThen]))
 (with_reducible refine flow_rel (Vi:=NewD w2.heap.size r c n fc) false ?_ ?_ ?_ ?_ ?_ ?_)
 case refine_1=>rfl
 case refine_2=>rfl
 case refine_3=>exact stable_newD _ _ _ _ _
 case refine_4=>exact placed_false _
 case refine_5=>
  intro u w1 hw hd
  replace hd:=thn hd
  obtain⟨e1,e2,R,e3,e4,e5⟩:=hd
  go_simp
  exact⟨⟨⟨R,rfl,e4,e5⟩,fun h=>by cases h⟩,St.refl _⟩
 (repeat (first | refine tfs ?_))
 have hcc:=hc
 (try clear hc hf h);intro u w' h ha hdi;replace h:=tsz h.ins;replace ha:=tah ha;have hc:=h.cell;have hf:=h.frozen
 obtain⟨⟨⟨ha,R2,hu12,_,_⟩,g,hu13,hXg,bg⟩,S,hu14,hSX,bS⟩:=ha
 have hSg:S≠g:=fun e=>by
  subst e
  have e1:=bg
  have e2:=bS
  unfold Bx at e1 e2
  rw[e1] at e2
  simp at e2
 (try obtain ha:=ha);(try dsimp only);simp only[ha,hu12,hu13,hu14];clear ha hdi hu12 hu13 hu14
 have hXS:X+1<S:=by have:=bq.lt;omega
 have hXG:X+1<g:=by have:=bq.lt;omega
 have bx1:=bx.call h.bel
 have bq1:=bq.call h.bel
 have hin1:=hin.call h.bel
 have f0:=bS.frozen 0
 have f1:=bS.frozen 1
 have f2:=bS.frozen 2
 have s0:=bS.c0
 have s1:=bS.c1
 have s2:=bS.c2
 have hsl:=bS.lt
 have bS2:=((bS.set 0 (.int .i64 r)).set 1 (.int .i64 c)).set 2 (.slice (some ⟨g,0,none⟩) n n)
 have bg2:=((bg.other (a:=⟨S,0,none⟩) hSg (.int .i64 r)).other (a:=⟨S,1,none⟩) hSg (.int .i64 c)).other (a:=⟨S,2,none⟩) hSg (.slice (some ⟨g,0,none⟩) n n)
 have bx2:=((bx1.other (a:=⟨S,0,none⟩) (by simp;omega) (.int .i64 r)).other (a:=⟨S,1,none⟩) (by simp;omega) (.int .i64 c)).other (a:=⟨S,2,none⟩) (by simp;omega) (.slice (some ⟨g,0,none⟩) n n)
 have bq2:=((bq1.other (a:=⟨S,0,none⟩) (by simp;omega) (.int .i64 r)).other (a:=⟨S,1,none⟩) (by simp;omega) (.int .i64 c)).other (a:=⟨S,2,none⟩) (by simp;omega) (.slice (some ⟨g,0,none⟩) n n)
 have hin2:=((hin1.setCell (p:=⟨S,0,none⟩) (by simp;omega) (.int .i64 r)).setCell (p:=⟨S,1,none⟩) (by simp;omega) (.int .i64 c)).setCell (p:=⟨S,2,none⟩) (by simp;omega) (.slice (some ⟨g,0,none⟩) n n)
 have he:=each_any (fun t W=>Bx W S 37 [.int .i64 r,.int .i64 c,.slice (some ⟨g,0,none⟩) n n]∧Bx W X 27 [.int .i64 r,.int .i64 c,.slice a r cap]∧Bx W (X+1) 37 [.int .i64 0,.int .i64 0,.slice none 0 0]∧VBx W g (den r c f t)∧In w.heap.size w W∧∃ pre,items r c f=pre ++ t)
  w _ (.agg #[.int .i64 r,.int .i64 c,.slice a r cap]) r c (mrows r c f) 114 #[.pointer (some ⟨S,0,none⟩),.pointer (some ⟨X,0,none⟩)] (enters_of Tryz.func114 (by kernel_rfl) rfl) HS.out (fun t W h=>h.2.2.2.2.1) (fun t W W' h hb=>⟨h.1.call hb,h.2.1.call hb,h.2.2.1.call hb,h.2.2.2.1.call hb,h.2.2.2.2.1.call hb,h.2.2.2.2.2⟩)
  (fun i k x t W ⟨h1,h2,h3,h4,h5,pre,h6⟩=>by
   obtain⟨hi,hk,hq,hset⟩:=den_set h6
   refine(dns1_any W g S X r c n i k cap a x _ h1 h2 h4 (by rw[den_length,HN.out]) (by rw[HN.out];exact pos_lt hi hk) hn4).mono ?_
   rintro e w' ⟨rfl,k1,k2⟩
   rw[hset] at k1
   exact⟨rfl,h1.grown k2 (by simp;omega),h2.grown k2 (by simp;omega),h3.grown k2 (by simp;omega),k1,h5.grown k2 (by rw[←HX.out];omega),pre ++ [(i,k,x)],by rw[h6];simp⟩)
  (by rw[mrows_length];omega) (fun i=>Nat.le_trans (mrows_row r c f i) (by omega))
  ⟨bS2,bx2,bq2,by rw[show itemsF 0 (mrows r c f)=items r c f from rfl,den_all,←HN.out];rw[HF.out] at bg2;exact bg2,by rw[←HX.out];exact hin2,[],rfl⟩
 have x0:=bx1.c0
 have x1:=bx1.c1
 have x2:=bx1.c2
 have hxl:=bx1.lt
 clear bS bg bS2 bg2 bx2 bq2 hin2 bx1 bq1 hin1 bx bq hin hc hf h
 go_wp2_with fail
 (with_reducible refine he.mono ?_)
 rintro e w4 ⟨rfl,h1,h2,h3,h4,h5,_⟩
 rw[den_nil] at h4
 have hsl4:=h1.lt
 have hql4:=h3.lt
 have s0:=h1.c0
 have s1:=h1.c1
 have s2:=h1.c2
 have q0:=h3.c0
 have q1:=h3.c1
 have q2:=h3.c2
 have q3:=h3.frozen 0
 have q4:=h3.frozen 1
 have q5:=h3.frozen 2
 have G1:=Lib.hid (((h3.set 0 (.int .i64 r)).set 1 (.int .i64 c)).set 2 (.slice (some ⟨g,0,none⟩) n n))
 have hne:¬ X+1=g:=by omega
 have G2:=Lib.hid (((Bx.other (a:=⟨X+1,0,none⟩) h4 hne (.int .i64 r)).other (a:=⟨X+1,1,none⟩) hne (.int .i64 c)).other (a:=⟨X+1,2,none⟩) hne (.slice (some ⟨g,0,none⟩) n n))
 have G3:=Lib.hid (((h5.setCell (p:=⟨X+1,0,none⟩) (by rw[←HX.out];simp) (.int .i64 r)).setCell (p:=⟨X+1,1,none⟩) (by rw[←HX.out];simp) (.int .i64 c)).setCell (p:=⟨X+1,2,none⟩) (by rw[←HX.out];simp) (.slice (some ⟨g,0,none⟩) n n))
 clear he x0 x1 x2 h1 h2 h3 h4 h5
 go_wp2_with fail
 have g1:=G1.out
 have g2:=G2.out
 have g3:=G3.out
 clear G1 G2 G3 q0 q1 q2 q3 q4 q5 s0 s1 s2
 generalize ((w4.setCell ⟨X+1,0,none⟩ (.int .i64 r)).setCell ⟨X+1,1,none⟩ (.int .i64 c)).setCell ⟨X+1,2,none⟩ (.slice (some ⟨g,0,none⟩) n n)=W5 at *
 have e0:W5.cell? ⟨X+1,0,none⟩=some (.int .i64 r):=g1.cell 0
 have e1:W5.cell? ⟨X+1,1,none⟩=some (.int .i64 c):=g1.cell 1
 have e2:W5.cell? ⟨X+1,2,none⟩=some (.slice (some ⟨g,0,none⟩) n n):=g1.cell 2
 refine bodyPost_ret (v:=.tuple #[.agg #[.int .i64 r,.int .i64 c,.slice (some ⟨g,0,none⟩) n n],.int .i64 0]) ?_ rfl ⟨⟨g,n,HN.out,rfl,g2⟩,g3.bel⟩
 simp[results,Tryz.results69,go_sem,e0,e1,e2]
end Gus
end
section
namespace Gus
open Go Go.RowKit Go.Proofs
section
variable {P:Program} {ops:Array Oper} {w0:World} {A:(Nat→Value)→Act} {T:Act→World→Prop} {i:Nat} {o:Oper} {os:List Oper} {V:Nat→(Nat→Value)→Value→World→Prop} {Φ:Nat→Bool}
end
theorem QAt.call {w w':World} {a:Option Addr} {qs:List (Int×Int)} (h:QAt w a qs) (hb:Below w.heap.size w w'):QAt w' a qs:=fun i hi=>by
 obtain⟨b,off,h1,h2,h3,h4⟩:=h i hi
 exact⟨b,off,h1,Nat.lt_of_lt_of_le h2 hb.size,by rw[hb.cell (p:=⟨b,_,none⟩) h2];exact h3,by rw[hb.cell (p:=⟨b,_,none⟩) h2];exact h4⟩
def VRow (w:World) (g:Nat) (qs:List Rat):Prop:=∃ rest,Bx w g 72 (fcl qs ++ rest)
theorem VRow.call {w w':World} {g:Nat} {qs:List Rat} (h:VRow w g qs) (hb:Below w.heap.size w w'):VRow w' g qs:=let ⟨r,h⟩:=h;⟨r,h.call hb⟩
theorem VRow.own {w:World} {base n:Nat} {v:Value} {qs:List Rat} (h:w.ownsRow base 72 5 v n (fcl qs)) (hn:0<n):∃ g cap,v=.slice (some ⟨g,0,none⟩) n cap∧base≤g∧VRow w g qs:=by
 rcases h.2 with ⟨_,h0⟩|⟨g,cap,cur,rfl,hb,hg,_,_,_,ht⟩
 ·omega
 ·refine⟨g,cap,rfl,hb,cur.toList.drop (n*5), ?_⟩
  unfold Bx
  rw[←ht,List.take_append_drop,hg]
theorem VRow.other {w:World} {g:Nat} {qs:List Rat} {a:Addr} (h:VRow w g qs) (hne:a.block≠g) (u:Value):VRow (w.setCell a u) g qs:=let ⟨r,h⟩:=h;⟨r,h.other hne u⟩
theorem fcl_at_app (qs:List Rat) (rest:List Value) {i j:Nat} (hi:i<qs.length) (hj:j<5):(fcl qs ++ rest)[i*5+j]?=(fcs (qs.getD i 0))[j]?:=by
 rw[List.getElem?_append_left (by rw[fcl_length];omega),fcl_at qs i j hi hj]
theorem VRow.at {w:World} {g:Nat} {qs:List Rat} (h:VRow w g qs) (n:Nat) (hn:n=qs.length) (cap:Nat):VecAt w (.slice (some ⟨g,0,none⟩) n cap) qs:=by
 subst hn
 obtain⟨rest,h⟩:=h
 exact⟨_,_,rfl,fun i hi=>⟨g,0,rfl,h.lt,fun j hj=>by rw[h.cell,Nat.zero_add,fcl_at_app qs rest hi hj],_,_,h⟩⟩
theorem VRow.cells {w:World} {g:Nat} {qs:List Rat} (h:VRow w g qs) {i:Nat} (hi:i<qs.length):∃ A1 A2 A3 A4 A5,fracV (qs.getD i 0)=.agg #[.int .u64 A1,.string A2,.bool A3,.int .u64 A4,.string A5] ∧
  w.cell? ⟨g,i*5,none⟩=some (.int .u64 A1)∧w.cell? ⟨g,i*5+1,none⟩=some (.string A2)∧w.cell? ⟨g,i*5+2,none⟩=some (.bool A3)∧w.cell? ⟨g,i*5+3,none⟩=some (.int .u64 A4)∧w.cell? ⟨g,i*5+4,none⟩=some (.string A5) ∧
  w.frozen? ⟨g,i*5,none⟩=false∧w.frozen? ⟨g,i*5+1,none⟩=false∧w.frozen? ⟨g,i*5+2,none⟩=false∧w.frozen? ⟨g,i*5+3,none⟩=false∧w.frozen? ⟨g,i*5+4,none⟩=false:=by
 obtain⟨rest,h⟩:=h
 have hc:=fun j hj=>(h.cell (i*5+j)).trans (fcl_at_app qs rest hi hj)
 exact⟨_,_,_,_,_,rfl,hc 0 (by decide),hc 1 (by decide),hc 2 (by decide),hc 3 (by decide),hc 4 (by decide),h.frozen _,h.frozen _,h.frozen _,h.frozen _,h.frozen _⟩
theorem VRow.setA {w:World} {g:Nat} {qs:List Rat} (h:VRow w g qs) (i:Nat) (q:Rat) (hi:i<qs.length) {A1 A4:Int} {A2 A5:ByteArray} {A3:Bool} (hq:fcs q=[.int .u64 A1,.string A2,.bool A3,.int .u64 A4,.string A5]) :
  VRow (((((w.setCell ⟨g,i*5,none⟩ (.int .u64 A1)).setCell ⟨g,i*5+1,none⟩ (.string A2)).setCell ⟨g,i*5+2,none⟩ (.bool A3)).setCell ⟨g,i*5+3,none⟩ (.int .u64 A4)).setCell ⟨g,i*5+4,none⟩ (.string A5)) g (qs.set i q):=by
 obtain⟨rfl,rfl,rfl,rfl,rfl⟩:=fcs_inj hq
 obtain⟨rest,h⟩:=h
 refine⟨rest, ?_⟩
 have h5:=((((Bx.set h (i*5) (.int .u64 (lo q.num.natAbs))).set (i*5+1) (.string (bg q.num.natAbs))).set (i*5+2) (.bool (decide (q.num<0)))).set (i*5+3) (.int .u64 (lo (q.den - 1)))).set (i*5+4) (.string (bg (q.den - 1)))
 have hl:=fcl_length qs
 rw[List.set_append_left _ _ (by omega),List.set_append_left _ _ (by rw[List.length_set];omega),List.set_append_left _ _ (by simp only[List.length_set];omega),List.set_append_left _ _ (by simp only[List.length_set];omega),List.set_append_left _ _ (by simp only[List.length_set];omega),fcl_set qs i q hi] at h5
 exact h5
theorem VecAt.apart {w:World} {v x:Value} {qs:List Rat} {S n k:Nat} {p q:Int} {ao:Option Addr} (h:VecAt w v qs) (hS:Bx w S 37 [.int .i64 p,.int .i64 q,.slice ao n k]) (j:Nat):VecAt (w.setCell ⟨S,j,none⟩ x) v qs:=h.grown hS (by decide) (gr_cell w ⟨S,j,none⟩ x)
theorem MatAt.put3 {w:World} {v:Value} {r c n k n' k':Nat} {p q p' q':Int} {ao ao':Option Addr} {qs:List Rat} {S:Nat} (h:MatAt w v r c qs) (hS:Bx w S 37 [.int .i64 p,.int .i64 q,.slice ao n k]) :
  MatAt (((w.setCell ⟨S,0,none⟩ (.int .i64 p')).setCell ⟨S,1,none⟩ (.int .i64 q')).setCell ⟨S,2,none⟩ (.slice ao' n' k')) v r c qs:=by
 obtain⟨x,h1,h2,h3⟩:=h
 have s1:=hS.set 0 (.int .i64 p')
 have s2:=s1.set 1 (.int .i64 q')
 exact⟨x,h1,h2,((h3.apart hS 0).apart s1 1).apart s2 2⟩
theorem VecAt.all {w:World} {n k:Nat} {a:Addr} {qs:List Rat} (h:VecAt w (.slice (some a) n k) qs) (j:Nat) (u:Value) (hj:(fcl qs)[j]?=some u):w.cell? (a.add j)=some u:=by
 obtain⟨a',cap,h1,h2⟩:=h
 injection h1 with e1
 subst e1
 have hlt:j<qs.length*5:=by
  have:=(List.getElem?_eq_some_iff.1 hj).1
  rw[fcl_length] at this;exact this
 obtain⟨b,off,h3,_,h5⟩:=h2 (j / 5) (by omega)
 injection h3 with h3
 subst h3
 have h6:=h5 (j % 5) (by omega)
 rw[←fcl_at qs (j / 5) (j % 5) (by omega) (by omega),show j / 5*5+j % 5=j by omega,hj,show off+j / 5*5+j % 5=off+j by omega] at h6
 rw[Addr.add_lit]
 exact h6
theorem MatAt.other {w:World} {ab ao L k r c g:Nat} {p q:Value} {qs:List Rat} (h:MatAt w (.agg #[p,q,.slice (some ⟨ab,ao,none⟩) L k]) r c qs) (hne:g≠ab) (j:Nat) (u:Value):MatAt (w.setCell ⟨g,j,none⟩ u) (.agg #[p,q,.slice (some ⟨ab,ao,none⟩) L k]) r c qs:=by
 obtain⟨x,h1,h2,h3⟩:=h
 have h5:=h1
 simp only[Value.agg.injEq] at h1
 have h4:=congrArg Array.toList h1
 simp only[List.cons.injEq,and_true] at h4
 obtain⟨a,cap,e1,e2⟩:=h3
 refine⟨x,h5,h2,a,cap,e1,fun i hi=>?_⟩
 obtain⟨b,off,e3,e4,e5⟩:=e2 i hi
 rw[←h4.2.2] at e1
 simp only[Value.slice.injEq] at e1
 obtain⟨e1,_⟩:=e1
 rw[e3] at e1
 simp only[Option.some.injEq,Addr.mk.injEq,and_true] at e1
 exact⟨b,off,e3,by rw[World.size_setCell];exact e4,fun j' hj=>by rw[World.cell?_setCell_other _ _ _ _ (by intro e;injection e with e6 e7;exact hne (e6.trans e1.1.symm))];exact e5 j' hj,by rw[heap_setCell_other w ⟨g,j,none⟩ b u (show b≠g from fun e=>hne (e.symm.trans e1.1.symm))];exact e5.typed⟩
theorem MatAt.len {w:World} {p q:Value} {a:Option Addr} {L k r c:Nat} {qs:List Rat} (h:MatAt w (.agg #[p,q,.slice a L k]) r c qs):L=r*c:=by
 obtain⟨x,h1,h2,h3⟩:=h
 obtain⟨a',k',rfl⟩:=h3.shape
 simp only[Value.agg.injEq] at h1
 have h4:=congrArg Array.toList h1
 simp only[List.cons.injEq,Value.slice.injEq,and_true] at h4
 omega
end Gus
end
section
namespace Gus
open Go Go.RowKit Go.Proofs Go.ChangeShapes Go.WideShapes Go.ChangeAt Go.Deep
section
variable {H:Type} {enc:TypeId×Value→H} {W:World} {base:Nat} {sp:Nat→Bool} {held:Bool}
theorem laidOut:laidOutB Tryz.prog=true:=by kernel_rfl
theorem args_stay {W':World} {sp':Nat→Bool} (hb:Below W.heap.size W W'):∀ {ts:List TypeId} {vs:List Value} {ds:List (DataW H)} {p:List MemPlace},(∀ t∈ts,Tryz.prog.readableRec t=true∧t<Tryz.prog.types.size)→DataW.TrodAll enc Tryz.prog W 0 (fun _=>true) true ts vs ds p→(∀ x∈p,x.block<W.heap.size)→(∀ x∈p,sp' x.block=true)→DataW.TrodAll enc Tryz.prog W' 0 sp' true ts vs ds p
 | [],_,_,_,_,h,_,_=>by
  obtain⟨rfl,rfl,rfl⟩:=trodAll_nil h
  exact trodAll_mk0
 | t :: ts,_,_,_,hts,h,hlt,hsp=>by
  obtain⟨v,vs,d,ds,p,q,rfl,rfl,rfl,h0,h1⟩:=trodAll_cons h
  exact trodAll_cons_mk (WideElems.Trod_stays laidOut (hts t (.head _)).1 (hts t (.head _)).2 h0 (fun x hx=>hb.same (hlt x (List.mem_append.2 (.inl hx)))) (fun x hx=>hsp x (List.mem_append.2 (.inl hx))))
   (args_stay hb (fun t ht=>hts t (List.mem_cons_of_mem _ ht)) h1 (fun x hx=>hlt x (List.mem_append.2 (.inr hx))) (fun x hx=>hsp x (List.mem_append.2 (.inr hx))))
theorem cell_in {w:World} {a:Addr} {v:Value} (h:w.cell? a=some v):a.block<w.heap.size:=by
 rcases Nat.lt_or_ge a.block w.heap.size with h1 | h1
 ·exact h1
 ·have:w.heap[a.block]?=none:=by simp[h1]
  simp[World.cell?,this] at h
set_option maxRecDepth 100000 in
theorem open_qs {fuel:Nat} {cs:List Value} {x:DataW H×List MemPlace} (h:DataW.trod enc Tryz.prog W base sp held fuel 23 cs=some x) :
  ∃ a qs cap,cs=[.slice a (List.length qs) cap]∧QAt W a qs∧QOk qs∧qs.length≤maxLen:=by
 rcases open_slice_pairs (P:=Tryz.prog) Tryz.underlying23 Tryz.underlying101 (by kernel_rfl) rfl rfl (by kernel_rfl) (by kernel_rfl) h with ⟨rfl,_⟩|⟨a,len,cap,m,n,V0,V1,D0,D1,P0,P1,rfl,_,hlc,hcm,hm,_,hx⟩
 ·exact⟨none,[],0,rfl,fun i hi=>absurd hi (Nat.not_lt_zero _),fun p hp=>by(cases hp),Nat.zero_le _⟩
 ·have hlm:len≤m:=by rw[hm];split <;> omega
  have hz:∀ i,i<len→∃ z0 z1:Int,V0 i=.int .i64 z0∧V1 i=.int .u32 z1∧(Lit.int .i64 z0).wf=true∧(Lit.int .u32 z1).wf=true:=fun i hi=>by
   obtain⟨_,_,h2,h3⟩:=hx i (by omega)
   obtain⟨z0,g0,_,w0⟩:=DataW.trod_int Tryz.underlying2 h2
   obtain⟨z1,g1,_,w1⟩:=DataW.trod_int Tryz.underlying99 h3
   simp only[List.cons.injEq,and_true] at g0 g1
   exact⟨z0,z1,g0,g1,w0,w1⟩
  refine⟨some a,(List.range len).map fun i=>(RowKit.intOf (V0 i),RowKit.intOf (V1 i)),cap,by rw[List.length_map,List.length_range],fun i hi=>?_,fun p hp=>?_,by rw[List.length_map,List.length_range];omega⟩
  ·rw[List.length_map,List.length_range] at hi
   obtain⟨z0,z1,e0,e1,_,_⟩:=hz i hi
   obtain⟨c0,c1,_,_⟩:=hx i (by omega)
   obtain⟨b,off,spot⟩:=a
   obtain rfl:spot=none:=by
    have hs:=World.cell?_spot (hx 0 (by omega)).1
    simpa[Addr.add] using hs
   rw[add_plain] at c0 c1
   refine⟨b,off,rfl,cell_in c0, ?_, ?_⟩
   ·rw[Nat.mul_comm,c0,e0];simp[hi,e0,RowKit.intOf]
   ·rw[Nat.mul_comm,Nat.add_assoc,c1,e1];simp[hi,e1,RowKit.intOf]
  ·obtain⟨i,hi,rfl⟩:=List.mem_map.1 hp
   obtain⟨z0,z1,e0,e1,w0,w1⟩:=hz i (List.mem_range.1 hi)
   have b0:=bounds_i64 w0
   have b1:=bounds_u32 w1
   simp only[e0,e1,RowKit.intOf]
   exact⟨b0.1,by omega,b1.1,by omega⟩
set_option maxRecDepth 100000 in
theorem open_vec {b0:Nat} {v:Value} {d:DataW H} {ps:List MemPlace} (hval:Value.okWide Tryz.prog W .any b0 23 v) (hd:DataW.Trod enc Tryz.prog W base sp held 23 v d ps) :
  ∃ a qs cap,v=.slice a (List.length qs) cap∧QAt W a qs∧QOk qs∧qs.length≤maxLen:=by
 obtain⟨a,len,cap,rfl⟩:=okWide_slice Tryz.underlying23 hval
 obtain⟨fuel,hf⟩:=hd
 obtain⟨a',qs,cap',e,h1,h2,h3⟩:=open_qs hf
 simp[Value.cells] at e
 obtain⟨rfl,rfl,rfl⟩:=e
 exact⟨a,qs,cap,rfl,h1,h2,h3⟩
end
end Gus
end
