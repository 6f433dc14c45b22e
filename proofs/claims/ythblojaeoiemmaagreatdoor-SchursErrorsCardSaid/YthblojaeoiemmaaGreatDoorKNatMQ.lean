/- Proved here: parts of the proof: KNatM KBox KNatN KInt. Conditions: those that each theorem states. -/
import Derived.Test.YthblojaeoiemmaaGreatDoorKNatLQ
import Derived.RegionTactic
import Derived.Deep.LoopGhost
section
namespace Gus
open Go Go.RowKit Go.Proofs
set_option maxRecDepth 100000 in
set_option maxHeartbeats 400000 in
theorem div_lt (m n:Nat) (hmn:m<n) (hm:(wd m).length≤549755813888) (hn:(wd n).length≤549755813888) (w:World) :
  Calls Tryz.prog 136 #[natV m,natV n] w fun e w'=>e=.returned (.tuple #[natV 0,natV m,.bool true])∧Below w.heap.size w w':=by
 have hq:=cmpN_lt hmn
 have hn0:¬ n=0:=by omega
 go_enter Tryz.func136,Tryz.ntmps136
 go_wp2_with fail
 (refine(zero_any n _).mono ?_;rintro e w' ⟨rfl,hb⟩;have h:=tsz ((In.self _).call hb);clear hb;have hc:=h.cell;have hf:=h.frozen)
 go_wp2_with fail
 (refine(Cmp_any m n (by omega) (by omega) _).mono ?_;rintro e w' ⟨rfl,hb⟩;replace h:=In.call tin hb;clear hb hc hf;have hc:=h.cell;have hf:=h.frozen)
 go_wp2_with fail
 go_region
 go_wp2_with fail
 exact bodyPost_ret (v:=.tuple #[.agg #[.int .u64 0,.string ⟨#[]⟩],.agg #[.int .u64 (lo m),.string (bg m)],.bool true]) (by simp[results,Tryz.results136,go_sem,hc]) rfl ⟨rfl,by exact tfin⟩
set_option maxRecDepth 100000 in
set_option maxHeartbeats 400000 in
theorem div_small (m n:Nat) (hn0:¬ n=0) (hmn:n≤m) (hs:m<18446744073709551616) (w:World) :
  Calls Tryz.prog 136 #[natV m,natV n] w fun e w'=>e=.returned (.tuple #[natV (m / n),natV (m % n),.bool true])∧Below w.heap.size w w':=by
 have hwl:∀ k,k<18446744073709551616→(wd k).length≤2:=fun k hk=>wd_length (by simpa using hk)
 have hw1:=hwl m hs
 have hw2:=hwl n (by omega)
 clear hwl
 have hcn:¬ cmpN m n<0:=fun h=>by have:=(cmpN_neg m n).1 h;omega
 have hC:=Cmp_any m n (by omega) (by omega)
 have hZ:=zero_any n
 obtain⟨q,hq⟩:∃ q,q=m / n:=⟨_,rfl⟩
 obtain⟨r,hr⟩:∃ r,r=m % n:=⟨_,rfl⟩
 have hqI:(m:Int) / n=q:=by rw[hq];exact(Int.natCast_ediv m n).symm
 have hrI:(m:Int) % n=r:=by rw[hr];exact(Int.natCast_emod m n).symm
 have hql:q≤m:=by rw[hq];exact Nat.div_le_self m n
 have hrl:r≤m:=by rw[hr];exact Nat.mod_le m n
 rw[←hq,←hr]
 have hw3:IntKind.u64.wrap (q:Int)=q:=by simp[IntKind.wrap,IntKind.bits,IntKind.signed];omega
 have e1:natV q=.agg #[.int .u64 (q:Int),.string ⟨#[]⟩]:=by rw[natV,lo_small (by omega),bg_small (by omega)];rfl
 have e2:natV r=.agg #[.int .u64 (r:Int),.string ⟨#[]⟩]:=by rw[natV,lo_small (by omega),bg_small (by omega)];rfl
 have e3:natV m=.agg #[.int .u64 (m:Int),.string ⟨#[]⟩]:=by rw[natV,lo_small (by omega),bg_small (by omega)];rfl
 have e4:natV n=.agg #[.int .u64 (n:Int),.string ⟨#[]⟩]:=by rw[natV,lo_small (by omega),bg_small (by omega)];rfl
 rw[e1,e2,e3,e4]
 rw[e3,e4] at hC
 rw[e4] at hZ
 clear e1 e2 e3 e4 hq hr
 have hn1:¬ (n:Int)=0:=by omega
 go_enter Tryz.func136,Tryz.ntmps136
 go_wp2_with fail
 (refine(hZ _).mono ?_;rintro e w' ⟨rfl,hb⟩;have h:=tsz ((In.self _).call hb);clear hb;have hc:=h.cell;have hf:=h.frozen)
 go_wp2_with fail
 (refine(hC _).mono ?_;rintro e w' ⟨rfl,hb⟩;replace h:=In.call tin hb;clear hb hc hf;have hc:=h.cell;have hf:=h.frozen)
 go_wp2_with fail
 go_region
 go_wp2_with fail
 exact bodyPost_ret (v:=.tuple #[.agg #[.int .u64 (q:Int),.string ⟨#[]⟩],.agg #[.int .u64 (r:Int),.string ⟨#[]⟩],.bool true]) (by simp[results,Tryz.results136,go_sem,hc]) rfl ⟨rfl,by exact tfin⟩
theorem top_ne {ys:List Nat} {k n:Nat} (h:ys.take (k+1)=wd n) (hl:(wd n).length=k+1):ys.getD k 0≠0:=by
 have h1:=wd_nrm n
 have hk:k<ys.length:=by have:=congrArg List.length h;rw[List.length_take,hl] at this;omega
 rw[←h,List.take_succ_eq_append_getElem hk,Nrm.snoc] at h1
 simpa[hk] using h1
theorem one_word {ys:List Nat} {n:Nat} (h:ys.take 1=wd n) (hl:(wd n).length=1):ys.getD 0 0=n:=by
 have hv:=wd_val n
 rw[←h] at hv
 have hk:0<ys.length:=by have:=congrArg List.length h;rw[List.length_take,hl] at this;omega
 rw[List.take_succ_eq_append_getElem hk] at hv
 simpa[val,hk] using hv
theorem div_eqs {m n q r:Nat} (h:m=q*n+r) (hr:r<n):q=m / n∧r=m % n:=by
 have h1:m / n=q:=by rw[h,Nat.mul_comm,Nat.mul_add_div (by omega),Nat.div_eq_of_lt hr,Nat.add_zero]
 have h2:m % n=r:=by rw[h,Nat.mul_comm,Nat.mul_add_mod,Nat.mod_eq_of_lt hr]
 exact⟨h1.symm,h2.symm⟩
set_option maxRecDepth 100000 in
set_option maxHeartbeats 2000000 in
theorem div_big (m n:Nat) (hn0:¬ n=0) (hmn:n≤m) (hs:¬ m<18446744073709551616) (hm:(wd m).length≤549755813888) (w:World) :
  Calls Tryz.prog 136 #[natV m,natV n] w fun e w'=>e=.returned (.tuple #[natV (m / n),natV (m % n),.bool true])∧Below w.heap.size w w':=by
 have hn:(wd n).length≤(wd m).length:=by
  refine Decidable.by_contra fun hh=>?_
  have:=lt_of_length (m:=m) (n:=n) (by omega)
  omega
 have hcn:¬ cmpN m n<0:=fun h=>by have:=(cmpN_neg m n).1 h;omega
 have he1:=smallB_eq m
 rw[smallB_false hs] at he1
 have hwn0:=wd_ne_nil hn0
 obtain⟨W0,hW0⟩:∃ W0,W0=(((w.alloc (.cells #[.int .u64 (lo m),.string (bg m)] 66)).alloc (.cells #[.int .u64 (lo n),.string (bg n)] 66)).alloc (.cells #[.int .u64 0,.string ⟨#[]⟩] 66)).alloc (.cells #[.int .u64 0,.string ⟨#[]⟩] 66):=⟨_,rfl⟩
 obtain⟨N,hN⟩:∃ N,N=w.heap.size:=⟨_,rfl⟩
 have c0:W0.cell? ⟨N,0,none⟩=some (.int .u64 (lo m)):=by rw[hW0,hN];simp[go_sem]
 have c1:W0.cell? ⟨N,1,none⟩=some (.string (bg m)):=by rw[hW0,hN];simp[go_sem]
 have c2:W0.cell? ⟨N+1,0,none⟩=some (.int .u64 (lo n)):=by rw[hW0,hN];simp[go_sem]
 have c3:W0.cell? ⟨N+1,1,none⟩=some (.string (bg n)):=by rw[hW0,hN];simp[go_sem]
 have c4:W0.cell? ⟨N+1+1,0,none⟩=some (.int .u64 0):=by rw[hW0,hN];simp[go_sem]
 have c5:W0.cell? ⟨N+1+1,1,none⟩=some (.string ⟨#[]⟩):=by rw[hW0,hN];simp[go_sem]
 have c6:W0.cell? ⟨N+1+1+1,0,none⟩=some (.int .u64 0):=by rw[hW0,hN];simp[go_sem]
 have c7:W0.cell? ⟨N+1+1+1,1,none⟩=some (.string ⟨#[]⟩):=by rw[hW0,hN];simp[go_sem]
 have f4:W0.frozen? ⟨N+1+1,0,none⟩=false:=by rw[hW0,hN];simp[go_sem]
 have f5:W0.frozen? ⟨N+1+1,1,none⟩=false:=by rw[hW0,hN];simp[go_sem]
 have f6:W0.frozen? ⟨N+1+1+1,0,none⟩=false:=by rw[hW0,hN];simp[go_sem]
 have f7:W0.frozen? ⟨N+1+1+1,1,none⟩=false:=by rw[hW0,hN];simp[go_sem]
 have hin:In N w W0:=by rw[hW0,hN];exact((((In.self w).alloc _).alloc _).alloc _).alloc _
 have h0:In (N+1+1+1+1) W0 W0:=by have:=In.self W0;rw[hW0,World.size_alloc,World.size_alloc,World.size_alloc,World.size_alloc,←hW0,←hN] at this;exact this
 have HIN:=Lib.hid hin
 have HW:=Lib.hid hW0
 have HN:=Lib.hid hN
 clear hin hW0 hN
 go_enter Tryz.func136,Tryz.ntmps136
 go_upto_region 1 with fail
 rw[←HW.out,←HN.out]
 go_wp2_with fail
 refine(zero_any n _).mono ?_
 rintro e wa ⟨rfl,hba⟩
 have h:=h0.call hba
 clear hba
 have hc':=h.cell
 have hf':=h.frozen
 go_wp2_with fail
 refine(Cmp_any m n (by omega) (by omega) _).mono ?_
 rintro e wb ⟨rfl,hba⟩
 replace h:=h.call hba
 clear hba hc' hf'
 have hc':=h.cell
 have hf':=h.frozen
 go_wp2_with fail
 refine(words_any n (by omega) _).mono ?_
 rintro e w2 ⟨b2,ys,rfl,hy,hy1,hy2,hy3,hy4,hy5,hb2⟩
 have A2:WordsAt w2 b2 ys n:=⟨hy,hy1,hy2,hy3,hy4⟩
 replace h:=h.call hb2
 clear hy hy1 hy2 hy3 hy4 hy5 hb2 hc' hf'
 have hc':=h.cell
 have hf':=h.frozen
 obtain⟨L,hL⟩:∃ L,L=(wd n).length:=⟨_,rfl⟩
 have hL0:L≠0:=fun h0=>hwn0 (List.eq_nil_of_length_eq_zero (by rw[←hL,h0]))
 rw[←hL] at hn ⊢
 obtain⟨Y,hY⟩:∃ Y,Y=ys.length:=⟨_,rfl⟩
 rw[←hY]
 have HY:=Lib.hid hY
 have HL:=Lib.hid hL
 clear hL hY hwn0
 by_cases h1:L=1
 ·subst h1
  have hw1:=one_word (by have:=A2.tk;rwa [←HL.out] at this) HL.out.symm
  have hnl:n<4294967296:=by rw[←hw1];exact A2.dig.getD 0
  have hY1:1≤Y:=by have:=A2.le;rwa [←HL.out,←HY.out] at this
  have hcy:=A2.blk.cell (i:=0) (by rw[←HY.out];omega)
  rw[hw1] at hcy
  have hb2l:=A2.blk.lt
  have k0:w2.cell? ⟨N,0,none⟩=some (.int .u64 (lo m)):=by rw[hc' _ _ (by omega)];exact c0
  have k1:w2.cell? ⟨N,1,none⟩=some (.string (bg m)):=by rw[hc' _ _ (by omega)];exact c1
  have hNl:N<w2.heap.size:=by have:=h.siz;omega
  have hS:=(In.self w2).drew
  have hn1:0<n:=by omega
  have HW1:=Lib.hid hw1
  clear hw1 hL0 c0 c1 c2 c3 he1 hcn hn0
  go_upto_region 9 with fail
  refine wp_region_mix (In w2.heap.size w2) [(0,true),(2,true),(3,true),(4,true),(1,false),(5,false),(6,true),(7,true),(8,true),(9,true),(10,true)] (by kernel_rfl) (by kernel_rfl) (by kernel_rfl) (by kernel_rfl) (fun _ _ d _ _ h=>by cases d <;> exact h) ?_ ?_
  ·exact hS
  clear hc' hf'
  repeat (apply mix_take;(focus rfl);(focus rfl);(focus (intro w' hw';have hc':=hw'.cell;go_simp;exact rfl));refine tput ?_)
  (apply mix_run;(focus rfl);(focus rfl);intro K hK;go_simp)
  refine(words_any m (by omega) _).mono ?_
  rintro e w3 ⟨b1,xs,rfl,hx,hx1,hx2,hx3,hx4,hx5,hb3⟩
  have h3:=hS.call hb3
  (refine hK _ _ (h3) ?_;clear hK K;refine tput ?_)
  (apply mix_run;(focus rfl);(focus rfl);intro K hK;go_simp)
  refine(short_any _ b1 (wd m).length xs.length n xs hx hx4 hx2 (by omega) hn1 hnl).mono ?_
  rintro e w4 ⟨ds,r,rfl,hd,hdl,hdd,hr,hdv,hb4⟩
  have h4:=h3.call hb4
  rw[hx1,wd_val] at hdv
  obtain⟨hq,hr2⟩:=div_eqs hdv hr
  obtain⟨G,hG⟩:∃ G,G=w3.heap.size:=⟨_,rfl⟩
  obtain⟨K1,hK1⟩:∃ K1,K1=(wd m).length:=⟨_,rfl⟩
  rw[←hG] at hd ⊢
  rw[←hK1] at hdl hm hn ⊢
  have HG:=Lib.hid hG
  have HK1:=Lib.hid hK1
  have HQ:=Lib.hid hq
  have HR:=Lib.hid hr2
  have HDL:=Lib.hid hdl
  clear hG hK1 hq hr2 hdl hx hx1 hx2 hx3 hx4 hx5 hb3 hb4 h3 hdv
  (refine hK _ _ (h4) ?_;clear hK K;refine tput ?_)
  repeat (apply mix_take;(focus rfl);(focus rfl);(focus (intro w' hw';go_simp;exact rfl));refine tput ?_)
  refine mix_done ?_
  have h5:In (N+1+1+1+1) W0 w4:=h4.out h h.siz
  have hc':=h5.cell
  have hf':=h5.frozen
  clear h4 h hS k0 k1 hcy hNl hb2l
  go_wp2_with fail
  refine(of_any _ G K1 K1 ds hd hdd (by rw[HDL.out];exact Nat.le_refl _) (Nat.le_refl _) (by omega) (by omega)).mono ?_
  rintro e w6 ⟨rfl,hb6⟩
  replace h5:=h5.call hb6
  rw[List.take_of_length_le (by rw[HDL.out];exact Nat.le_refl _),HQ.out]
  clear hb6 hc' hf' hd
  have hc':=h5.cell
  have hf':=h5.frozen
  go_wp2_with fail
  exact bodyPost_ret (v:=.tuple #[natV (m / n),.agg #[.int .u64 (r:Nat),.string ⟨#[]⟩],.bool true]) (by simp[results,Tryz.results136,go_sem,hc',c4,c5,c6,c7]) rfl
   ⟨by rw[←HR.out,natV,natV,lo_small (n:=r) (by omega),bg_small (n:=r) (by omega)];rfl,by rw[←HN.out];exact(((((h5.out HIN.out (by omega)).setCell (by simp;omega) _).setCell (by simp;omega) _).setCell (by simp;omega) _).setCell (by simp;omega) _).bel⟩
 ·obtain⟨p,hp⟩:∃ p,L=p+2:=⟨L - 2,by omega⟩
  subst hp
  have hne:(((p+2:Nat):Int) == 1)=false:=by simp;omega
  clear hL0 h1
  go_wp2_with fail
  refine(words_any m (by omega) _).mono ?_
  rintro e w3 ⟨b1,xs,rfl,hx,hx1,hx2,hx3,hx4,hx5,hb3⟩
  have A3:=A2.call hb3
  replace h:=h.call hb3
  clear hb3 A2 hc' hf' he1 hcn hx5
  have hc':=h.cell
  have hf':=h.frozen
  have htop:=top_ne (by have:=A3.tk;rwa [←HL.out] at this) HL.out.symm
  have hlong:=long_any w3 b1 (wd m).length xs.length b2 p Y xs ys hx A3.blk hx4 A3.dig hx2 (by have:=A3.le;rwa [←HL.out] at this) htop hn (by omega)
  have hv2:val (ys.take (p+2))=n:=by have:=A3.tk;rw[←HL.out] at this;rw[this,wd_val]
  rw[hx1,wd_val,hv2] at hlong
  obtain⟨K1,hK1⟩:∃ K1,K1=(wd m).length:=⟨_,rfl⟩
  obtain⟨X1,hX1⟩:∃ X1,X1=xs.length:=⟨_,rfl⟩
  rw[←hK1,←hX1] at hlong ⊢
  rw[←hK1] at hm hn
  have HLONG:=Lib.hid hlong
  clear hlong htop hv2 hK1 hX1 hx hx1 hx2 hx3 hx4 A3 c0 c1 c2 c3 hne
  go_wp2_with fail
  refine HLONG.out.mono ?_
  rintro e w4 ⟨bu,us,bq,qs,T,rfl,hu,hq,hul,hql,hT,hud,hqd,hqv,huv,hb4⟩
  replace h:=h.call hb4
  clear hb4 hc' hf' HLONG
  have hc':=h.cell
  have hf':=h.frozen
  have HQV:=Lib.hid hqv
  have HUV:=Lib.hid huv
  have HQL:=Lib.hid hql
  have HUL:=Lib.hid hul
  clear hqv huv hql hul
  go_wp2_with fail
  refine(of_any _ bq T T qs hq hqd (by rw[HQL.out];exact Nat.le_refl _) (Nat.le_refl _) (by omega) (by omega)).mono ?_
  rintro e w5 ⟨rfl,hb5⟩
  replace h:=h.call hb5
  rw[List.take_of_length_le (by rw[HQL.out];exact Nat.le_refl _),HQV.out]
  have hu5:=hu.call hb5
  clear hb5 hc' hf' hq hu
  have hc':=h.cell
  have hf':=h.frozen
  go_wp2_with fail
  refine(of_any _ bu (K1+1) (K1+1) us hu5 hud (by rw[HUL.out];exact Nat.le_refl _) (Nat.le_refl _) (by omega) (by omega)).mono ?_
  rintro e w6 ⟨rfl,hb6⟩
  replace h:=h.call hb6
  rw[List.take_of_length_le (by rw[HUL.out];exact Nat.le_refl _),HUV.out]
  clear hb6 hc' hf' hu5
  have hc':=h.cell
  have hf':=h.frozen
  go_wp2_with fail
  exact bodyPost_ret (v:=.tuple #[natV (m / n),natV (m % n),.bool true]) (by simp[results,Tryz.results136,go_sem,hc',c4,c5,c6,c7]) rfl
   ⟨rfl,by rw[←HN.out];exact(((((h.out HIN.out (by omega)).setCell (by simp;omega) _).setCell (by simp;omega) _).setCell (by simp;omega) _).setCell (by simp;omega) _).bel⟩
theorem div_any (m n:Nat) (hn0:¬ n=0) (hm:(wd m).length≤549755813888) (hn:(wd n).length≤549755813888) (w:World) :
  Calls Tryz.prog 136 #[natV m,natV n] w fun e w'=>e=.returned (.tuple #[natV (m / n),natV (m % n),.bool true])∧Below w.heap.size w w':=by
 by_cases h:m<n
 ·have:=div_lt m n h hm hn w
  rwa [Nat.div_eq_of_lt h,Nat.mod_eq_of_lt h]
 ·by_cases hs:m<18446744073709551616
  ·exact div_small m n hn0 (by omega) hs w
  ·exact div_big m n hn0 (by omega) hs hm w
end Gus
end
section
namespace Gus
open Go Go.RowKit Go.Proofs
def Bx (w:World) (b:Nat) (T:TypeId) (cs:List Value):Prop:=w.heap[b]?=some (.cells cs.toArray T (0,0))
section
variable {w w':World} {b:Nat} {T:TypeId} {cs:List Value}
theorem Bx.cell (h:Bx w b T cs) (i:Nat):w.cell? ⟨b,i,none⟩=cs[i]?:=by
 unfold World.cell?
 have h':w.heap[b]?=_:=h
 simp[h']
theorem Bx.frozen (h:Bx w b T cs) (i:Nat):w.frozen? ⟨b,i,none⟩=false:=frozen_of_row w b i _ _ h
theorem Bx.lt (h:Bx w b T cs):b<w.heap.size:=(Array.getElem?_eq_some_iff.1 h).1
theorem Bx.below {N:Nat} (h:Bx w b T cs) (hb:Below N w w') (hN:b<N):Bx w' b T cs:=by
 unfold Bx;rw[hb.block b hN];exact h
theorem Bx.call (h:Bx w b T cs) (hb:Below w.heap.size w w'):Bx w' b T cs:=h.below hb h.lt
theorem Bx.alloc (h:Bx w b T cs) (o:Obj):Bx (w.alloc o) b T cs:=(Below.heap_alloc w o b h.lt).trans h
theorem Bx.drew (h:Bx w b T cs):Bx w.drew b T cs:=h
theorem Bx.grown {row:Option Nat} (h:Bx w b T cs) (hg:w.grownBy w' row) (hr:some b≠row):Bx w' b T cs:=by
 unfold Bx;rw[hg.block b h.lt hr];exact h
theorem Bx.set (h:Bx w b T cs) (i:Nat) (v:Value):Bx (w.setCell ⟨b,i,none⟩ v) b T (cs.set i v):=by
 unfold Bx
 rw[heap_setCell_same w b i _ _ _ h]
 simp
theorem Bx.other {a:Addr} (h:Bx w b T cs) (hne:a.block≠b) (v:Value):Bx (w.setCell a v) b T cs:=by
 unfold Bx;rw[heap_setCell_other w a b v (Ne.symm hne)];exact h
theorem Bx.new (w:World) (cs:Array Value) (T:TypeId):Bx (w.alloc (.cells cs T (0,0))) w.heap.size T cs.toList:=by
 unfold Bx;exact heap_alloc_new w _
theorem Bx.new_at (w:World) (cs:Array Value) (T:TypeId) {n:Nat} (hn:n=w.heap.size):Bx (w.alloc (.cells cs T (0,0))) n T cs.toList:=by
 subst hn;exact .new w cs T
theorem Bx.c0 {x0:Value} {l:List Value} (h:Bx w b T (x0 :: l)):w.cell? ⟨b,0,none⟩=some x0:=h.cell 0
theorem Bx.c1 {x0 x1:Value} {l:List Value} (h:Bx w b T (x0 :: x1 :: l)):w.cell? ⟨b,1,none⟩=some x1:=h.cell 1
theorem Bx.c2 {x0 x1 x2:Value} {l:List Value} (h:Bx w b T (x0 :: x1 :: x2 :: l)):w.cell? ⟨b,2,none⟩=some x2:=h.cell 2
theorem Bx.c3 {x0 x1 x2 x3:Value} {l:List Value} (h:Bx w b T (x0 :: x1 :: x2 :: x3 :: l)):w.cell? ⟨b,3,none⟩=some x3:=h.cell 3
theorem Bx.c4 {x0 x1 x2 x3 x4:Value} {l:List Value} (h:Bx w b T (x0 :: x1 :: x2 :: x3 :: x4 :: l)):w.cell? ⟨b,4,none⟩=some x4:=h.cell 4
theorem Bx.c5 {x0 x1 x2 x3 x4 x5:Value} {l:List Value} (h:Bx w b T (x0 :: x1 :: x2 :: x3 :: x4 :: x5 :: l)):w.cell? ⟨b,5,none⟩=some x5:=h.cell 5
theorem Bx.c6 {x0 x1 x2 x3 x4 x5 x6:Value} {l:List Value} (h:Bx w b T (x0 :: x1 :: x2 :: x3 :: x4 :: x5 :: x6 :: l)):w.cell? ⟨b,6,none⟩=some x6:=h.cell 6
theorem Bx.c7 {x0 x1 x2 x3 x4 x5 x6 x7:Value} {l:List Value} (h:Bx w b T (x0 :: x1 :: x2 :: x3 :: x4 :: x5 :: x6 :: x7 :: l)):w.cell? ⟨b,7,none⟩=some x7:=h.cell 7
end
abbrev natB (w:World) (b:Nat) (n:Nat):Prop:=Bx w b 66 [.int .u64 (lo n),.string (bg n)]
theorem natB.set {w:World} {b n:Nat} (h:natB w b n) (m:Nat):natB ((w.setCell ⟨b,0,none⟩ (.int .u64 (lo m))).setCell ⟨b,1,none⟩ (.string (bg m))) b m:=(Bx.set h 0 (.int .u64 (lo m))).set 1 (.string (bg m))
theorem natB.of {w:World} {b n:Nat} (h:natB w b n):natB w b n:=h
theorem wd_mono {m n:Nat} (h:m≤n):(wd m).length≤(wd n).length:=by
 refine Decidable.by_contra fun hh=>?_
 have:=lt_of_length (m:=n) (n:=m) (by omega)
 omega
end Gus
end
section
namespace Gus
open Go Go.RowKit Go.Proofs
set_option maxRecDepth 100000 in
set_option maxHeartbeats 1000000 in
theorem gcd_any (m n:Nat) (hm:(wd m).length≤549755813888) (hn:(wd n).length≤549755813888) (w:World) :
  Calls Tryz.prog 134 #[natV m,natV n] w fun e w'=>e=.returned (natV (Nat.gcd m n))∧Below w.heap.size w w':=by
 obtain⟨N,hN⟩:∃ N,N=w.heap.size:=⟨_,rfl⟩
 have HN:=Lib.hid hN
 go_enter Tryz.func134,Tryz.ntmps134
 go_upto_region 1 with fail
 rw[←hN]
 obtain⟨W,hW⟩:∃ W,W=((w.alloc (.cells #[.int .u64 (lo m),.string (bg m)] 66)).alloc (.cells #[.int .u64 (lo n),.string (bg n)] 66)).alloc (.cells #[.int .u64 0,.string ⟨#[]⟩] 66):=⟨_,rfl⟩
 rw[←hW]
 have b0:natB W N m:=by rw[hW];exact((Bx.new_at w _ _ hN).alloc _).alloc _
 have b1:natB W (N+1) n:=by rw[hW];exact(Bx.new_at _ _ _ (by rw[World.size_alloc,hN])).alloc _
 have b2:natB W (N+1+1) 0:=by rw[hW];exact Bx.new_at _ _ _ (by rw[World.size_alloc,World.size_alloc,hN])
 have hI:In N w W:=by rw[hW,hN];exact(((In.self w).alloc _).alloc _).alloc _
 have hz:N+1+1<W.heap.size:=b2.lt
 clear hW hN
 go_loopg [] n (fun k wr=>∃ a,natB wr N a∧natB wr (N+1) k∧natB wr (N+1+1) 0∧In N w wr∧N+1+1<wr.heap.size∧Nat.gcd a k=Nat.gcd m n∧(wd a).length≤549755813888∧(wd k).length≤549755813888)
 case atStart=>exact⟨m,b0,b1,b2,hI,hz,rfl,hm,hn⟩
 case round=>
  clear b0 b1 b2 hI hz hm hn
  obtain⟨a,b0,b1,b2,hI,hz,hg,ha,hk⟩:=hrel
  have HG:=Lib.hid hg
  clear hg
  have d0:=b0.c0
  have d1:=b0.c1
  have d2:=b1.c0
  have d3:=b1.c1
  have d4:=b2.c0
  have d5:=b2.c1
  have f4:=b2.frozen 0
  have f5:=b2.frozen 1
  by_cases h0:gk=0
  ·subst h0
   have hga:a=Nat.gcd m n:=by rw[←HG.out,Nat.gcd_zero_right]
   have HGA:=Lib.hid hga
   clear hga
   go_wp2_with fail
   refine(zero_any 0 _).mono ?_
   rintro e w1 ⟨rfl,hb1⟩
   have d0':=(b0.call hb1).c0
   have d1':=(b0.call hb1).c1
   have b2':=b2.call hb1
   have d4':=b2'.c0
   have d5':=b2'.c1
   have f4':=b2'.frozen 0
   have f5':=b2'.frozen 1
   have hI':=hI.call hb1
   clear d0 d1 d2 d3 d4 d5 f4 f5 hb1 b0 b1 b2 hI
   go_wp2_with fail
   exact bodyPost_ret (v:=natV a) (by simp[results,Tryz.results134,go_sem,d4',d5']) rfl ⟨by rw[HGA.out],by rw[←HN.out];exact((hI'.setCell (by simp;omega) _).setCell (by simp;omega) _).bel⟩
  ·go_wp2_with fail
   refine(zero_any gk _).mono ?_
   rintro e w1 ⟨rfl,hb1⟩
   have hI':=hI.call hb1
   have b0':=b0.call hb1
   have b1':=b1.call hb1
   have b2':=b2.call hb1
   have hz':N+1+1<w1.heap.size:=b2'.lt
   clear d0 d1 d2 d3 d4 d5 f4 f5 hb1 b0 b1 b2 hI hz
   have d0:=b0'.c0
   have d1:=b0'.c1
   have d2:=b1'.c0
   have d3:=b1'.c1
   go_wp2_with fail
   refine(div_any a gk h0 ha hk _).mono ?_
   rintro e w2 ⟨rfl,hb2⟩
   have hI:=hI'.call hb2
   have b0:=b0'.call hb2
   have b1:=b1'.call hb2
   have b2:=b2'.call hb2
   have hz:N+1+1<w2.heap.size:=b2.lt
   clear d0 d1 d2 d3 hb2 b0' b1' b2' hI' hz'
   have d0:=b0.c0
   have d1:=b0.c1
   have d2:=b1.c0
   have d3:=b1.c1
   have f0:=b0.frozen 0
   have f1:=b0.frozen 1
   have f2:=b1.frozen 0
   have f3:=b1.frozen 1
   go_upto_region 3 with fail
   have hg2:Nat.gcd gk (a % gk)=Nat.gcd m n:=by rw[←HG.out,Nat.gcd_comm a gk,Nat.gcd_rec gk a,Nat.gcd_comm]
   have hlt:a % gk<gk:=Nat.mod_lt _ (by omega)
   have HG2:=Lib.hid hg2
   obtain⟨q,hq⟩:∃ q,q=a / gk:=⟨_,rfl⟩
   obtain⟨r,hr⟩:∃ r,r=a % gk:=⟨_,rfl⟩
   rw[←hr] at HG2 hlt
   rw[←hq,←hr]
   clear hq hr hg2
   have g1:=((((((Bx.other b1 (a:=⟨N,0,none⟩) (by simp) (.int .u64 (lo gk))).other (a:=⟨N,1,none⟩) (by simp) (.string (bg gk))).set 0 (.int .u64 (lo r))).set 1 (.string (bg r))).alloc (.cells #[.int .u64 (lo q),.string (bg q)] 66)).alloc (.cells #[.int .u64 (lo r),.string (bg r)] 66)).drew
   have g0:=((((((Bx.set b0 0 (.int .u64 (lo gk))).set 1 (.string (bg gk))).other (a:=⟨N+1,0,none⟩) (by simp) (.int .u64 (lo r))).other (a:=⟨N+1,1,none⟩) (by simp) (.string (bg r))).alloc (.cells #[.int .u64 (lo q),.string (bg q)] 66)).alloc (.cells #[.int .u64 (lo r),.string (bg r)] 66)).drew
   have g2:=((((((Bx.other b2 (a:=⟨N,0,none⟩) (by simp;omega) (.int .u64 (lo gk))).other (a:=⟨N,1,none⟩) (by simp;omega) (.string (bg gk))).other (a:=⟨N+1,0,none⟩) (by simp) (.int .u64 (lo r))).other (a:=⟨N+1,1,none⟩) (by simp) (.string (bg r))).alloc (.cells #[.int .u64 (lo q),.string (bg q)] 66)).alloc (.cells #[.int .u64 (lo r),.string (bg r)] 66)).drew
   have hI3:=((((((hI.setCell (p:=⟨N,0,none⟩) (Nat.le_refl _) (.int .u64 (lo gk))).setCell (p:=⟨N,1,none⟩) (Nat.le_refl _) (.string (bg gk))).setCell (p:=⟨N+1,0,none⟩) (Nat.le_succ _) (.int .u64 (lo r))).setCell (p:=⟨N+1,1,none⟩) (Nat.le_succ _) (.string (bg r))).alloc (.cells #[.int .u64 (lo q),.string (bg q)] 66)).alloc (.cells #[.int .u64 (lo r),.string (bg r)] 66)).drew
   have hz0:N<w2.heap.size:=by omega
   have hz1:N+1<w2.heap.size:=by omega
   go_region
   go_wp2_with fail
   go_roundg r
   case measure=>exact hlt
   case rel=>exact⟨gk,g0,g1,g2,hI3,g2.lt,HG2.out,hk,Nat.le_trans (wd_mono (Nat.le_of_lt hlt)) hk⟩
end Gus
end
section
namespace Gus
open Go Go.RowKit Go.Proofs
def sgn (b:Bool) (n:Nat):Int:=if b then -(n:Int) else n
theorem sgn_abs (b:Bool) (n:Nat):(sgn b n).natAbs=n:=by unfold sgn;split <;> simp
theorem sgn_neg (b:Bool) (n:Nat):decide (sgn b n<0)=(b && !decide (n=0)):=by
 unfold sgn
 cases b
 ·simp
 ·by_cases h:n=0
  ·simp[h]
  ·simp[h];omega
theorem intV_sgn (b:Bool) (n:Nat):intV (sgn b n)=.agg #[.int .u64 (lo n),.string (bg n),.bool (b && !decide (n=0))]:=by
 rw[intV,sgn_abs,sgn_neg]
theorem sizeEq0_run (n:Nat) (w:World):(binOp .eql 68 (natV n) (.agg #[.int .u64 0,.string ⟨#[]⟩])).run Tryz.prog w=.ok (.bool (decide (n=0))) w:=by
 have h0:=nat_zero_iff n
 simp[go_sem]
 by_cases h1:lo n=0
 ·by_cases h2:(bg n).toList=[]
  ·have:=h0.1 ⟨h1,h2⟩
   subst this
   simp[h1,h2]
  ·have:¬ n=0:=fun h=>h2 (h0.2 h).2
   simp[h1,h2,this]
 ·have:¬ n=0:=fun h=>h1 (h0.2 h).1
  simp[h1,this]
theorem szero_any (n:Nat) (w:World) :
  Calls Tryz.prog 124 #[natV n] w fun e w'=>e=.returned (.bool (decide (n=0)))∧Below w.heap.size w w':=by
 have hz:=sizeEq0_run n
 go_enter Tryz.func124,Tryz.ntmps124
 go_wp2_with fail
 go_ret
 exact⟨rfl,by exact tfin⟩
set_option maxRecDepth 100000 in
set_option maxHeartbeats 400000 in
theorem from_any (b:Bool) (n:Nat) (w:World) :
  Calls Tryz.prog 139 #[.bool b,natV n] w fun e w'=>e=.returned (intV (sgn b n))∧Below w.heap.size w w':=by
 rw[intV_sgn]
 cases b
 ·go_enter Tryz.func139,Tryz.ntmps139
  go_wp2_with fail
  refine wp_region_tail (In _ _) 8 (by kernel_rfl) (by kernel_rfl) (In.drew (In.self _)) ?_;simp only[List.take_succ_cons,List.take_zero,List.drop_succ_cons,List.drop_zero];(repeat (first | refine tqs ?_ |((first |((with_reducible refine wpQuiet_run0 (v:=?_) ?_ ?_ ?_);rotate_left 1;exact trr)|((with_reducible refine wpQuiet_rung (v:=?_) (j:=?_) (b:=?_) ?_ ?_ ?_ ?_);rotate_left 3;exact trr;exact trf));(focus (intro w' hw';(try simp only[World.size_alloc] at hw');go_simp;go_at_call 124;refine(szero_any n _).mono ?_;rintro e w'' ⟨rfl,hb⟩;refine⟨?_,hw'.call hb⟩;exact rfl));refine tput ?_)| fail));refine wpQuiet_nil ?_;(try clear hc hf h);intro w' h;replace h:=tsz h;have hc:=h.cell;have hf:=h.frozen
  go_wp2_with fail
  exact bodyPost_ret (v:=.agg #[.int .u64 (lo n),.string (bg n),.bool false]) (by simp[results,Tryz.results139,go_sem, *]) rfl ⟨rfl,by exact tfin⟩
 ·go_enter Tryz.func139,Tryz.ntmps139
  go_wp2_with fail
  refine wp_region_tail (In _ _) 8 (by kernel_rfl) (by kernel_rfl) (In.drew (In.self _)) ?_;simp only[List.take_succ_cons,List.take_zero,List.drop_succ_cons,List.drop_zero];(repeat (first | refine tqs ?_ |((first |((with_reducible refine wpQuiet_run0 (v:=?_) ?_ ?_ ?_);rotate_left 1;exact trr)|((with_reducible refine wpQuiet_rung (v:=?_) (j:=?_) (b:=?_) ?_ ?_ ?_ ?_);rotate_left 3;exact trr;exact trf));(focus (intro w' hw';(try simp only[World.size_alloc] at hw');go_simp;go_at_call 124;refine(szero_any n _).mono ?_;rintro e w'' ⟨rfl,hb⟩;refine⟨?_,hw'.call hb⟩;exact rfl));refine tput ?_)| fail));refine wpQuiet_nil ?_;(try clear hc hf h);intro w' h;replace h:=tsz h;have hc:=h.cell;have hf:=h.frozen
  go_wp2_with fail
  exact bodyPost_ret (v:=.agg #[.int .u64 (lo n),.string (bg n),.bool (!decide (n=0))]) (by simp[results,Tryz.results139,go_sem, *]) rfl ⟨rfl,by exact tfin⟩
set_option maxRecDepth 100000 in
set_option maxHeartbeats 400000 in
theorem intOf_any (x:Int) (h0:-9223372036854775808≤x) (h1:x<9223372036854775808) (w:World) :
  Calls Tryz.prog 144 #[.int .i64 x] w fun e w'=>e=.returned (intV x)∧Below w.heap.size w w':=by
 by_cases hx:x<0
 ·have hs:sgn true x.natAbs=x:=by unfold sgn;rw[if_pos rfl];omega
  have hw1:IntKind.u64.wrap (-(IntKind.u64.wrap x))=-x:=by simp[IntKind.wrap,IntKind.bits,IntKind.signed];omega
  have hN:=natOf_any (-x) (by omega) (by omega)
  rw[show(-x).toNat=x.natAbs by omega] at hN
  have hF:=from_any true x.natAbs
  rw[hs] at hF
  have HS:=Lib.hid hs
  clear hs
  go_enter Tryz.func144,Tryz.ntmps144
  go_wp2_with fail
  (refine(hN _).mono ?_;rintro e w' ⟨rfl,hb⟩;have h:=tsz ((In.self _).call hb);clear hb;have hc:=h.cell;have hf:=h.frozen)
  go_wp2_with fail
  (refine(hF _).mono ?_;rintro e w' ⟨rfl,hb⟩;replace h:=In.call tin hb;clear hb hc hf;have hc:=h.cell;have hf:=h.frozen)
  go_wp2_with fail
  exact bodyPost_ret (v:=intV x) (by simp[results,Tryz.results144,go_sem, *]) rfl ⟨rfl,by exact tfin⟩
 ·have hs:sgn false x.natAbs=x:=by unfold sgn;rw[if_neg (by simp)];omega
  have hw1:IntKind.u64.wrap x=x:=by simp[IntKind.wrap,IntKind.bits,IntKind.signed];omega
  have hN:=natOf_any x (by omega) (by omega)
  rw[show x.toNat=x.natAbs by omega] at hN
  have hF:=from_any false x.natAbs
  rw[hs] at hF
  have HS:=Lib.hid hs
  clear hs
  go_enter Tryz.func144,Tryz.ntmps144
  go_wp2_with fail
  (refine(hN _).mono ?_;rintro e w' ⟨rfl,hb⟩;have h:=tsz ((In.self _).call hb);clear hb;have hc:=h.cell;have hf:=h.frozen)
  go_wp2_with fail
  (refine(hF _).mono ?_;rintro e w' ⟨rfl,hb⟩;replace h:=In.call tin hb;clear hb hc hf;have hc:=h.cell;have hf:=h.frozen)
  go_wp2_with fail
  exact bodyPost_ret (v:=intV x) (by simp[results,Tryz.results144,go_sem, *]) rfl ⟨rfl,by exact tfin⟩
theorem abs_any (z:Int) (w:World) :
  Calls Tryz.prog 135 #[intV z] w fun e w'=>e=.returned (natV z.natAbs)∧Below w.heap.size w w':=by
 go_enter Tryz.func135,Tryz.ntmps135
 go_wp2_with fail
 exact bodyPost_ret (v:=natV z.natAbs) (by simp[results,Tryz.results135,go_sem, *]) rfl ⟨rfl,by exact tfin⟩
def isign (z:Int):Int:=if z<0 then -1 else if z=0 then 0 else 1
set_option maxRecDepth 100000 in
theorem isign_any (z:Int) (w:World) :
  Calls Tryz.prog 76 #[intV z] w fun e w'=>e=.returned (.int .i64 (isign z))∧Below w.heap.size w w':=by
 have hZ:=szero_any z.natAbs
 rw[intV]
 rcases Int.lt_trichotomy z 0 with h | h | h
 ·have e:isign z=-1:=by unfold isign;rw[if_pos h]
  have h1:decide (z<0)=true:=by simp[h]
  have h2:decide (z.natAbs=0)=false:=by simp;omega
  rw[e,h1]
  rw[h2] at hZ
  clear h1 h2 e
  go_enter Tryz.func76,Tryz.ntmps76
  go_wp2_with fail
  (refine(hZ _).mono ?_;rintro e w' ⟨rfl,hb⟩;have h:=tsz ((In.self _).call hb);clear hb;have hc:=h.cell;have hf:=h.frozen)
  go_wp2_with fail
  go_ret
  exact⟨rfl,by exact tfin⟩
 ·have e:isign z=0:=by subst h;rfl
  have h1:decide (z<0)=false:=by simp;omega
  have h2:decide (z.natAbs=0)=true:=by simp;omega
  rw[e,h1]
  rw[h2] at hZ
  clear h1 h2 e h
  go_enter Tryz.func76,Tryz.ntmps76
  go_wp2_with fail
  (refine(hZ _).mono ?_;rintro e w' ⟨rfl,hb⟩;have h:=tsz ((In.self _).call hb);clear hb;have hc:=h.cell;have hf:=h.frozen)
  go_wp2_with fail
  go_ret
  exact⟨rfl,by exact tfin⟩
 ·have e:isign z=1:=by unfold isign;rw[if_neg (by omega),if_neg (by omega)]
  have h1:decide (z<0)=false:=by simp;omega
  have h2:decide (z.natAbs=0)=false:=by simp;omega
  rw[e,h1]
  rw[h2] at hZ
  clear h1 h2 e
  go_enter Tryz.func76,Tryz.ntmps76
  go_wp2_with fail
  (refine(hZ _).mono ?_;rintro e w' ⟨rfl,hb⟩;have h:=tsz ((In.self _).call hb);clear hb;have hc:=h.cell;have hf:=h.frozen)
  go_wp2_with fail
  go_ret
  exact⟨rfl,by exact tfin⟩
def Wl (n:Nat):Prop:=(wd n).length≤549755813888
theorem sgn_add_same {p:Bool} {a b:Int} (ha:decide (a<0)=p) (hb:decide (b<0)=p):sgn p (a.natAbs+b.natAbs)=a+b:=by
 subst ha
 have h:(a<0↔b<0):=by
  by_cases h1:a<0 <;> by_cases h2:b<0 <;> simp[h1,h2] at hb <;> simp[h1,h2]
 unfold sgn
 by_cases h1:a<0
 ·simp[h1];have:=h.1 h1;omega
 ·have h2:¬ b<0:=fun h2=>h1 (h.2 h2)
  simp[h1];omega
theorem sgn_sub_ge {p:Bool} {a b:Int} (ha:decide (a<0)=p) (hb:decide (b<0)=!p) (h:b.natAbs≤a.natAbs):sgn p (a.natAbs - b.natAbs)=a+b:=by
 subst ha
 unfold sgn
 by_cases h1:a<0
 ·have h2:¬ b<0:=by simpa[h1] using hb
  simp[h1];omega
 ·have h2:b<0:=by simpa[h1] using hb
  simp[h1];omega
theorem sgn_mul {a b:Int}:sgn (decide (a<0) != decide (b<0)) (a.natAbs*b.natAbs)=a*b:=by
 unfold sgn
 have h:=Int.natAbs_mul a b
 rw[←h]
 by_cases h1:a<0 <;> by_cases h2:b<0
 ·have:0≤a*b:=Int.mul_nonneg_of_nonpos_of_nonpos (by omega) (by omega)
  simp[h1,h2];omega
 ·have:a*b≤0:=Int.mul_nonpos_of_nonpos_of_nonneg (by omega) (by omega)
  simp[h1,h2];omega
 ·have:a*b≤0:=Int.mul_nonpos_of_nonneg_of_nonpos (by omega) (by omega)
  simp[h1,h2];omega
 ·have:0≤a*b:=Int.mul_nonneg (by omega) (by omega)
  simp[h1,h2];omega
end Gus
end
