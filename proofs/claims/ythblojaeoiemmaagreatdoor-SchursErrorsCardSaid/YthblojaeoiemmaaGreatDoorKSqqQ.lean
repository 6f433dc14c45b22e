/- Proved here: parts of the proof: KSqq KSqr KSqs KSqt. Conditions: those that each theorem states. -/
import Derived.Test.YthblojaeoiemmaaGreatDoorKSqnQ
section
namespace Gus
open Go Go.RowKit Go.Proofs
theorem info_vec24:(Tryz.prog.info? 32).map (fun i=>(i.zero,i.size,i.bytes))=some (some (.slice none 0 0),1,24):=by kernel_rfl
set_option maxRecDepth 100000 in
set_option maxHeartbeats 8000000 in
theorem ekernel_any (w:World) (lo p R m cols rc:Nat) (ra:Option Addr) (pv:Value) (f:Nat→Nat) (s:El) (el:ElAt w lo p R m cols ra rc pv f s) (hpl:∀ k∈s.piv,k<cols) (hpr:s.piv.length≤R) (hc:cols≤2048) (hcm:cols≤m) (hm:m≤4096) (hR:R≤4096) :
  Calls Tryz.prog 79 #[.pointer (some ⟨p,0,none⟩)] w fun e w'=>(∃ a c,e=.returned (.slice a (outer cols s.piv).length c))∧Below w.heap.size w w':=by
 obtain⟨i0,hi0,hi1,hi2,hi3⟩:=info_parts info_vec24
 obtain⟨pa,pc,hpe,hI⟩:=pivs_ints el.piv
 subst hpe
 obtain⟨xs,hxs⟩:∃ xs:List Int,xs=s.piv.map fun k=>((k:Nat):Int):=⟨_,rfl⟩
 rw[←hxs] at hI
 have hxl:xs.length=s.piv.length:=by rw[hxs];simp
 have hany:∀ k:Nat,(xs.any fun x=>decide ((k:Int)=x))=s.piv.contains k:=fun k=>by
  rw[Bool.eq_iff_iff,List.any_eq_true]
  constructor
  ·rintro⟨x,hx,h⟩
   rw[hxs] at hx
   obtain⟨y,hy,rfl⟩:=List.mem_map.1 hx
   have:k=y:=by have:=of_decide_eq_true h;omega
   subst this
   simpa using hy
  ·intro h
   exact⟨(k:Int),by rw[hxs];exact List.mem_map.2 ⟨k,by simpa using h,rfl⟩,by simp⟩
 obtain⟨K,hK⟩:∃ K,K=s.piv.length:=⟨_,rfl⟩
 have HANY:=Lib.hid hany
 have HXL:=Lib.hid hxl
 have HK:=Lib.hid hK
 have HXS:=Lib.hid hxs
 have HPL:=Lib.hid hpl
 have hin:=In.self w
 rw[←hK] at el hpr
 have hbox:=el.box
 have b0:=hbox.c0
 have b1:=hbox.c1
 have b2:=hbox.c2
 have bl:=hbox.lt
 have hrc:=el.rcap
 have HEL:=Lib.hid el
 have HI:=Lib.hid hI
 clear hxs hxl hany hbox hI el hK hpl
 go_enter Tryz.func79,Tryz.ntmps79
 go_wp2_with fail
 clear b0 b1 b2 bl
 go_loopw [2,12] (fun v2 v12 wr=>∃ (k:Nat) (vs:List Value),k≤cols∧v12=.int .i64 k∧In w.heap.size w wr∧wr.ownsRow w.heap.size 32 1 v2 (outer k s.piv).length vs) (fun _ v12 _=>cols - (RowKit.intOf v12).toNat)
 case atStart=>exact⟨0,[],Nat.zero_le _,rfl,hin,World.ownsRow_nil _ _ _ _⟩
 case round=>
  clear hin
  obtain⟨k,vs,hk,rfl,hin,hown⟩:=hrel
  by_cases hkc:k<cols
  ·have kI:(k:Int)<cols:=by omega
   have hkw:IntKind.i64.wrap ((k:Int)+1)=((k+1:Nat):Int):=IntWalk.i64_in _ (by omega)
   have hel:=HEL.out.call hin.bel
   have hbox:=hel.box
   have b0:=hbox.c0
   have b1:=hbox.c1
   have b2:=hbox.c2
   have bl:=hbox.lt
   have cc:=scontains_any wr pa pc xs k (HI.out.call hin.bel) (by rw[HXL.out,←HK.out];omega)
   rw[HANY.out k,HXL.out,←HK.out] at cc
   have hou:=outer_snoc k s.piv
   obtain⟨y,hy⟩:∃ y,y=s.piv.contains k:=⟨_,rfl⟩
   rw[←hy] at cc hou
   have HOWN:=Lib.hid hown
   clear hbox hel hown hy
   go_wp2_with fail
   (with_reducible refine cc.mono ?_)
   rintro e w2 ⟨rfl,hb⟩
   replace hin:=hin.call hb
   replace HOWN:=Lib.hid (ownsRow_bel HOWN.out hb)
   clear hb cc b0 b1 b2 bl
   rcases y with _ | _
   ·have HOU:Hid ((outer (k+1) s.piv).length=(outer k s.piv).length+1):=Lib.hid (by rw[hou];simp)
    clear hou
    have cu:=vunit_any w2 cols k hkc hc
    have hel:=HEL.out.call hin.bel
    have hbox:=hel.box
    have b0:=hbox.c0
    have b1:=hbox.c1
    have b2:=hbox.c2
    have bl:=hbox.lt
    clear hbox hel
    go_wp2_with fail
    (with_reducible refine cu.mono ?_)
    rintro e w3 ⟨⟨qs,hql,g,rfl,hg,bv⟩,hb⟩
    have hsz2:=hin.siz
    replace hin:=hin.call hb
    replace HOWN:=Lib.hid (ownsRow_bel HOWN.out hb)
    have HG:Hid (w.heap.size≤g):=Lib.hid (Nat.le_trans hsz2 hg)
    clear hb cu b0 b1 b2 bl hg hsz2
    have hel:=HEL.out.call hin.bel
    have hbox:=hel.box
    have b0:=hbox.c0
    have b1:=hbox.c1
    have b2:=hbox.c2
    have bl:=hbox.lt
    clear hbox hel
    go_wp2_with fail
    clear b0 b1 b2 bl
    go_loopw [35] (fun v35 wq=>∃ (i:Nat) (qs:List Rat),i≤K∧v35=.int .i64 i∧In w.heap.size w wq∧qs.length=cols∧VBx wq g qs∧wq.ownsRow w.heap.size 32 1 u2 (outer k s.piv).length vs) (fun v35 _=>K - (RowKit.intOf v35).toNat)
    case atStart=>exact⟨0,qs,Nat.zero_le _,rfl,hin,hql,bv,HOWN.out⟩
    case round=>
     clear hin bv hql HOWN
     rename World=>wq
     obtain⟨i,qs,hi,rfl,hin,hql,bv,hown⟩:=hrel
     by_cases hiK:i<K
     ·have iI:(i:Int)<K:=by omega
      have iRI:(i:Int)<R:=by omega
      have i0':(0:Int)≤i:=by omega
      have k0':(0:Int)≤k:=by omega
      have kmI:(k:Int)<m:=by omega
      have iw:IntKind.i64.wrap ((i:Int)+1)=((i+1:Nat):Int):=IntWalk.i64_in _ (by omega)
      have el:=HEL.out.call hin.bel
      obtain⟨rb,cs,hrae,hrb,hBr,hci⟩:=el.rw.rows i (by omega)
      subst hrae
      obtain⟨v,hv⟩:∃ v,v=s.M i k:=⟨_,rfl⟩
      have hrow:=el.rw.row i (by omega)
      have cn:=fneg_any v
      obtain⟨B1,B2,B3,B4,B5,hB,hB'⟩:∃ A1 A2 A3 A4 A5,fracV v=.agg #[.int .u64 A1,.string A2,.bool A3,.int .u64 A4,.string A5]∧fcs v=[.int .u64 A1,.string A2,.bool A3,.int .u64 A4,.string A5]:=⟨_,_,_,_,_,rfl,rfl⟩
      obtain⟨x,hx⟩:∃ x,x=-v:=⟨_,rfl⟩
      rw[←hx] at cn
      obtain⟨D1,D2,D3,D4,D5,hD,hD'⟩:∃ A1 A2 A3 A4 A5,fracV x=.agg #[.int .u64 A1,.string A2,.bool A3,.int .u64 A4,.string A5]∧fcs x=[.int .u64 A1,.string A2,.bool A3,.int .u64 A4,.string A5]:=⟨_,_,_,_,_,rfl,rfl⟩
      rw[hB,hD] at cn
      obtain⟨c0,c1,c2,c3,c4⟩:=VBx.eltc hrow (show k<m by omega) (by rw[←hv];exact hB')
      have rc0:=(hBr.cell i).trans hci
      have rl:=hBr.lt
      have fl:=hrow.lt
      have hil:i<xs.length:=by rw[HXL.out,←HK.out];exact hiK
      obtain⟨pb,poff,rfl,hpb,hpc⟩:=(HI.out.call hin.bel) i hil
      have hpm:s.piv.getD i 0<cols:=HPL.out _ (getD_in (by rw[←HK.out];exact hiK))
      have hpx:xs.getD i 0=((s.piv.getD i 0:Nat):Int):=by rw[HXS.out];exact zl_getD (by rw[←HK.out];exact hiK)
      rw[hpx] at hpc
      obtain⟨t,ht⟩:∃ t,t=s.piv.getD i 0:=⟨_,rfl⟩
      rw[←ht] at hpc hpm
      have tI:(t:Int)<cols:=by omega
      have t0:(0:Int)≤t:=by omega
      have hbox:=el.box
      have b0:=hbox.c0
      have b2:=hbox.c2
      have bl:=hbox.lt
      have HOWN:=Lib.hid hown
      have HD:=Lib.hid hD'
      clear hv hB hB' hD hD' hpx ht hci hrow hbox el hBr hx hil hown
      go_wp2_with fail
      ((with_reducible refine(cn _).mono ?_))
      rintro e w' ⟨rfl,hb⟩
      have bv2:=bv.call hb
      have hin2:=hin.call hb
      have hbel:=hb
      have HOWN:=Lib.hid (ownsRow_bel HOWN.out hbel)
      have hlt:t<qs.length:=by rw[hql];exact hpm
      obtain⟨_,_,_,_,_,_,d0,d1,d2,d3,d4,e0,e1,e2,e3,e4⟩:=VBx.cells bv2 hlt
      have hgl2:=bv2.lt
      have hs:=VBx.setA bv2 t x hlt HD.out
      have hgr:=gr_putA w' g t (.int .u64 D1) (.string D2) (.bool D3) (.int .u64 D4) (.string D5)
      have H1:=Lib.hid hs
      have H2:=Lib.hid (hin2.grown hgr HG.out)
      have H3:=Lib.hid (ownsRow_grown HOWN.out bv2 (by decide) hgr)
      have HQL:Hid ((qs.set t x).length=cols):=Lib.hid (by rw[List.length_set];exact hql)
      clear hs hb hbel bv2 bv hin hin2 hgr hlt HOWN c0 c1 c2 c3 c4 rc0 rl fl hpc b0 b2 bl cn hql hpb
      go_wp2_with fail
      exact⟨⟨i+1,_,by omega,by go_num,H2.out,HQL.out,H1.out,H3.out⟩,by simp[RowKit.intOf];omega⟩
     ·obtain rfl:i=K:=by omega
      have iI:¬ (i:Int)<i:=by omega
      have HOWN:=Lib.hid hown
      have HIN:=Lib.hid hin
      have hsz:=hin.siz
      have hle:=outer_le k s.piv
      clear hown hin bv hql
      go_wp2_with (at_builtin;go_loud (refine wpList_append_own _ rfl (.tmp 55) (.tmp 57) 77 rfl w.heap.size 32 i0 (.slice none 0 0) 1 24 Tryz.underlying77 hi0 hi1 hi2 hi3 rfl (by decide) u2 (outer k s.piv).length vs rfl (HOWN.out.alloc _) ⟨wq.heap.size,0,none⟩ 1 1 [.slice (some ⟨g,0,none⟩) cols cols] rfl rfl ?p1 ?p2 ?p3 ?p4 ?p5 ?_))
      try case p1=>intro j u hj;rw[Addr.add_lit,Nat.zero_add,(Bx.new_at wq #[.slice (some ⟨g,0,none⟩) cols cols] 32 rfl).cell j];exact hj
      try case p2=>(first | rfl |(intro u hu;simp only[List.mem_cons,List.not_mem_nil,or_false] at hu;subst hu;rfl))
      try case p3=>simp only[maxLen];omega
      try case p4=>omega
      try case p5=>(first | omega |(rw[World.size_alloc];omega))
      intro v' w4 hown4 hgr _
      have hin4:In w.heap.size w w4:=by
       have h5:=HIN.out.alloc (.cells #[.slice (some ⟨g,0,none⟩) cols cols] 32)
       exact⟨h5.bel.grown hgr h5.siz (fun k h=>(World.ownsRow.lt HOWN.out k h).1),Nat.le_trans h5.siz hgr.size⟩
      have H4:Hid (w4.ownsRow w.heap.size 32 1 v' (outer (k+1) s.piv).length (vs ++ [.slice (some ⟨g,0,none⟩) cols cols])):=Lib.hid (by rw[HOU.out];exact hown4)
      have H5:=Lib.hid hin4
      obtain⟨g9,c9,rfl⟩:∃ g9 c9,v'=.slice (some ⟨g9,0,none⟩) ((outer k s.piv).length+1) c9:=owns_cons hown4
      clear hown4 hgr hin4 HOWN HIN hsz
      go_wp2_with fail
      exact⟨⟨k+1,_,by omega,by go_num,H5.out,H4.out⟩,by simp[RowKit.intOf];omega⟩
   ·have HOU:Hid ((outer (k+1) s.piv).length=(outer k s.piv).length):=Lib.hid (by rw[hou];simp)
    clear hou
    go_wp2_with fail
    exact⟨⟨k+1,vs,by omega,by go_num,hin,by rw[HOU.out];exact HOWN.out⟩,by simp[RowKit.intOf];omega⟩
  ·obtain rfl:k=cols:=by omega
   have kI:¬ (k:Int)<k:=by omega
   obtain⟨a9,c9,he9⟩:∃ a c,u2=.slice a (outer k s.piv).length c:=by
    rcases hown.2 with ⟨h1,h2⟩|⟨g,cap,cur,h1,_⟩
    ·exact⟨none,0,by rw[h1,h2]⟩
    ·exact⟨_,_,h1⟩
   subst he9
   clear hown
   go_wp2_with fail
   go_ret
   exact⟨⟨_,_,rfl⟩,hin.bel⟩
end Gus
end
section
namespace Gus
open Go Go.RowKit Go.Proofs
theorem aug_piv {n:Nat} {A:Mx} (b:Vc) (h:¬ NS n A):(elim n (aug n A b) n).piv.length<n:=by
 have h1:=(elim_red n n (aug n A b) n).len
 have h2:=full_iff (n:=n) (M:=aug n A b)
 have h3:NS n (aug n A b)↔NS n A:=NS.congr fun r c _ hc=>by unfold aug;rw[if_pos hc]
 rcases Nat.lt_or_ge (elim n (aug n A b) n).piv.length n with h4 | h4
 ·exact h4
 ·exact absurd (h3.1 (h2.1 (by omega))) h
def SingP (w:World) (e:Ending) (w':World):Prop:=(∃ da dl dc a k c code,e=.returned (.tuple #[.agg #[.slice da dl dc,.slice a k c],.int .i64 code])∧(code=6∨(code=0∧0<k)))∧Below w.heap.size w w'
set_option maxRecDepth 100000 in
set_option maxHeartbeats 16000000 in
theorem esolve_sing {z:Nat} (w:World) (v bv:Value) (n:Nat) (A:Mx) (qs:List Rat) (b:Nat→Rat) (hA:MatQ w v n n qs) (hq:∀ i k,i<n→k<n→qs.getD (i*n+k) 0=A i k) (hb:VecAt w bv (vl n b)) (hn:n≤16) (hz1:1≤z)
  (hzA:∀ i k,i<n→k<n→SzK z (A i k)) (hzb:∀ i,i<n→SzK z (b i)) (hcap:5*(z*5 ^ n)+2<17592186044416) (hns:¬ NS n A) :
  Calls Tryz.prog 31 #[v,bv] w (SingP w):=by
 have hAc:=hA
 obtain⟨mb,moff,mcap,rfl,hlen,hmc,hmb,hcells⟩:=hA
 obtain⟨ba,bc,rfl⟩:=hb.shape
 rw[vl_length] at hb ⊢
 obtain⟨N,hN⟩:∃ N,N=qs.length:=⟨_,rfl⟩
 rw[←hN] at hlen hmc hcells hAc ⊢
 have HAC:=Lib.hid hAc
 have HB:=Lib.hid hb
 have HZ:Hid (∀ r c,r<n→c<n+1→SzK z (aug n A b r c)):=Lib.hid fun r c hr hc=>by
  unfold aug
  split
  ·rename_i h;exact hzA r c hr h
  ·exact hzb r hr
 have HQ:=Lib.hid hq
 have HKN:=Lib.hid (aug_piv b hns)
 have hin:=In.self w
 have hNI:(n:Int)≤16:=by omega
 have HLEN:=Lib.hid hlen
 clear hcells hlen hmc hmb hAc hb hzA hzb hq hN hns
 go_enter Tryz.func31,Tryz.ntmps31
 go_upto_region 1 with fail
 ((obtain⟨X,hXX⟩:∃ z,z=w.heap.size:=⟨_,rfl⟩);(have bV0:=(((Bx.new_at w #[.int .i64 n,.int .i64 n,.slice (some ⟨mb,moff,none⟩) N mcap] 37 (n:=X) (by simp[hXX])).alloc (.cells #[.slice ba n bc] 32)).alloc (.cells #[.slice none 0 0,.slice none 0 0] 79)));(have bV1:=((Bx.new_at (w.alloc (.cells #[.int .i64 n,.int .i64 n,.slice (some ⟨mb,moff,none⟩) N mcap] 37)) #[.slice ba n bc] 32 (n:=X+1) (by simp[hXX])).alloc (.cells #[.slice none 0 0,.slice none 0 0] 79)));(have bV2:=(Bx.new_at ((w.alloc (.cells #[.int .i64 n,.int .i64 n,.slice (some ⟨mb,moff,none⟩) N mcap] 37)).alloc (.cells #[.slice ba n bc] 32)) #[.slice none 0 0,.slice none 0 0] 79 (n:=X+1+1) (by simp[hXX])));(have hV:=((((In.self w).alloc (.cells #[.int .i64 n,.int .i64 n,.slice (some ⟨mb,moff,none⟩) N mcap] 37)).alloc (.cells #[.slice ba n bc] 32)).alloc (.cells #[.slice none 0 0,.slice none 0 0] 79)));(rw[←hXX] at hV ⊢);(have HX:=Lib.hid hXX);clear hXX;(generalize ((w.alloc (.cells #[.int .i64 n,.int .i64 n,.slice (some ⟨mb,moff,none⟩) N mcap] 37)).alloc (.cells #[.slice ba n bc] 32)).alloc (.cells #[.slice none 0 0,.slice none 0 0] 79)=V at *))
 rw[HX.out] at hV
 have hmay:=may_ok V n n N (some ⟨mb,moff,none⟩) ba mcap bc (by omega) (by omega) HLEN.out
 (have x0:=bV0.c0;have x1:=bV0.c1;have x2:=bV0.c2;have xl:=bV0.lt)
 (have y0:=bV1.c0;have yl:=bV1.lt)
 (go_wp2_with fail;(((with_reducible refine(hmay).mono ?_)));rintro e wc1 ⟨rfl,hb⟩;clear x0 x1 x2 xl y0 yl hmay;replace hV:=hV.call hb;replace bV0:=bV0.call hb;replace bV1:=bV1.call hb;replace bV2:=bV2.call hb;clear hb)
 have hself:=In.self wc1
 have cbg:=ebegun_any wc1 _ n n 1 qs (HAC.out.call hV.bel) 78 #[.pointer (some ⟨X+1,0,none⟩)] (enters_of Tryz.func78 (by kernel_rfl) rfl) (fun i _=>b i) (by omega) (by omega) (by omega) (fun h=>h) (fun i k W hi hk hW=>esolve1_any W (X+1) i n k ba bc b (bV1.call hW.bel) ((HB.out.call hV.bel).call hW.bel) hi)
 (have x0:=bV0.c0;have x1:=bV0.c1;have x2:=bV0.c2;have xl:=bV0.lt)
 (have y0:=bV1.c0;have yl:=bV1.lt)
 rw[show((1:Nat):Int)=1 from rfl] at cbg
 go_wp2_with fail
 (refine cbg.mono ?_)
 rintro e W2 ⟨p,ra,rc,f,rfl,hin2,el⟩
 have cr:=reduce_any W2 _ p n (n+1) n rc ra f (aug n A b) (el.congr (M':=aug n A b) fun r c hr hc=>aug_congr HQ.out hr hc) (by omega) (by omega) (by omega) hin2.siz hz1 HZ.out hcap
 clear cbg el x0 x1 x2 xl y0 yl
 go_wp2_with fail
 (refine cr.mono ?_)
 rintro e W3 ⟨f3,pv,rfl,hin3,el⟩
 replace hin2:=hin2.trans hin3
 replace hV:=hV.call hin2.bel
 replace bV0:=bV0.call hin2.bel
 replace bV1:=bV1.call hin2.bel
 replace bV2:=bV2.call hin2.bel
 have hkn:=HKN.out
 obtain⟨s,hs⟩:∃ s,s=elim n (aug n A b) n:=⟨_,rfl⟩
 have hred:=elim_red n (n+1) (aug n A b) n
 rw[←hs] at el hkn hred
 have HPLT:=Lib.hid hred.lt
 have HNOD:Hid s.piv.Nodup:=Lib.hid (hred.asc.imp fun h=>Nat.ne_of_lt h)
 obtain⟨pa,pc,hpe⟩:=el.pvShape
 obtain⟨K,hK⟩:∃ K,K=s.piv.length:=⟨_,rfl⟩
 rw[←hK] at hpe hkn
 subst hpe
 have HK:=Lib.hid hK
 have hrc:=el.rcap
 obtain⟨rb,cs,hrae,hrb,hBr,hci0⟩:=el.rw.rows 0 (by omega)
 subst hrae
 clear hs cr hin3 hself hred hK hci0 hBr hrb
 have hbox:=el.box
 have b0:=hbox.c0
 have b1:=hbox.c1
 have b2:=hbox.c2
 have bl:=hbox.lt
 obtain⟨D,hD⟩:∃ D,D=n - K:=⟨_,rfl⟩
 have kI:(K:Int)≤n:=by omega
 have k0:(0:Int)≤K:=by omega
 go_upto_region 5 with fail
 go_cut [33,34,35] from 24 to 35 (fun v33 v34 v35 wx=>v33=.slice (some ⟨rb,K,none⟩) D (rc - K)∧v34=.int .i64 D∧v35=.int .i64 0∧W3.drew=wx)
 case first=>
  (refine wp_region_all (fun w'=>w'=W3.drew) (by kernel_rfl) (by kernel_rfl) rfl ?_;(repeat (first |(apply wpQuiet_run;(focus rfl);(focus (rintro _ rfl;go_simp;exact rfl));refine tput ?_)|(apply wpQuiet_skip;(focus rfl);refine tput ?_)));refine wpQuiet_nil ?_;rintro _ rfl)
  go_wp2_with fail
  go_meet
  refine⟨?_, ?_,rfl,rfl⟩
  ·show Value.slice _ _ _=_
   rw[hD]
  ·show Value.int _ _=_
   rw[hD]
 case rest=>
  obtain⟨rfl,rfl,rfl,rfl⟩:=hcut
  have HDD:=Lib.hid hD
  clear hD
  have hb:=(Below.refl W3.heap.size W3).drew
  replace el:=el.call hb
  replace hbox:=hbox.call hb
  replace hV:=hV.call hb
  replace bV0:=bV0.call hb
  replace bV2:=bV2.call hb
  clear hb b0 b1 b2 bl bV1 hin2 hbox
  generalize W3.drew=W4 at *
  have HEL:=Lib.hid el
  have HV:=Lib.hid hV
  have HX0:=Lib.hid bV0
  have HX2:=Lib.hid bV2
  clear el hV bV0 bV2
  have hself:=In.self W4
  go_wp2_with fail
  go_loopw [35] (fun v35 wr=>∃ t:Nat,t≤D∧v35=.int .i64 t∧In W4.heap.size W4 wr) (fun v35 _=>D - (RowKit.intOf v35).toNat)
  case atStart=>exact⟨0,Nat.zero_le _,rfl,hself⟩
  case round=>
   clear hself
   obtain⟨t,ht,rfl,hin⟩:=hrel
   by_cases htD:t<D
   ·have tI:(t:Int)<D:=by omega
    have t0:(0:Int)≤t:=by omega
    have tw:IntKind.i64.wrap ((t:Int)+1)=((t+1:Nat):Int):=IntWalk.i64_in _ (by have:=HDD.out;omega)
    have el:=HEL.out.call hin.bel
    obtain⟨rb',cs,hrae,hrb,hBr,hci⟩:=el.rw.rows (K+t) (by have:=HDD.out;omega)
    injection hrae with hrae
    injection hrae with hrae
    subst hrae
    have hrow:=el.rw.row (K+t) (by have:=HDD.out;omega)
    obtain⟨v,hv⟩:∃ v,v=s.M (K+t) n:=⟨_,rfl⟩
    have csg:=fsign_any v
    obtain⟨sg,hsg⟩:∃ sg,sg=isign v.num:=⟨_,rfl⟩
    rw[←hsg] at csg
    obtain⟨B1,B2,B3,B4,B5,hB,hB'⟩:∃ A1 A2 A3 A4 A5,fracV v=.agg #[.int .u64 A1,.string A2,.bool A3,.int .u64 A4,.string A5]∧fcs v=[.int .u64 A1,.string A2,.bool A3,.int .u64 A4,.string A5]:=⟨_,_,_,_,_,rfl,rfl⟩
    rw[hB] at csg
    obtain⟨c0,c1,c2,c3,c4⟩:=VBx.eltc hrow (Nat.lt_succ_self n) (by rw[←hv];exact hB')
    have rc0:=(hBr.cell (K+t)).trans hci
    have rl:=hBr.lt
    have fl:=hrow.lt
    have nI:(n:Int)<((n+1:Nat):Int):=by omega
    have nI':(n:Int)<(n:Int)+1:=by omega
    have n0:(0:Int)≤n:=by omega
    have bx:=HX0.out.call hin.bel
    have x0:=bx.c0;have x1:=bx.c1;have x2:=bx.c2;have xl:=bx.lt
    clear hv hsg hB hB' hci hrow el hBr bx
    go_wp2_with fail
    ((with_reducible refine(csg _).mono ?_))
    rintro e w5 ⟨rfl,hb⟩
    replace hin:=hin.call hb
    clear hb csg x0 x1 x2 xl c0 c1 c2 c3 c4 rc0 rl fl
    by_cases h0:sg=0
    ·subst h0
     go_wp2_with fail
     exact⟨⟨t+1,by omega,by go_num,hin⟩,by simp[RowKit.intOf];omega⟩
    ·have k1:(sg != 0)=true:=by simpa using h0
     clear h0
     have bq:=HX2.out.call hin.bel
     have hinV:=HV.out.call hin.bel
     clear hin
     have hin:=hinV
     clear hinV
     (have q0:=bq.c0;have q1:=bq.c1;(have f0:=bq.frozen 0);(have f1:=bq.frozen 1);have ql:=bq.lt;(have K1:=Lib.hid (((bq.set 0 (.slice none 0 0)).set 1 (.slice none 0 0))));(have K2:=Lib.hid (((hin.setCell (p:=⟨(X+1+1),0,none⟩) (by first |(simp;done)|(have:=HX.out;simp;omega)) (.slice none 0 0)).setCell (p:=⟨(X+1+1),1,none⟩) (by first |(simp;done)|(have:=HX.out;simp;omega)) (.slice none 0 0))));clear bq hin;go_wp2_with fail;have k1:=K1.out;have k2:=K2.out;clear q0 q1 f0 f1 ql K1 K2;(generalize (w5.setCell ⟨(X+1+1),0,none⟩ (.slice none 0 0)).setCell ⟨(X+1+1),1,none⟩ (.slice none 0 0)=W5 at *);(have e0:W5.cell? ⟨(X+1+1),0,none⟩=some (.slice none 0 0):=k1.cell 0);(have e1:W5.cell? ⟨(X+1+1),1,none⟩=some (.slice none 0 0):=k1.cell 1);have hz:=k2.bel;(refine bodyPost_ret (v:=.tuple #[.agg #[.slice none 0 0,.slice none 0 0],.int .i64 6]) ?_ rfl ⟨⟨_,_,_,_,_,_,_,rfl,.inl rfl⟩,hz⟩);(simp[results,Tryz.results31,go_sem,e0,e1]))
   ·obtain rfl:t=D:=by omega
    have tI:¬ (t:Int)<t:=by omega
    have hmk:=mk_vec n (by omega)
    obtain⟨fc,hfc⟩:∃ fc,fc=fcl (List.replicate n 0):=⟨_,rfl⟩
    rw[←hfc] at hmk
    have HF:=Lib.hid hfc
    have bx:=HX0.out.call hin.bel
    have x0:=bx.c0;have x1:=bx.c1;have x2:=bx.c2;have xl:=bx.lt
    clear hfc bx
    go_upto_region 12 with fail
    obtain⟨g,hg⟩:∃ g,g=wr.heap.size:=⟨_,rfl⟩
    have bv:VBx (wr.alloc (.cells fc.toArray 72)) g (List.replicate n 0):=by
     have:=Bx.new_at wr fc.toArray 72 hg
     show Bx _ g 72 (fcl _)
     rw[←HF.out];exact this
    have HG:Hid (W4.heap.size≤g):=Lib.hid (by rw[hg];exact hin.siz)
    have hin5:=hin.alloc (.cells fc.toArray 72)
    rw[←hg]
    clear hmk x0 x1 x2 xl hg hin
    generalize wr.alloc (.cells fc.toArray 72)=W5 at *
    have hX2:¬ X+1+1=g:=by have:=HX2.out.lt;have:=HG.out;omega
    obtain⟨pa',pc',hpe,hPI⟩:=pivs_ints HEL.out.piv
    rw[←HK.out] at hpe
    obtain⟨rfl,rfl⟩:pa=pa'∧pc=pc':=by
     injection hpe with h1 h2 h3
     exact⟨h1,h3⟩
    have HPI:=Lib.hid hPI
    clear hpe hPI
    have hbox:=(HEL.out.call hin5.bel).box
    have b0:=hbox.c0
    have b2:=hbox.c2
    have bl:=hbox.lt
    clear hbox
    go_wp2_with fail
    clear b0 b2 bl
    go_loopw [56] (fun v56 wq=>∃ (i:Nat) (ql:List Rat),i≤K∧v56=.int .i64 i∧In W4.heap.size W4 wq∧ql.length=n∧VBx wq g ql) (fun v56 _=>K - (RowKit.intOf v56).toNat)
    case atStart=>exact⟨0,_,Nat.zero_le _,rfl,hin5,by simp,bv⟩
    case round=>
     rename World=>wq
     clear hin5 bv
     obtain⟨i,ql,hi,rfl,hinq,hql,bv⟩:=hrel
     by_cases hiK:i<K
     ·have iI:(i:Int)<K:=by omega
      have iRI:(i:Int)<n:=by omega
      have i0:(0:Int)≤i:=by omega
      have iw:IntKind.i64.wrap ((i:Int)+1)=((i+1:Nat):Int):=IntWalk.i64_in _ (by omega)
      have nI:(n:Int)<((n+1:Nat):Int):=by omega
      have nI':(n:Int)<(n:Int)+1:=by omega
      have n0:(0:Int)≤n:=by omega
      have el:=HEL.out.call hinq.bel
      obtain⟨rb',cs,hrae,hrb,hBr,hci⟩:=el.rw.rows i (by omega)
      injection hrae with hrae
      injection hrae with hrae
      subst hrae
      obtain⟨v,hv⟩:∃ v,v=s.M i n:=⟨_,rfl⟩
      have hrow:=el.rw.row i (by omega)
      obtain⟨B1,B2,B3,B4,B5,hB,hB'⟩:∃ A1 A2 A3 A4 A5,fracV v=.agg #[.int .u64 A1,.string A2,.bool A3,.int .u64 A4,.string A5]∧fcs v=[.int .u64 A1,.string A2,.bool A3,.int .u64 A4,.string A5]:=⟨_,_,_,_,_,rfl,rfl⟩
      obtain⟨c0,c1,c2,c3,c4⟩:=VBx.eltc hrow (Nat.lt_succ_self n) (by rw[←hv];exact hB')
      have rc0:=(hBr.cell i).trans hci
      have rl:=hBr.lt
      have fl:=hrow.lt
      obtain⟨pb,poff,rfl,hpb,hpc⟩:=(HPI.out.call hinq.bel) i (by rw[List.length_map,←HK.out];exact hiK)
      have hpv:(s.piv.map fun k=>((k:Nat):Int)).getD i 0=((s.piv.getD i 0:Nat):Int):=zl_getD (by rw[←HK.out];exact hiK)
      have hpm:=HPLT.out _ (getD_in (l:=s.piv) (r:=i) (by rw[←HK.out];exact hiK))
      rw[hpv] at hpc
      obtain⟨x,hx⟩:∃ x,x=s.piv.getD i 0:=⟨_,rfl⟩
      rw[←hx] at hpc hpm
      have xI:(x:Int)<n:=by omega
      have xn0:(0:Int)≤x:=by omega
      have bx:=HX0.out.call hinq.bel
      have x0:=bx.c0;have x1:=bx.c1;have x2:=bx.c2;have xl:=bx.lt
      have hbox:=el.box
      have b0:=hbox.c0
      have b2:=hbox.c2
      have bl:=hbox.lt
      have HB:=Lib.hid hB'
      clear hv hB hB' hpv hci hrow hbox bx el hBr hx
      go_upto_region 15 with fail
      have h:=In.self wq;have hc:=h.cell;have hf:=h.frozen;refine tfw 14 ?_;refine tset ?_;(repeat (first | refine tfs ?_))
      (try clear hc hf h);intro u w' h ha hdi;replace h:=tsz h.ins;replace ha:=tah ha;have hc:=h.cell;have hf:=h.frozen
      (try obtain ha:=ha);(try dsimp only);simp only[ha];clear ha hdi
      have bv2:=bv.call h.bel
      have hlt:x<ql.length:=by rw[hql];exact hpm
      obtain⟨_,_,_,_,_,_,d0,d1,d2,d3,d4,e0,e1,e2,e3,e4⟩:=VBx.cells bv2 hlt
      have hgl2:=bv2.lt
      have hs:=VBx.setA bv2 x v hlt HB.out
      have hgr:=gr_putA w' g x (.int .u64 B1) (.string B2) (.bool B3) (.int .u64 B4) (.string B5)
      have H1:=Lib.hid hs
      have H2:=Lib.hid ((hinq.call h.bel).grown hgr HG.out)
      have HQL:Hid ((ql.set x v).length=n):=Lib.hid (by rw[List.length_set];exact hql)
      clear hs hc hf h bv2 bv hinq x0 x1 x2 xl c0 c1 c2 c3 c4 rc0 rl fl hpc b0 b2 bl hlt hgr
      go_wp2_with fail
      exact⟨⟨i+1,_,by omega,by go_num,H2.out,HQL.out,H1.out⟩,by simp[RowKit.intOf];omega⟩
     ·obtain rfl:i=K:=by omega
      have iI:¬ (i:Int)<i:=by omega
      have ck:=ekernel_any wq _ p n (n+1) n rc _ _ f3 s (HEL.out.call hinq.bel) HPLT.out (by rw[←HK.out];omega) (by omega) (by omega) (by omega) (by omega)
      have bq:=HX2.out.call hinq.bel
      have hin:=HV.out.call hinq.bel
      have hpos:0<(outer n s.piv).length:=by
       have:=(split_outer HNOD.out HPLT.out).len
       have:=HK.out
       omega
      have HPOS:=Lib.hid hpos
      clear hinq bv hql hpos
      go_wp2_with fail
      (refine ck.mono ?_)
      rintro e W6 ⟨⟨ka,kc,rfl⟩,hb⟩
      replace bq:=bq.call hb
      replace hin:=hin.call hb
      clear hb ck
      (have q0:=bq.c0;have q1:=bq.c1;(have f0:=bq.frozen 0);(have f1:=bq.frozen 1);have ql:=bq.lt;(have K1:=Lib.hid (((bq.set 0 (.slice (some ⟨g,0,none⟩) n n)).set 1 (.slice ka (outer n s.piv).length kc))));(have K2:=Lib.hid (((hin.setCell (p:=⟨(X+1+1),0,none⟩) (by first |(simp;done)|(have:=HX.out;simp;omega)) (.slice (some ⟨g,0,none⟩) n n)).setCell (p:=⟨(X+1+1),1,none⟩) (by first |(simp;done)|(have:=HX.out;simp;omega)) (.slice ka (outer n s.piv).length kc))));clear bq hin;go_wp2_with fail;have k1:=K1.out;have k2:=K2.out;clear q0 q1 f0 f1 ql K1 K2;(generalize (W6.setCell ⟨(X+1+1),0,none⟩ (.slice (some ⟨g,0,none⟩) n n)).setCell ⟨(X+1+1),1,none⟩ (.slice ka (outer n s.piv).length kc)=W5 at *);(have e0:W5.cell? ⟨(X+1+1),0,none⟩=some (.slice (some ⟨g,0,none⟩) n n):=k1.cell 0);(have e1:W5.cell? ⟨(X+1+1),1,none⟩=some (.slice ka (outer n s.piv).length kc):=k1.cell 1);have hz:=k2.bel;(refine bodyPost_ret (v:=.tuple #[.agg #[.slice (some ⟨g,0,none⟩) n n,.slice ka (outer n s.piv).length kc],.int .i64 0]) ?_ rfl ⟨⟨_,_,_,_,_,_,_,rfl,.inr ⟨rfl,HPOS.out⟩⟩,hz⟩);(simp[results,Tryz.results31,go_sem,e0,e1]))
end Gus
end
section
namespace Gus
open Go Go.RowKit Go.Proofs
def solV (n:Nat) (M:Mx) (b:Vc):Vc:=fun i=>(elim n (aug n M b) n).M i n
def LeftP (w:World) (n:Nat) (M:Mx) (b:Vc) (e:Ending) (w':World):Prop:=((NS n M∧∃ d,e=.returned (.tuple #[d,.int .i64 0])∧VecAt w' d (vl n (solV n M b)))∨(¬ NS n M∧e=.returned (.tuple #[.slice none 0 0,.int .i64 6])))∧Below w.heap.size w w'
theorem ns_ker {n:Nat} {M:Mx} (h:NS n M) (y:Vc) (hy:Ker n n M y):∀ i,i<n→y i=0:=fun i hi=>h y (fun r hr=>hy r hr) i hi
set_option maxRecDepth 100000 in
set_option maxHeartbeats 4000000 in
theorem sleft_any {z:Nat} (w:World) (v bv:Value) (n:Nat) (M:Mx) (b:Vc) (hM:MatS w v n n M) (hb:VecAt w bv (vl n b)) (hn:n≤16) (hz:1≤z) (hzM:Mz n n z M) (hbz:Vz n z b) (hcap:5*(z*5 ^ n)+2<17592186044416) :
  Calls Tryz.prog 103 #[v,bv] w (LeftP w n M b):=by
 have hq:∀ i k,i<n→k<n→(dense n n M).getD (i*n+k) 0=M i k:=fun i k hi hk=>dense_getD M hi hk
 have HM:=Lib.hid hM
 have HB:=Lib.hid hb
 obtain⟨ag,N,kd,hN,rfl⟩:=hM.shape
 obtain⟨ba,bc,rfl⟩:=hb.shape
 rw[vl_length] at HB ⊢
 have HQ:=Lib.hid hq
 have HZM:=Lib.hid hzM
 have HBZ:=Lib.hid hbz
 have hin:=In.self w
 clear hM hb hN hq hzM hbz
 go_enter Tryz.func103,Tryz.ntmps103
 go_upto_region 1 with fail
 ((obtain⟨X,hX⟩:∃ z,z=w.heap.size:=⟨_,rfl⟩);(have bX:=Bx.new_at w #[.int .i64 n,.int .i64 n,.slice ag N kd] 37 hX);(replace hin:=hin.alloc (.cells #[.int .i64 n,.int .i64 n,.slice ag N kd] 37));(rw[←hX]);clear hX;(generalize w.alloc (.cells #[.int .i64 n,.int .i64 n,.slice ag N kd] 37)=w1 at *))
 have hm1:=HM.out.call hin.bel
 have hb1:=HB.out.call hin.bel
 clear HM HB
 by_cases hns:NS n M
 ·have HNS:=Lib.hid hns
  have cs:=esolve_full (z:=z) w1 _ _ n M _ b hm1.q HQ.out hb1 hn hz HZM.out HBZ.out hcap (ns_ker hns)
  clear hns hm1 hb1
  (have x0:=bX.c0;have x1:=bX.c1;have x2:=bX.c2;have xl:=bX.lt)
  (go_wp2_with fail;(((with_reducible refine(cs).mono ?_)));(rintro e wc2 ⟨⟨d,rfl,hd⟩,hb⟩);clear x0 x1 x2 xl cs;replace hin:=hin.call hb;replace bX:=bX.call hb;clear hb)
  obtain⟨da,dc,hde⟩:=hd.shape
  rw[vl_length] at hde
  subst hde
  go_upto_region 2 with fail
  ((obtain⟨S,hS⟩:∃ z,z=wc2.heap.size:=⟨_,rfl⟩);(have bS:=Bx.new_at wc2 #[.slice da n dc,.slice none 0 0] 79 hS);(replace hin:=hin.alloc (.cells #[.slice da n dc,.slice none 0 0] 79));(replace bX:=bX.alloc (.cells #[.slice da n dc,.slice none 0 0] 79));(replace hd:=hd.call ((Below.refl _ _).alloc (Nat.le_refl _) (.cells #[.slice da n dc,.slice none 0 0] 79)));(rw[←hS]);clear hS;(generalize wc2.alloc (.cells #[.slice da n dc,.slice none 0 0] 79)=W3 at *))
  (have s0:=bS.c0;have s1:=bS.c1;have sl:=bS.lt)
  have H1:=Lib.hid hd
  have hbel:=hin.bel
  clear hd bX
  go_wp2_with fail
  exact bodyPost_ret (v:=.tuple #[.slice da n dc,.int .i64 0]) (by simp[results,Tryz.results103,go_sem]) rfl ⟨.inl ⟨HNS.out,_,rfl,H1.out⟩,hbel⟩
 ·have HNS:=Lib.hid hns
  have cs:=esolve_sing (z:=z) w1 _ _ n M _ b hm1.q HQ.out hb1 hn hz HZM.out HBZ.out hcap hns
  clear hns hm1 hb1
  (have x0:=bX.c0;have x1:=bX.c1;have x2:=bX.c2;have xl:=bX.lt)
  (go_wp2_with fail;(((with_reducible refine(cs).mono ?_)));(rintro e wc2 ⟨⟨da,dl,dc,a,k,c,code,rfl,hcode⟩,hb⟩);clear x0 x1 x2 xl cs;replace hin:=hin.call hb;replace bX:=bX.call hb;clear hb)
  go_upto_region 2 with fail
  ((obtain⟨S,hS⟩:∃ z,z=wc2.heap.size:=⟨_,rfl⟩);(have bS:=Bx.new_at wc2 #[.slice da dl dc,.slice a k c] 79 hS);(replace hin:=hin.alloc (.cells #[.slice da dl dc,.slice a k c] 79));(replace bX:=bX.alloc (.cells #[.slice da dl dc,.slice a k c] 79));(rw[←hS]);clear hS;(generalize wc2.alloc (.cells #[.slice da dl dc,.slice a k c] 79)=W3 at *))
  (have s0:=bS.c0;have s1:=bS.c1;have sl:=bS.lt)
  have hbel:=hin.bel
  clear bX
  rcases hcode with rfl |⟨rfl,hk⟩
  ·go_wp2_with fail
   exact bodyPost_ret (v:=.tuple #[.slice none 0 0,.int .i64 6]) (by simp[results,Tryz.results103,go_sem]) rfl ⟨.inr ⟨HNS.out,rfl⟩,hbel⟩
  ·have kI:(0:Int)<k:=by omega
   clear hk
   go_wp2_with fail
   exact bodyPost_ret (v:=.tuple #[.slice none 0 0,.int .i64 6]) (by simp[results,Tryz.results103,go_sem]) rfl ⟨.inr ⟨HNS.out,rfl⟩,hbel⟩
end Gus
end
section
namespace Gus
def nestV:Nat→List (List Nat)→Nat→Mx→Vc→Vc
 | 0,_,n,M,b=>solV n M b
 | _+1,[],n,M,b=>solV n M b
 | k+1,g :: gs,n,M,b=>
  put2 g (outer n g) (innV M g (outer n g) (invM g.length (sub M g g)) b (nestV k (gs.map (places (outer n g))) (outer n g).length (schur M g (outer n g) (invM g.length (sub M g g))) (condV M g (outer n g) (invM g.length (sub M g g)) b)))
   (nestV k (gs.map (places (outer n g))) (outer n g).length (schur M g (outer n g) (invM g.length (sub M g g))) (condV M g (outer n g) (invM g.length (sub M g g)) b))
def nestOk:Nat→List (List Nat)→Nat→Mx→Prop
 | 0,_,n,M=>NS n M
 | _+1,[],n,M=>NS n M
 | k+1,g :: gs,n,M=>NS g.length (sub M g g)∧nestOk k (gs.map (places (outer n g))) (outer n g).length (schur M g (outer n g) (invM g.length (sub M g g)))
theorem places_length (oo l:List Nat):(places oo l).length=l.length:=by simp[places]
theorem places_flat (oo:List Nat) (gs:List (List Nat)):(gs.map (places oo)).flatten=places oo gs.flatten:=by
 unfold places;rw[List.map_flatten]
theorem getD_idx {oo:List Nat} (hn:oo.Nodup) {i:Nat} (h:i∈oo):oo.idxOf i<oo.length∧oo.getD (oo.idxOf i) 0=i:=by
 obtain⟨r,hr,rfl⟩:=mem_getD h
 rw[idx_getD hn hr]
 exact⟨hr,rfl⟩
theorem places_grp {oo l:List Nat} (hn:oo.Nodup) (hl:l.Nodup) (h:∀ i∈l,i∈oo):Grp oo.length (places oo l):=by
 constructor
 ·unfold places List.Nodup
  rw[List.pairwise_map]
  refine List.Pairwise.imp_of_mem (fun {a b} ha hb hab e=>hab ?_) hl
  rw[←(getD_idx hn (h a ha)).2,←(getD_idx hn (h b hb)).2,e]
 ·intro i hi
  obtain⟨x,hx,rfl⟩:=List.mem_map.1 hi
  exact(getD_idx hn (h x hx)).1
theorem Grp.cons {n:Nat} {g:List Nat} {gs:List (List Nat)} (h:Grp n (g :: gs).flatten):Grp n g∧(∀ i∈gs.flatten,i∈outer n g)∧Grp (outer n g).length (gs.map (places (outer n g))).flatten:=by
 rw[List.flatten_cons] at h
 obtain⟨h1,h2,h3⟩:=List.nodup_append.1 h.1
 have hm:∀ i∈gs.flatten,i∈outer n g:=fun i hi=>mem_outer.2 ⟨h.2 i (List.mem_append.2 (.inr hi)),fun hg=>h3 i hg i hi rfl⟩
 refine⟨⟨h1,fun i hi=>h.2 i (List.mem_append.2 (.inl hi))⟩,hm, ?_⟩
 rw[places_flat]
 exact places_grp (outer_nodup n g) h2 hm
theorem solV_szk {n z:Nat} {M:Mx} {b:Vc} (hz:1≤z) (hM:Mz n n z M) (hb:Vz n z b):Vz n (z*5 ^ n) (solV n M b):=fun i hi=>
 (elim_szk (R:=n) (m:=n+1) hz (fun r c hr hc=>by
  unfold aug
  split
  ·exact hM r c hr ‹_›
  ·exact hb r hr) n (by omega)).1 i n hi (by omega)
theorem nestV_szk:∀ (k:Nat) (gs:List (List Nat)) {n z:Nat} {M:Mx} {b:Vc},gs.length=k→Grp n gs.flatten→1≤z→Mz n n z M→Vz n z b→Vz n (nestZ (gs.map List.length) n z) (nestV k gs n M b)
 | 0,[],n,z,M,b,_,_,hz,hM,hb=>(solV_szk hz hM hb).mono (by unfold nestZ;simp only[List.map_nil];omega)
 | 0,g :: gs,_,_,_,_,h,_,_,_,_=>absurd h (by simp)
 | _+1,[],_,_,_,_,h,_,_,_,_=>absurd h (by simp)
 | k+1,g :: gs,n,z,M,b,h,hg,hz,hM,hb=>by
  obtain⟨h1,h2,h3⟩:=hg.cons
  have hs:=h1.split
  have ho:∀ i∈outer n g,i<n:=fun i h=>hs.lt (.inr h)
  have hlen:=hs.len
  have ih:=nestV_szk k (gs.map (places (outer n g))) (by simpa using h) h3 (Nat.le_trans hz (z_le_gz g.length z)) (schur_szk hz hM h1.2 ho) (cond_szk hz hM hb h1.2 ho)
  have e:(gs.map (places (outer n g))).map List.length=gs.map List.length:=by
   rw[List.map_map]
   exact List.map_congr_left fun l _=>places_length _ l
  rw[e,show(outer n g).length=n - g.length by omega] at ih
  have he:=ext_szk hz hM hb (y:=nestZ (gs.map List.length) (n - g.length) (gz g.length z)) (v:=nestV k (gs.map (places (outer n g))) (outer n g).length (schur M g (outer n g) (invM g.length (sub M g g))) (condV M g (outer n g) (invM g.length (sub M g g)) b)) (by rw[show(outer n g).length=n - g.length by omega];exact ih) h1.2 ho
  rw[show(outer n g).length=n - g.length by omega] at he
  intro i hi
  have hZ:nestZ ((g :: gs).map List.length) n z=ez g.length (n - g.length) z (nestZ (gs.map List.length) (n - g.length) (gz g.length z))+nestZ (gs.map List.length) (n - g.length) (gz g.length z)+(5*(z*5 ^ g.length)+2)+gz g.length z:=rfl
  rw[hZ]
  unfold nestV put2
  rcases hs.cover hi with hm | hm
  ·rw[if_pos hm]
   have hx:=getD_idx h1.1 hm
   have:=he (g.idxOf i) hx.1
   rw[show n - g.length=(outer n g).length by omega] at this
   exact this.mono (by rw[show(outer n g).length=n - g.length by omega];omega)
  ·rw[if_neg fun hg=>(mem_outer.1 hm).2 hg]
   have hx:=getD_idx (outer_nodup n g) hm
   have:=ih ((outer n g).idxOf i) (by omega)
   rw[show n - g.length=(outer n g).length by omega] at this ⊢
   exact this.mono (by omega)
end Gus
end
