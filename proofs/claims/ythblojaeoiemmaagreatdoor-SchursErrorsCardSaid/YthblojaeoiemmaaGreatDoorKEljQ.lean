/- Proved here: parts of the proof: KElj KElk KEll. Conditions: those that each theorem states. -/
import Derived.Test.YthblojaeoiemmaaGreatDoorKElfQ
section
namespace Gus
open Go Go.RowKit Go.Proofs
def RedP (w:World) (lo p R m cols rc:Nat) (ra:Option Addr) (s:El) (e:Ending) (w':World):Prop:=∃ f pv,e=.returned (.pointer (some ⟨p,0,none⟩))∧In lo w w'∧ElAt w' lo p R m cols ra rc pv f s
set_option maxRecDepth 100000 in
set_option maxHeartbeats 16000000 in
theorem reduce_any {z:Nat} (w:World) (lo p R m cols rc:Nat) (ra:Option Addr) (f0:Nat→Nat) (M:Mx) (el:ElAt w lo p R m cols ra rc (.slice none 0 0) f0 ⟨M,[],1⟩) (hcm:cols≤m) (hR:R≤4096) (hm:m≤4096) (hlo:lo≤w.heap.size)
  (hz1:1≤z) (hz:∀ r c,r<R→c<m→SzK z (M r c)) (hcap:5*(z*5 ^ cols)+2<17592186044416) :
  Calls Tryz.prog 67 #[.pointer (some ⟨p,0,none⟩)] w fun e w'=>RedP w lo p R m cols rc ra (elim R M cols) e w':=by
 obtain⟨i0,hi0,hi1,hi2,hi3⟩:=info_parts info_int8
 have HZ:=Lib.hid (fun k (hk:k≤cols)=>elim_szk (R:=R) (m:=m) hz1 hz k (by omega))
 have HRE:=Lib.hid (fun k=>elim_red R m M k)
 have HCAP:Hid (∀ k,k≤cols→5*(z*5 ^ k)+2<17592186044416):=Lib.hid fun k hk=>by
  have:z*5 ^ k≤z*5 ^ cols:=Nat.mul_le_mul_left _ (Nat.pow_le_pow_right (by decide) hk)
  omega
 clear hz hcap
 have hin:In lo w w:=⟨Below.refl _ _,hlo⟩
 have hbox:=el.box
 have b0:=hbox.c0
 have b1:=hbox.c1
 have bl:=hbox.lt
 clear hbox
 go_enter Tryz.func67,Tryz.ntmps67
 go_wp2_with fail
 go_step3
 go_wp2_with fail
 go_step3
 go_wp2_with fail
 clear b0 b1 bl
 go_loopw [10] (fun v10 wr=>∃ (k:Nat) (f:Nat→Nat) (pv:Value),k≤cols∧v10=.int .i64 k∧In lo w wr∧ElAt wr lo p R m cols ra rc pv f (elim R M k)) (fun v10 _=>cols - (RowKit.intOf v10).toNat)
 case atStart=>exact⟨0,_,_,Nat.zero_le _,rfl,hin,el⟩
 case round=>
  clear hin el
  obtain⟨k,f,pv,hk,rfl,hin,el⟩:=hrel
  by_cases hkc:k<cols
  ·have kI:(k:Int)<cols:=by omega
   have hkw:IntKind.i64.wrap ((k:Int)+1)=((k+1:Nat):Int):=IntWalk.i64_in _ (by omega)
   obtain⟨hzM,hzd⟩:=HZ.out k hk
   have hcap:=HCAP.out k hk
   have hj:1≤z*5 ^ k:=Nat.mul_pos hz1 (Nat.pow_pos (by decide))
   obtain⟨j,hj9⟩:∃ j,j=z*5 ^ k:=⟨_,rfl⟩
   rw[←hj9] at hzM hzd hcap hj
   obtain⟨s,hs⟩:∃ s,s=elim R M k:=⟨_,rfl⟩
   have hred:=HRE.out k
   have hel1:elim R M (k+1)=elStep R (elim R M k) k:=rfl
   rw[←hs] at hzM hzd el hred hel1
   have HS1:=Lib.hid hel1
   have HZM:=Lib.hid hzM
   have HZD:=Lib.hid hzd
   have HRD:=Lib.hid hred
   obtain⟨top,ht⟩:∃ t,t=s.piv.length:=⟨_,rfl⟩
   have htR:top≤R:=by rw[ht];exact hred.len
   have HT:=Lib.hid ht
   obtain⟨pa,pc,hpe⟩:=el.pvShape
   rw[←ht] at hpe
   subst hpe
   clear hj9 hs hel1 hzM hzd hred ht
   have hbox:=el.box
   have b0:=hbox.c0
   have b1:=hbox.c1
   have b2:=hbox.c2
   have bl:=hbox.lt
   clear hbox
   go_upto_region 5 with fail
   clear b0 b1 b2 bl
   go_wp2_with fail
   go_loopw [5] (fun v5 wq=>∃ i:Nat,top≤i∧i≤R∧v5=.int .i64 i∧In lo w wq∧ElAt wq lo p R m cols ra rc (.slice pa top pc) f s∧Hid (∀ r,top≤r→r<i→s.M r k=0)) (fun v5 _=>R - (RowKit.intOf v5).toNat)
   case atStart=>exact⟨top,Nat.le_refl _,htR,rfl,hin,el,Lib.hid fun r h1 h2=>by omega⟩
   case round=>
    rename World=>wq
    clear hin el
    obtain⟨i,hti,hi,rfl,hin,el,HZR⟩:=hrel
    by_cases hiR:i<R
    ·have iI:(i:Int)<R:=by omega
     have i0':(0:Int)≤i:=by omega
     have hiw:IntKind.i64.wrap ((i:Int)+1)=((i+1:Nat):Int):=IntWalk.i64_in _ (by omega)
     have htR2:top<R:=by omega
     have hkm:k<m:=by omega
     have hkI:(k:Int)<m:=by omega
     have hk0:(0:Int)≤k:=by omega
     obtain⟨rb,cs,rfl,hrb,hBr,hci⟩:=el.rw.rows i hiR
     have hrow:=el.rw.row i hiR
     obtain⟨v,hv⟩:∃ v,v=s.M i k:=⟨_,rfl⟩
     have HV:=Lib.hid hv
     obtain⟨B1,B2,B3,B4,B5,hB,hB'⟩:∃ A1 A2 A3 A4 A5,fracV v=.agg #[.int .u64 A1,.string A2,.bool A3,.int .u64 A4,.string A5]∧fcs v=[.int .u64 A1,.string A2,.bool A3,.int .u64 A4,.string A5]:=⟨_,_,_,_,_,rfl,rfl⟩
     obtain⟨c0,c1,c2,c3,c4⟩:=VBx.eltc hrow hkm (by rw[←hv];exact hB')
     have rc0:=(hBr.cell i).trans hci
     have rl:=hBr.lt
     have fl:=hrow.lt
     have hbox:=el.box
     have b0:=hbox.c0
     have bl:=hbox.lt
     have csg:=fsign_any v
     rw[hB] at csg
     obtain⟨sg,hsg⟩:∃ sg,sg=isign v.num:=⟨_,rfl⟩
     rw[←hsg] at csg
     have hsg0:sg=0↔v=0:=by rw[hsg,isign_zero,Rat.num_eq_zero]
     clear hv hB hB' hsg hci hrow hbox
     (go_wp2_with fail;(((with_reducible refine(csg _).mono ?_)));rintro e wc1 ⟨rfl,hb⟩;clear csg;replace hin:=hin.call hb;replace el:=el.call hb;clear hb)
     clear c0 c1 c2 c3 c4 rc0 rl fl b0 bl hBr
     by_cases hv0:v=0
     ·have hs0:=hsg0.2 hv0
      subst hs0
      have HIN:=Lib.hid hin
      have HEL:=Lib.hid el
      have HZ2:Hid (∀ r,top≤r→r<i+1→s.M r k=0):=Lib.hid fun r h1 h2=>by
       by_cases h:r<i
       ·exact HZR.out r h1 h
       ·obtain rfl:r=i:=by omega
        rw[←HV.out];exact hv0
      clear hin el hv0 hsg0
      go_wp2_with fail
      exact⟨⟨i+1,by omega,by omega,by go_num,HIN.out,HEL.out,HZ2⟩,by simp[RowKit.intOf];omega⟩
     ·have hs1:(sg == 0)=false:=by
       have:¬ sg=0:=fun h=>hv0 (hsg0.1 h)
       simpa using this
      have HV0:=Lib.hid hv0
      clear hsg0 hv0
      have csw:=swap_any wc1 lo p R m cols rc i top (some ⟨rb,0,none⟩) _ f s el hiR htR2 hin.siz
      go_wp2_with fail
      (refine csw.mono ?_)
      rintro e W5 ⟨rfl,h5,f',el5⟩
      have hin5:=hin.trans h5
      have hds:SzK j (if i=top then s.det else -s.det):=by
       split
       ·exact HZD.out
       ·exact HZD.out.neg
      have hpiv:rowSwap s.M i top top k=s.M i k:=rowSwap_top
      have ccl:=clear_any (z:=j) (zd:=j) W5 lo p R m cols rc top k (some ⟨rb,0,none⟩) _ f' ⟨rowSwap s.M i top,s.piv,if i=top then s.det else -s.det⟩ el5 htR2 hkm (by show rowSwap s.M i top top k≠0;rw[hpiv,←HV.out];exact HV0.out) hR hm hin5.siz (swap_szk hiR htR2 HZM.out) hds (by omega)
      clear csw el hin h5
      go_wp2_with fail
      (refine ccl.mono ?_)
      rintro e W6 ⟨rfl,h6,el6⟩
      have hin6:=hin5.trans h6
      clear ccl el5 hin5 h6
      have hbox:=el6.box
      have hown:=el6.piv
      have hvlt:=hown.lt
      have b0:=hbox.c0
      have b1:=hbox.c1
      have b2:=hbox.c2
      have bl:=hbox.lt
      have HE6:=Lib.hid el6
      have HI6:=Lib.hid hin6
      obtain⟨xs,hxs⟩:∃ xs:List Value,xs=s.piv.map fun k=>.int .i64 (k:Nat):=⟨_,rfl⟩
      have hown':W6.ownsRow lo 3 1 (.slice pa top pc) top xs:=by rw[hxs,HT.out];rw[HT.out] at hown;exact hown
      have HOWN:=Lib.hid hown'
      have HXS:=Lib.hid hxs
      have HVLT:=Lib.hid hvlt
      have hW6:lo≤W6.heap.size:=hin6.siz
      clear hbox hown hown' hxs hvlt el6 hin6
      go_wp2_with (at_builtin;refine wpList_append_own _ rfl (.tmp 52) (.tmp 54) 22 rfl lo 3 i0 (.int .i64 0) 1 8 Tryz.underlying22 hi0 hi1 hi2 hi3 rfl (by decide) (.slice pa top pc) top xs rfl (HOWN.out.alloc _) ⟨W6.heap.size,0,none⟩ 1 1 [.int .i64 (k:Nat)] rfl rfl ?e1 ?e2 ?e3 ?e4 ?e5 ?_)
      case e1=>
       intro j u hj
       rw[Addr.add_lit,Nat.zero_add,(Bx.new_at W6 #[.int .i64 (k:Nat)] 3 rfl).cell j];exact hj
      case e2=>
       intro u hu
       simp only[List.mem_cons,List.not_mem_nil,or_false] at hu
       subst hu;rfl
      case e3=>simp only[maxLen];omega
      case e4=>omega
      case e5=>rw[World.size_alloc];omega
      intro v' w3 hown3 hgr _
      have hal2:Below W6.heap.size W6 (W6.alloc (.cells #[.int .i64 (k:Nat)] 3)):=(Below.refl _ _).alloc (Nat.le_refl _) _
      have el7:=HE6.out.call hal2
      rw[HXS.out] at hown3
      obtain⟨el8,hbox8⟩:=ElAt.snoc (k:=k) el7 (by show w3.ownsRow lo 3 1 v' (s.piv.length+1) _;rw[←HT.out];exact hown3) hgr
      obtain⟨g9,c9,rfl⟩:∃ g9 c9,v'=.slice (some ⟨g9,0,none⟩) (top+1) c9:=by
       rcases hown3.2 with ⟨_,hn⟩|⟨g9,c9,cur,h9,_⟩
       ·omega
       ·exact⟨g9,c9,h9⟩
      have hin7:=HI6.out.call hal2
      have hin8:In lo w w3:=⟨hin7.bel.grown hgr hin7.siz (fun k h=>by have:=(HVLT.out k h).1;omega),Nat.le_trans hin7.siz hgr.size⟩
      have K1:Hid (ElAt (w3.setCell ⟨p,2,none⟩ (.slice (some ⟨g9,0,none⟩) (top+1) c9)) lo p R m cols (some ⟨rb,0,none⟩) rc (.slice (some ⟨g9,0,none⟩) (top+1) c9) f' (elim R M (k+1))):=Lib.hid (by
       rw[HS1.out,elStep_some (i:=i) (by rw[←HT.out];exact hti) hiR (fun r h1 h2=>HZR.out r (by rw[HT.out];exact h1) h2) (by rw[←HV.out];exact HV0.out),←HT.out]
       exact el8)
      have K2:=Lib.hid (hin8.setCell (p:=⟨p,2,none⟩) el7.plo (.slice (some ⟨g9,0,none⟩) (top+1) c9))
      have p0:=hbox8.c0
      have p1:=hbox8.c1
      have p2:=hbox8.c2
      have pf:=hbox8.frozen 2
      have pl:=hbox8.lt
      clear hal2 el7 el8 hbox8 hown3 hgr hin7 hin8 b0 b1 b2 bl
      go_wp2_with fail
      exact⟨⟨k+1,_,_,by omega,by go_num,K2.out,K1.out⟩,by simp[RowKit.intOf];omega⟩
    ·obtain rfl:i=R:=by omega
     have iI:¬ (i:Int)<i:=by omega
     have hbox:=el.box
     have b0:=hbox.c0
     have bl:=hbox.lt
     have HIN:=Lib.hid hin
     have HEL:Hid (ElAt wq lo p i m cols ra rc (.slice pa top pc) f (elim i M (k+1))):=Lib.hid (by
      rw[HS1.out,elStep_none HRD.out.len (fun r h1 h2=>HZR.out r (by rw[HT.out];exact h1) h2)]
      exact el)
     clear hin el hbox
     go_wp2_with fail
     exact⟨⟨k+1,_,_,by omega,by go_num,HIN.out,HEL.out⟩,by simp[RowKit.intOf];omega⟩
  ·obtain rfl:k=cols:=by omega
   have kI:¬ (k:Int)<k:=by omega
   have H1:=Lib.hid el
   have H2:=Lib.hid hin
   clear el hin
   go_wp2_with fail
   go_ret
   exact⟨f,pv,rfl,H2.out,H1.out⟩
end Gus
end
section
namespace Gus
open Go Go.RowKit Go.Proofs
set_option maxRecDepth 100000 in
set_option maxHeartbeats 2000000 in
theorem sindex_any (w:World) (a:Option Addr) (cap:Nat) (xs:List Int) (v:Int) (hx:IntsAt w a xs) (hl:xs.length≤4096) :
  Calls Tryz.prog 159 #[.slice a xs.length cap,.int .i64 v] w (IdxPost w xs fun x=>decide (v=x)):=by
 obtain⟨L,hL⟩:∃ L,L=xs.length:=⟨_,rfl⟩
 unfold IntsAt at hx
 rw[←hL] at hx hl ⊢
 have HX:=Lib.hid hx
 have HL:=Lib.hid hL
 clear hx hL
 go_enter Tryz.func159,Tryz.ntmps159
 go_wp2_with fail
 go_loopw [8] (fun v8 wr=>∃ i:Nat,i≤L∧v8=.int .i64 i∧In w.heap.size w wr∧Hid ((xs.any fun x=>decide (v=x))=(xs.drop i).any fun x=>decide (v=x))) (fun v8 _=>L - (RowKit.intOf v8).toNat)
 case atStart=>exact⟨0,Nat.zero_le _,rfl,In.self _,Lib.hid rfl⟩
 case round=>
  obtain⟨i,hi,rfl,hin,HA⟩:=hrel
  by_cases hiL:i<L
  ·obtain⟨b,off,rfl,hb,hc⟩:=HX.out i hiL
   have hd:=drop_getD xs 0 (show i<xs.length by rw[←HL.out];exact hiL)
   obtain⟨x,hx⟩:∃ x,x=xs.getD i 0:=⟨_,rfl⟩
   rw[←hx] at hc hd
   rw[←hin.cell b _ hb] at hc
   have hbw:b<wr.heap.size:=by have:=hin.siz;omega
   have hiI:(i:Int)<L:=by omega
   have hi0:(0:Int)≤i:=by omega
   have hiw:IntKind.i64.wrap ((i:Int)+1)=((i+1:Nat):Int):=IntWalk.i64_in _ (by omega)
   have ha:=HA.out
   rw[hd,List.any_cons] at ha
   by_cases hvx:v=x
   ·have k1:(v == x)=true:=by simpa using hvx
    have HAA:Hid ((xs.any fun x=>decide (v=x))=true):=Lib.hid (by rw[ha,decide_eq_true hvx,Bool.true_or])
    clear hd hx ha HA hvx
    go_wp2_with fail
    go_ret
    exact⟨⟨i,rfl,by rw[HAA.out];exact decide_eq_true hi0⟩,hin.bel⟩
   ·have k1:(v == x)=false:=by simpa using hvx
    have HAA:Hid ((xs.any fun x=>decide (v=x))=(xs.drop (i+1)).any fun x=>decide (v=x)):=Lib.hid (by rw[ha,decide_eq_false hvx,Bool.false_or])
    clear hd hx ha HA hvx
    go_wp2_with fail
    exact⟨⟨i+1,by omega,by go_num,hin,HAA⟩,by simp[RowKit.intOf];omega⟩
  ·have hiI:¬ (i:Int)<L:=by omega
   have ha:=HA.out
   rw[List.drop_eq_nil_of_le (by rw[←HL.out];omega)] at ha
   have HAA:=Lib.hid ha
   clear ha HA
   go_wp2_with fail
   go_ret
   exact⟨⟨-1,rfl,by rw[HAA.out];rfl⟩,hin.bel⟩
set_option maxRecDepth 100000 in
theorem scontains_any (w:World) (a:Option Addr) (cap:Nat) (xs:List Int) (v:Int) (hx:IntsAt w a xs) (hl:xs.length≤4096) :
  Calls Tryz.prog 125 #[.slice a xs.length cap,.int .i64 v] w fun e w'=>e=.returned (.bool (xs.any fun x=>decide (v=x)))∧Below w.heap.size w w':=by
 have h1:=sindex_any w a cap xs v hx hl
 obtain⟨y,hy⟩:∃ y,y=xs.any fun x=>decide (v=x):=⟨_,rfl⟩
 rw[←hy]
 have HY:=Lib.hid hy
 clear hx hl hy
 go_enter Tryz.func125,Tryz.ntmps125
 go_wp2_with fail
 (with_reducible refine h1.mono ?_)
 rintro e w2 ⟨⟨z,rfl,hz⟩,hb⟩
 have HZ:=Lib.hid hz
 clear hz h1
 go_wp2_with fail
 go_ret
 exact⟨show Ending.returned (.bool (decide (0≤z)))=.returned (.bool y) by rw[HZ.out,HY.out],hb⟩
theorem pivs_ints {w:World} {lo:Nat} {pv:Value} {l:List Nat} (h:w.ownsRow lo 3 1 pv l.length (l.map fun k=>.int .i64 (k:Nat))):∃ a c,pv=.slice a l.length c∧IntsAt w a (l.map fun k=>((k:Nat):Int)):=by
 rcases h.2 with ⟨rfl,hn⟩|⟨g,c,cur,hv,_,hg,_⟩
 ·refine⟨none,0,by rw[hn],fun i hi=>?_⟩
  rw[List.length_map,hn] at hi
  exact absurd hi (Nat.not_lt_zero _)
 ·refine⟨_,c,hv,fun i hi=>?_⟩
  rw[List.length_map] at hi
  have hcell:=fun j u hj=>h.cells (g:=g) (by rw[hv];rfl) j u hj
  have hlt:=(Array.getElem?_eq_some_iff.1 hg).1
  have h0:=hcell i (.int .i64 ((l.getD i 0:Nat):Int)) (by
   rw[List.getElem?_map,List.getElem?_eq_getElem hi,List.getD_eq_getElem?_getD,List.getElem?_eq_getElem hi];rfl)
  rw[Addr.add_lit] at h0
  have e:(l.map fun k=>((k:Nat):Int)).getD i 0=((l.getD i 0:Nat):Int):=by
   simp only[List.getD_eq_getElem?_getD,List.getElem?_map,List.getElem?_eq_getElem hi];rfl
  rw[e]
  exact⟨g,0,rfl,hlt,h0⟩
set_option maxRecDepth 100000 in
set_option maxHeartbeats 4000000 in
theorem ekernel_full (w:World) (lo p R m cols rc:Nat) (ra:Option Addr) (pv:Value) (f:Nat→Nat) (s:El) (el:ElAt w lo p R m cols ra rc pv f s) (hs:s.piv=List.range cols) (hc:cols≤4096) :
  Calls Tryz.prog 79 #[.pointer (some ⟨p,0,none⟩)] w fun e w'=>e=.returned (.slice none 0 0)∧Below w.heap.size w w':=by
 obtain⟨pa,pc,hpe,hI⟩:=pivs_ints el.piv
 rw[hs,List.length_range] at hpe
 rw[hs] at hI
 subst hpe
 obtain⟨xs,hxs⟩:∃ xs:List Int,xs=(List.range cols).map fun k=>((k:Nat):Int):=⟨_,rfl⟩
 rw[←hxs] at hI
 have hxl:xs.length=cols:=by rw[hxs];simp
 have hany:∀ k,k<cols→(xs.any fun x=>decide ((k:Int)=x))=true:=fun k hk=>by
  rw[hxs,List.any_eq_true]
  exact⟨(k:Int),List.mem_map.2 ⟨k,List.mem_range.2 hk,rfl⟩,by simp⟩
 have HANY:=Lib.hid hany
 have HXL:=Lib.hid hxl
 have hin:=In.self w
 have hbox:=el.box
 have b0:=hbox.c0
 have b1:=hbox.c1
 have b2:=hbox.c2
 have bl:=hbox.lt
 have HB:=Lib.hid hbox
 have HI:=Lib.hid hI
 clear hs hxs hxl hany hbox hI el
 go_enter Tryz.func79,Tryz.ntmps79
 go_wp2_with fail
 clear b0 b1 b2 bl
 go_loopw [2,12] (fun v2 v12 wr=>∃ k:Nat,k≤cols∧v2=.slice none 0 0∧v12=.int .i64 k∧In w.heap.size w wr) (fun _ v12 _=>cols - (RowKit.intOf v12).toNat)
 case atStart=>exact⟨0,Nat.zero_le _,rfl,rfl,hin⟩
 case round=>
  clear hin
  obtain⟨k,hk,rfl,rfl,hin⟩:=hrel
  by_cases hkc:k<cols
  ·have kI:(k:Int)<cols:=by omega
   have hkw:IntKind.i64.wrap ((k:Int)+1)=((k+1:Nat):Int):=IntWalk.i64_in _ (by omega)
   have hbox:=HB.out.call hin.bel
   have b0:=hbox.c0
   have b1:=hbox.c1
   have b2:=hbox.c2
   have bl:=hbox.lt
   have cc:=scontains_any wr pa pc xs k (HI.out.call hin.bel) (by rw[HXL.out];omega)
   rw[HANY.out k hkc,HXL.out] at cc
   clear hbox
   go_wp2_with fail
   (with_reducible refine cc.mono ?_)
   rintro e w2 ⟨rfl,hb⟩
   have hin2:=hin.call hb
   clear hb cc b0 b1 b2 bl hin
   go_wp2_with fail
   exact⟨⟨k+1,by omega,rfl,by go_num,hin2⟩,by simp[RowKit.intOf];omega⟩
  ·obtain rfl:k=cols:=by omega
   have kI:¬ (k:Int)<k:=by omega
   go_wp2_with fail
   go_ret
   exact⟨rfl,hin.bel⟩
end Gus
end
section
namespace Gus
open Go Go.RowKit Go.Proofs
set_option maxRecDepth 100000 in
set_option maxHeartbeats 2000000 in
theorem may_ok (w:World) (r c n:Nat) (a ba:Option Addr) (cap bc:Nat) (hr:r≤2048) (hc:c≤2048) (hn:n=r*c) :
  Calls Tryz.prog 77 #[.agg #[.int .i64 r,.int .i64 c,.slice a n cap],.slice ba r bc] w fun e w'=>e=.returned (.int .i64 0)∧Below w.heap.size w w':=by
 have h1:=mcheck_any r c a n cap
 rw[show checkM (r:Int) c n=0 by
  unfold checkM
  rw[if_pos (by unfold sidesE;rw[if_neg (by omega),if_neg (by omega)]),if_pos (by rw[hn];push_cast;rfl)]] at h1
 have hin:=In.self w
 have k1:¬ (2048:Int)<r:=by omega
 clear hn
 go_enter Tryz.func77,Tryz.ntmps77
 go_upto_region 1 with fail
 ((obtain⟨X,hX⟩:∃ z,z=w.heap.size:=⟨_,rfl⟩);(have bX:=Bx.new_at w #[.int .i64 r,.int .i64 c,.slice a n cap] 37 hX);(replace hin:=hin.alloc (.cells #[.int .i64 r,.int .i64 c,.slice a n cap] 37));(rw[←hX]);clear hX;(generalize w.alloc (.cells #[.int .i64 r,.int .i64 c,.slice a n cap] 37)=W1 at *))
 (have x0:=bX.c0;have x1:=bX.c1;have x2:=bX.c2;have xl:=bX.lt)
 (go_wp2_with fail;(((with_reducible refine(h1 _).mono ?_)));rintro e wc2 ⟨rfl,hb⟩;clear x0 x1 x2 xl h1;replace hin:=hin.call hb;replace bX:=bX.call hb;clear hb)
 (have x0:=bX.c0;have x1:=bX.c1;have x2:=bX.c2;have xl:=bX.lt)
 go_wp2_with fail
 go_ret
 exact⟨rfl,hin.bel⟩
set_option maxRecDepth 100000 in
set_option maxHeartbeats 2000000 in
theorem esolve1_any (W:World) (B i n:Nat) (k:Int) (ba:Option Addr) (bc:Nat) (b:Nat→Rat) (hB:Bx W B 32 [.slice ba n bc]) (hb:VecAt W (.slice ba n bc) (vl n b)) (hi:i<n) :
  Calls Tryz.prog 78 #[.int .i64 (i:Nat),.int .i64 k,.pointer (some ⟨B,0,none⟩)] W fun e w'=>e=.returned (fracV (b i))∧Below W.heap.size W w':=by
 obtain⟨g,off,cap,A1,A2,A3,A4,A5,he,hg,hq,hq',c0,c1,c2,c3,c4⟩:=hb.at (i:=i) (by rw[vl_length];exact hi)
 rw[vl_getD _ hi] at hq hq'
 rw[vl_length] at he
 obtain⟨rfl,_,rfl⟩:ba=some ⟨g,off,none⟩∧n=n∧bc=cap:=by
  injection he with h1 h2 h3
  exact⟨h1,rfl,h3⟩
 have hin:=In.self W
 have iI:(i:Int)<n:=by omega
 have i0:(0:Int)≤i:=by omega
 rw[hq']
 clear hb he hq hq'
 go_enter Tryz.func78,Tryz.ntmps78
 go_upto_region 1 with fail
 ((obtain⟨X,hXX⟩:∃ z,z=W.heap.size:=⟨_,rfl⟩);(have bV0:=(Bx.new_at W #[.int .u64 0,.string ⟨#[]⟩,.bool false,.int .u64 0,.string ⟨#[]⟩] 72 (n:=X) (by simp[hXX])));(have hV:=((In.self W).alloc (.cells #[.int .u64 0,.string ⟨#[]⟩,.bool false,.int .u64 0,.string ⟨#[]⟩] 72)));(replace hB:=(hB.alloc (.cells #[.int .u64 0,.string ⟨#[]⟩,.bool false,.int .u64 0,.string ⟨#[]⟩] 72)));(rw[←hXX] at hV ⊢);(have HX:=Lib.hid hXX);clear hXX;(generalize W.alloc (.cells #[.int .u64 0,.string ⟨#[]⟩,.bool false,.int .u64 0,.string ⟨#[]⟩] 72)=V at *))
 rw[HX.out] at hV
 have hcc:=hV.cell
 rw[←hcc _ _ hg] at c0 c1 c2 c3 c4
 replace hg:=Nat.lt_of_lt_of_le hg hV.siz
 clear hcc
 have z0:=hB.c0;have zl:=hB.lt
 have bq:=bV0
 replace hin:=hV
 clear bV0 hV
 (have q0:=bq.c0;have q1:=bq.c1;have q2:=bq.c2;have q3:=bq.c3;have q4:=bq.c4;(have f0:=bq.frozen 0);(have f1:=bq.frozen 1);(have f2:=bq.frozen 2);(have f3:=bq.frozen 3);(have f4:=bq.frozen 4);have ql:=bq.lt;(have K1:=Lib.hid ((((((bq.set 0 (.int .u64 A1)).set 1 (.string A2)).set 2 (.bool A3)).set 3 (.int .u64 A4)).set 4 (.string A5))));(have K2:=Lib.hid ((((((hin.setCell (p:=⟨X,0,none⟩) (by first |(simp;done)|(have:=HX.out;simp;omega)) (.int .u64 A1)).setCell (p:=⟨X,1,none⟩) (by first |(simp;done)|(have:=HX.out;simp;omega)) (.string A2)).setCell (p:=⟨X,2,none⟩) (by first |(simp;done)|(have:=HX.out;simp;omega)) (.bool A3)).setCell (p:=⟨X,3,none⟩) (by first |(simp;done)|(have:=HX.out;simp;omega)) (.int .u64 A4)).setCell (p:=⟨X,4,none⟩) (by first |(simp;done)|(have:=HX.out;simp;omega)) (.string A5))));clear bq hin;go_wp2_with fail;have k1:=K1.out;have k2:=K2.out;clear q0 q1 q2 q3 q4 f0 f1 f2 f3 f4 ql K1 K2;(generalize ((((V.setCell ⟨X,0,none⟩ (.int .u64 A1)).setCell ⟨X,1,none⟩ (.string A2)).setCell ⟨X,2,none⟩ (.bool A3)).setCell ⟨X,3,none⟩ (.int .u64 A4)).setCell ⟨X,4,none⟩ (.string A5)=W5 at *);(have e0:W5.cell? ⟨X,0,none⟩=some (.int .u64 A1):=k1.cell 0);(have e1:W5.cell? ⟨X,1,none⟩=some (.string A2):=k1.cell 1);(have e2:W5.cell? ⟨X,2,none⟩=some (.bool A3):=k1.cell 2);(have e3:W5.cell? ⟨X,3,none⟩=some (.int .u64 A4):=k1.cell 3);(have e4:W5.cell? ⟨X,4,none⟩=some (.string A5):=k1.cell 4);have hz:=k2.bel;(refine bodyPost_ret (v:=.agg #[.int .u64 A1,.string A2,.bool A3,.int .u64 A4,.string A5]) ?_ rfl ⟨rfl,hz⟩);(simp[results,Tryz.results78,go_sem,e0,e1,e2,e3,e4]))
theorem aug_congr {n:Nat} {A:Mx} {qs:List Rat} {b:Nat→Rat} (hq:∀ i k,i<n→k<n→qs.getD (i*n+k) 0=A i k) {r c:Nat} (hr:r<n) (_hc:c<n+1):begM qs n (fun i _=>b i) r c=aug n A b r c:=by
 unfold begM aug
 by_cases h:c<n
 ·rw[if_pos h,if_pos h,hq r c hr h]
 ·rw[if_neg h,if_neg h]
set_option maxRecDepth 100000 in
set_option maxHeartbeats 16000000 in
theorem esolve_full {z:Nat} (w:World) (v bv:Value) (n:Nat) (A:Mx) (qs:List Rat) (b:Nat→Rat) (hA:MatQ w v n n qs) (hq:∀ i k,i<n→k<n→qs.getD (i*n+k) 0=A i k) (hb:VecAt w bv (vl n b)) (hn:n≤16) (hz1:1≤z)
  (hzA:∀ i k,i<n→k<n→SzK z (A i k)) (hzb:∀ i,i<n→SzK z (b i)) (hcap:5*(z*5 ^ n)+2<17592186044416) (hker:∀ y,Ker n n A y→∀ i,i<n→y i=0) :
  Calls Tryz.prog 31 #[v,bv] w fun e w'=>(∃ d,e=.returned (.tuple #[.agg #[d,.slice none 0 0],.int .i64 0])∧VecAt w' d (vl n fun i=>(elim n (aug n A b) n).M i n))∧Below w.heap.size w w':=by
 have hAc:=hA
 obtain⟨mb,moff,mcap,rfl,hlen,hmc,hmb,hcells⟩:=hA
 obtain⟨ba,bc,rfl⟩:=hb.shape
 rw[vl_length] at hb ⊢
 obtain⟨N,hN⟩:∃ N,N=qs.length:=⟨_,rfl⟩
 rw[←hN] at hlen hmc hcells hAc ⊢
 have hmay:=may_ok w n n N (some ⟨mb,moff,none⟩) ba mcap bc (by omega) (by omega) hlen
 have HAC:=Lib.hid hAc
 have HB:=Lib.hid hb
 have HZ:Hid (∀ r c,r<n→c<n+1→SzK z (aug n A b r c)):=Lib.hid fun r c hr hc=>by
  unfold aug
  split
  ·rename_i h;exact hzA r c hr h
  ·exact hzb r hr
 have HQ:=Lib.hid hq
 have HS:=Lib.hid (solve_full (b:=b) hker)
 have hin:=In.self w
 have hNI:(n:Int)≤16:=by omega
 clear hcells hlen hmc hmb hAc hb hzA hzb hq hker hmay hN
 go_enter Tryz.func31,Tryz.ntmps31
 go_upto_region 1 with fail
 ((obtain⟨X,hXX⟩:∃ z,z=w.heap.size:=⟨_,rfl⟩);(have bV0:=(((Bx.new_at w #[.int .i64 n,.int .i64 n,.slice (some ⟨mb,moff,none⟩) N mcap] 37 (n:=X) (by simp[hXX])).alloc (.cells #[.slice ba n bc] 32)).alloc (.cells #[.slice none 0 0,.slice none 0 0] 79)));(have bV1:=((Bx.new_at (w.alloc (.cells #[.int .i64 n,.int .i64 n,.slice (some ⟨mb,moff,none⟩) N mcap] 37)) #[.slice ba n bc] 32 (n:=X+1) (by simp[hXX])).alloc (.cells #[.slice none 0 0,.slice none 0 0] 79)));(have bV2:=(Bx.new_at ((w.alloc (.cells #[.int .i64 n,.int .i64 n,.slice (some ⟨mb,moff,none⟩) N mcap] 37)).alloc (.cells #[.slice ba n bc] 32)) #[.slice none 0 0,.slice none 0 0] 79 (n:=X+1+1) (by simp[hXX])));(have hV:=((((In.self w).alloc (.cells #[.int .i64 n,.int .i64 n,.slice (some ⟨mb,moff,none⟩) N mcap] 37)).alloc (.cells #[.slice ba n bc] 32)).alloc (.cells #[.slice none 0 0,.slice none 0 0] 79)));(rw[←hXX] at hV ⊢);(have HX:=Lib.hid hXX);clear hXX;(generalize ((w.alloc (.cells #[.int .i64 n,.int .i64 n,.slice (some ⟨mb,moff,none⟩) N mcap] 37)).alloc (.cells #[.slice ba n bc] 32)).alloc (.cells #[.slice none 0 0,.slice none 0 0] 79)=V at *))
 rw[HX.out] at hV
 have hlen:N=n*n:=by
  obtain⟨_,_,_,he,h2,_⟩:=HAC.out
  have:=congrArg (fun v=>match v with | Value.agg a=>a.toList | _=>[]) he
  simp only[List.cons.injEq,Value.slice.injEq,and_true,true_and] at this
  omega
 have hmay:=may_ok V n n N (some ⟨mb,moff,none⟩) ba mcap bc (by omega) (by omega) hlen
 have HLEN:=Lib.hid hlen
 clear hlen
 (have x0:=bV0.c0;have x1:=bV0.c1;have x2:=bV0.c2;have xl:=bV0.lt)
 (have y0:=bV1.c0;have yl:=bV1.lt)
 (go_wp2_with fail;(((with_reducible refine(hmay).mono ?_)));rintro e wc1 ⟨rfl,hb⟩;clear x0 x1 x2 xl y0 yl hmay;replace hV:=hV.call hb;replace bV0:=bV0.call hb;replace bV1:=bV1.call hb;replace bV2:=bV2.call hb;clear hb)
 have hself:=In.self wc1
 have cbg:=ebegun_any wc1 _ n n 1 qs (HAC.out.call hV.bel) 78 #[.pointer (some ⟨X+1,0,none⟩)] (enters_of Tryz.func78 (by kernel_rfl) rfl) (fun i _=>b i) (by omega) (by omega) (by omega) (fun h=>h) (fun i k W hi hk hW=>esolve1_any W (X+1) i n k ba bc b (bV1.call hW.bel) ((HB.out.call hV.bel).call hW.bel) hi)
 (have x0:=bV0.c0;have x1:=bV0.c1;have x2:=bV0.c2;have xl:=bV0.lt)
 (have y0:=bV1.c0;have yl:=bV1.lt)
 rw[show((1:Nat):Int)=1 from rfl] at cbg
 go_wp2_with fail
 (refine cbg.mono ?_)
 rintro e W2 ⟨p,ra,rc,f,rfl,hin2,el⟩
 have cr:=reduce_any W2 _ p n (n+1) n rc ra f (aug n A b) (el.congr (M':=aug n A b) fun r c hr hc=>aug_congr HQ.out hr hc) (by omega) (by omega) (by omega) hin2.siz hz1 HZ.out hcap
 clear cbg el x0 x1 x2 xl y0 yl
 go_wp2_with fail
 (refine cr.mono ?_)
 rintro e W3 ⟨f3,pv,rfl,hin3,el⟩
 replace hin2:=hin2.trans hin3
 replace hV:=hV.call hin2.bel
 replace bV0:=bV0.call hin2.bel
 replace bV1:=bV1.call hin2.bel
 replace bV2:=bV2.call hin2.bel
 obtain⟨hpl,hsol⟩:=HS.out
 obtain⟨s,hs⟩:∃ s,s=elim n (aug n A b) n:=⟨_,rfl⟩
 rw[←hs] at el hpl
 obtain⟨pa,pc,hpe⟩:=el.pvShape
 rw[hpl,List.length_range] at hpe
 subst hpe
 have HSE:=Lib.hid hs
 have HPL:=Lib.hid hpl
 have hrc:=el.rcap
 clear hpl hsol HS hs cr hin3 hself
 have hbox:=el.box
 have b0:=hbox.c0
 have b1:=hbox.c1
 have b2:=hbox.c2
 have bl:=hbox.lt
 go_upto_region 5 with fail
 go_cut [33,34,35] from 24 to 35 (fun v33 v34 v35 wx=>v34=.int .i64 0∧v35=.int .i64 0∧W3.drew=wx)
 case first=>
  rcases ra with _ | ad
  ·(refine wp_region_all (fun w'=>w'=W3.drew) (by kernel_rfl) (by kernel_rfl) rfl ?_;(repeat (first |(apply wpQuiet_run;(focus rfl);(focus (rintro _ rfl;go_simp;exact rfl));refine tput ?_)|(apply wpQuiet_skip;(focus rfl);refine tput ?_)));refine wpQuiet_nil ?_;rintro _ rfl)
   go_wp2_with fail
   go_meet
   exact⟨rfl,rfl,rfl⟩
  ·(refine wp_region_all (fun w'=>w'=W3.drew) (by kernel_rfl) (by kernel_rfl) rfl ?_;(repeat (first |(apply wpQuiet_run;(focus rfl);(focus (rintro _ rfl;go_simp;exact rfl));refine tput ?_)|(apply wpQuiet_skip;(focus rfl);refine tput ?_)));refine wpQuiet_nil ?_;rintro _ rfl)
   go_wp2_with fail
   all_goals
    go_meet
    exact⟨rfl,rfl,rfl⟩
 case rest=>
  obtain⟨rfl,rfl,rfl⟩:=hcut
  have hb:Below W3.heap.size W3 W3.drew:=(Below.refl _ _).drew
  replace el:=el.call hb
  replace hbox:=hbox.call hb
  replace hV:=hV.call hb
  replace bV0:=bV0.call hb
  replace bV2:=bV2.call hb
  clear hb b0 b1 b2 bl bV1 hin2
  generalize W3.drew=W4 at *
  have hmk:=mk_vec n (by omega)
  obtain⟨fc,hfc⟩:∃ fc,fc=fcl (List.replicate n 0):=⟨_,rfl⟩
  rw[←hfc] at hmk
  have HF:=Lib.hid hfc
  clear hfc
  go_wp2_with fail
  go_loopw [35] (fun v35 wr=>v35=.int .i64 0∧W4=wr) (fun _ _=>0)
  case atStart=>exact⟨rfl,rfl⟩
  case round=>
   obtain⟨rfl,rfl⟩:=hrel
   have x0:=bV0.c0;have x1:=bV0.c1;have x2:=bV0.c2;have xl:=bV0.lt
   go_upto_region 12 with fail
   obtain⟨g,hg⟩:∃ g,g=W4.heap.size:=⟨_,rfl⟩
   have bv:VBx (W4.alloc (.cells fc.toArray 72)) g (pv (fun i=>s.M i n) n 0):=by
    have:=Bx.new_at W4 fc.toArray 72 hg
    show Bx _ g 72 (fcl _)
    rw[pv_zero,←HF.out];exact this
   have hb:Below W4.heap.size W4 (W4.alloc (.cells fc.toArray 72)):=(Below.refl _ _).alloc (Nat.le_refl _) _
   have hX2:¬ X+1+1=g:=by have:=bV2.lt;omega
   have hin5:=(In.self W4).alloc (.cells fc.toArray 72)
   have HG:=Lib.hid hg
   have HEL:=Lib.hid el
   have HV:=Lib.hid hV
   have HX0:=Lib.hid bV0
   have HX2:=Lib.hid bV2
   obtain⟨pa',pc',hpe,hPI⟩:=pivs_ints el.piv
   have hpl:=HPL.out
   rw[hpl,List.length_range] at hpe
   rw[hpl] at hPI
   obtain⟨rfl,rfl⟩:pa=pa'∧pc=pc':=by
    injection hpe with h1 h2 h3
    exact⟨h1,h3⟩
   have HPI:=Lib.hid hPI
   rw[←hg]
   clear hmk x0 x1 x2 xl hb hg el hbox hV bV0 bV2 hpe hPI hpl
   generalize W4.alloc (.cells fc.toArray 72)=W5 at *
   have hbox:=(HEL.out.call hin5.bel).box
   have b0:=hbox.c0
   have b2:=hbox.c2
   have bl:=hbox.lt
   clear hbox
   go_wp2_with fail
   clear b0 b2 bl
   go_loopw [56] (fun v56 wq=>∃ i:Nat,i≤n∧v56=.int .i64 i∧In W4.heap.size W4 wq∧VBx wq g (pv (fun i=>s.M i n) n i)) (fun v56 _=>n - (RowKit.intOf v56).toNat)
   case atStart=>exact⟨0,Nat.zero_le _,rfl,hin5,bv⟩
   case round=>
    rename World=>wq
    clear hin5 bv
    obtain⟨i,hi,rfl,hinq,bv⟩:=hrel
    by_cases hin9:i<n
    ·have iI:(i:Int)<n:=by omega
     have i0:(0:Int)≤i:=by omega
     have iw:IntKind.i64.wrap ((i:Int)+1)=((i+1:Nat):Int):=IntWalk.i64_in _ (by omega)
     have nI:(n:Int)<((n+1:Nat):Int):=by omega
     have nI':(n:Int)<(n:Int)+1:=by omega
     have n0:(0:Int)≤n:=by omega
     have el:=HEL.out.call hinq.bel
     obtain⟨rb,cs,hrae,hrb,hBr,hci⟩:=el.rw.rows i hin9
     subst hrae
     obtain⟨v,hv⟩:∃ v,v=s.M i n:=⟨_,rfl⟩
     have hrow:=el.rw.row i hin9
     obtain⟨B1,B2,B3,B4,B5,hB,hB'⟩:∃ A1 A2 A3 A4 A5,fracV v=.agg #[.int .u64 A1,.string A2,.bool A3,.int .u64 A4,.string A5]∧fcs v=[.int .u64 A1,.string A2,.bool A3,.int .u64 A4,.string A5]:=⟨_,_,_,_,_,rfl,rfl⟩
     obtain⟨c0,c1,c2,c3,c4⟩:=VBx.eltc hrow (Nat.lt_succ_self n) (by rw[←hv];exact hB')
     have rc0:=(hBr.cell i).trans hci
     have rl:=hBr.lt
     have fl:=hrow.lt
     obtain⟨pb,poff,rfl,hpb,hpc⟩:=(HPI.out.call hinq.bel) i (by simp;exact hin9)
     have hpv:((List.range n).map fun k=>((k:Nat):Int)).getD i 0=(i:Int):=by simp[hin9]
     rw[hpv] at hpc
     have bx:=HX0.out.call hinq.bel
     have x0:=bx.c0;have x1:=bx.c1;have x2:=bx.c2;have xl:=bx.lt
     have hbox:=el.box
     have b0:=hbox.c0
     have b2:=hbox.c2
     have bl:=hbox.lt
     have hlt:i<(pv (fun i=>s.M i n) n i).length:=by rw[pv_length];exact hin9
     have hgl:=bv.lt
     have HBV:=Lib.hid hv
     have HB:=Lib.hid hB'
     clear hv hB hB' hpv hci hrow hbox bx el hBr
     go_upto_region 15 with fail
     have h:=In.self wq;have hc:=h.cell;have hf:=h.frozen;refine tfw 14 ?_;refine tset ?_;(repeat (first | refine tfs ?_))
     (try clear hc hf h);intro u w' h ha hdi;replace h:=tsz h.ins;replace ha:=tah ha;have hc:=h.cell;have hf:=h.frozen
     (try obtain ha:=ha);(try dsimp only);simp only[ha];clear ha hdi
     have bv2:=bv.call h.bel
     obtain⟨_,_,_,_,_,_,d0,d1,d2,d3,d4,e0,e1,e2,e3,e4⟩:=VBx.cells bv2 hlt
     have hgl2:=bv2.lt
     have hs:=VBx.setA bv2 i v hlt HB.out
     rw[show(pv (fun i=>s.M i n) n i).set i v=pv (fun i=>s.M i n) n (i+1) by rw[HBV.out];exact pv_set _ _ _] at hs
     have H1:=Lib.hid hs
     have H2:=Lib.hid ((hinq.call h.bel).grown (gr_putA w' g i (.int .u64 B1) (.string B2) (.bool B3) (.int .u64 B4) (.string B5)) (Nat.le_of_eq HG.out.symm))
     clear hs hc hf h bv2 bv hinq x0 x1 x2 xl hgl c0 c1 c2 c3 c4 rc0 rl fl hpc b0 b2 bl
     go_wp2_with fail
     exact⟨⟨i+1,by omega,by go_num,H2.out,H1.out⟩,by simp[RowKit.intOf];omega⟩
    ·obtain rfl:i=n:=by omega
     have iI:¬ (i:Int)<i:=by omega
     rw[pv_full] at bv
     have ck:=ekernel_full wq _ p i (i+1) i rc ra _ f3 s (HEL.out.call hinq.bel) HPL.out (by omega)
     have bq:=HX2.out.call hinq.bel
     have hin:=HV.out.call hinq.bel
     clear hinq
     go_wp2_with fail
     (refine ck.mono ?_)
     rintro e W6 ⟨rfl,hb⟩
     replace bq:=bq.call hb
     replace hin:=hin.call hb
     have bv6:=bv.call hb
     have HVF:Hid (VBx ((W6.setCell ⟨X+1+1,0,none⟩ (.slice (some ⟨g,0,none⟩) i i)).setCell ⟨X+1+1,1,none⟩ (.slice none 0 0)) g (vl i fun r=>s.M r i)):=Lib.hid ((Bx.other (a:=⟨X+1+1,0,none⟩) bv6 hX2 (.slice (some ⟨g,0,none⟩) i i)).other (a:=⟨X+1+1,1,none⟩) hX2 (.slice none 0 0))
     clear hb ck bv bv6
     (have q0:=bq.c0;have q1:=bq.c1;(have f0:=bq.frozen 0);(have f1:=bq.frozen 1);have ql:=bq.lt;(have K1:=Lib.hid (((bq.set 0 (.slice (some ⟨g,0,none⟩) i i)).set 1 (.slice none 0 0))));(have K2:=Lib.hid (((hin.setCell (p:=⟨(X+1+1),0,none⟩) (by first |(simp;done)|(have:=HX.out;simp;omega)) (.slice (some ⟨g,0,none⟩) i i)).setCell (p:=⟨(X+1+1),1,none⟩) (by first |(simp;done)|(have:=HX.out;simp;omega)) (.slice none 0 0))));clear bq hin;go_wp2_with fail;have k1:=K1.out;have k2:=K2.out;clear q0 q1 f0 f1 ql K1 K2;(generalize (W6.setCell ⟨(X+1+1),0,none⟩ (.slice (some ⟨g,0,none⟩) i i)).setCell ⟨(X+1+1),1,none⟩ (.slice none 0 0)=W5 at *);(have e0:W5.cell? ⟨(X+1+1),0,none⟩=some (.slice (some ⟨g,0,none⟩) i i):=k1.cell 0);(have e1:W5.cell? ⟨(X+1+1),1,none⟩=some (.slice none 0 0):=k1.cell 1);have hz:=k2.bel;(refine bodyPost_ret (v:=.tuple #[.agg #[.slice (some ⟨g,0,none⟩) i i,.slice none 0 0],.int .i64 0]) ?_ rfl ⟨⟨_,rfl,by have h9:=VBx.at HVF.out i (vl_length _ _).symm i;rw[HSE.out] at h9;exact h9⟩,hz⟩);(simp[results,Tryz.results31,go_sem,e0,e1]))
end Gus
end
