/- Proved here: parts of the proof: KSrl KSrh KSrq. Conditions: those that each theorem states. -/
import Derived.Test.YthblojaeoiemmaaGreatDoorKSrkQ
import Derived.Test.YthblojaeoiemmaaGreatDoorKSriQ
import Derived.Test.YthblojaeoiemmaaGreatDoorKSrgQ
section
namespace Gus
open Go Go.RowKit Go.Proofs
def allDif (n:Int) (xs:List Int):Bool:=decide ((∀ x∈xs,0≤x∧x<n)∧xs.Nodup)
theorem zl_nodup {l:List Nat}:(zl l).Nodup↔l.Nodup:=by
 unfold zl List.Nodup
 rw[List.pairwise_map]
 exact⟨fun h=>h.imp fun h1 h2=>h1 (by rw[h2]),fun h=>h.imp fun h1 h2=>h1 (by omega)⟩
theorem zl_mem {l:List Nat} {x:Int}:x∈zl l↔∃ i∈l,((i:Nat):Int)=x:=by unfold zl;exact List.mem_map
theorem adf_grp {n:Nat} {xs:List Int}:allDif n xs=true↔∃ l:List Nat,xs=zl l∧Grp n l:=by
 unfold allDif
 rw[decide_eq_true_iff]
 constructor
 ·rintro⟨h1,h2⟩
  have e:xs=zl (xs.map Int.toNat):=by
   unfold zl
   rw[List.map_map]
   exact(List.map_id xs).symm.trans (List.map_congr_left fun x hx=>by have:=h1 x hx;show x=((x.toNat:Nat):Int);omega)
  refine⟨_,e,zl_nodup.1 (by rw[←e];exact h2),fun i hi=>?_⟩
  obtain⟨x,hx,rfl⟩:=List.mem_map.1 hi
  have:=h1 x hx;omega
 ·rintro⟨l,rfl,h1,h2⟩
  refine⟨fun x hx=>?_,zl_nodup.2 h1⟩
  obtain⟨i,hi,rfl⟩:=zl_mem.1 hx
  have:=h2 i hi;omega
theorem adf_mark {n:Nat} {xs:List Int}:markOk n [] xs=allDif n xs:=by
 rw[Bool.eq_iff_iff,markOk_iff,adf_grp]
 exact⟨fun⟨l,h1,h2,h3,_⟩=>⟨l,h1,h3,h2⟩,fun⟨l,h1,h2⟩=>⟨l,h1,h2.2,h2.1,fun _ _=>by simp⟩⟩
theorem grp_adf {n:Nat} {ls:List (List Int)} (h:∀ l∈ls,l.length≤2048):grpE n ls=if allDif n ls.flatten=true then 0 else 1:=by
 unfold grpE
 have e:ls.any longL=false:=by
  rw[List.any_eq_false]
  intro l hl
  unfold longL
  have:=h l hl
  simp;omega
 rw[e,adf_mark];rfl
theorem zero_ns {L:Nat} {A:Mx} (hA:∀ r c,r<L→c<L→A r c=0) (h:NS L A):L=0:=by
 rcases Nat.eq_zero_or_pos L with h0 | h0
 ·exact h0
 ·have:=h (fun _=>1) (fun i hi=>by
   show sm _ L=0
   rw[sm_congr L (G:=fun _=>0) fun c hc=>by rw[hA i c hi hc];exact Rat.zero_mul _,sm_zero]) 0 h0
  exact absurd this (by decide)
def zM:Mx:=fun _ _=>0
theorem zM_z (n:Nat):Mz n n 1 zM:=fun _ _ _ _=>SzK.zero
theorem zM_grp {ii:List Nat} (h:NS ii.length (sub zM ii ii)):ii=[]:=List.eq_nil_of_length_eq_zero (zero_ns (fun _ _ _ _=>rfl) h)
theorem zero_grp {n:Nat} {M:Mx} (hM:∀ r c,r<n→c<n→M r c=0) {ii:List Nat} (hg:Grp n ii) (h:NS ii.length (sub M ii ii)):ii=[]:=
 List.eq_nil_of_length_eq_zero (zero_ns (fun _ _ hr hc=>hM _ _ (hg.2 _ (getD_in hr)) (hg.2 _ (getD_in hc))) h)
theorem outer_nil (n:Nat):(outer n []).length=n:=by
 unfold outer
 rw[show(List.range n).filter (fun i=>!([]:List Nat).contains i)=List.range n from List.filter_eq_self.2 (fun _ _=>rfl),List.length_range]
theorem schur_nil {n:Nat} {M N:Mx} (hM:∀ r c,r<n→c<n→M r c=0):∀ r c,r<(outer n []).length→c<(outer n []).length→schur M [] (outer n []) N r c=0:=fun r c hr hc=>by
 have e:schur M [] (outer n []) N r c=sub M (outer n []) (outer n []) r c - 0:=rfl
 rw[e]
 have:sub M (outer n []) (outer n []) r c=0:=hM _ _ (mem_outer.1 (getD_in hr)).1 (mem_outer.1 (getD_in hc)).1
 rw[this];grind
theorem p12 {a:Nat} (h:a≤12):5 ^ a≤244140625:=Nat.le_trans (Nat.pow_le_pow_right (by decide) h) (by decide)
theorem gz_nil (z:Nat):gz 0 z=3*z:=by unfold gz jz;omega
theorem mul12 {z a:Nat} (hz:z≤576) (h:a≤12):z*5 ^ a≤140625000000:=Nat.le_trans (Nat.mul_le_mul hz (p12 h)) (by decide)
theorem nestC1 {n z:Nat} {M:Mx} (hn:n≤12) (hz:z≤192) (hM:∀ r c,r<n→c<n→M r c=0) {g:List Nat} (hg:Grp n g):NestC 1 [g] n M z:=by
 have hl:=hg.le
 have h1:=mul12 (z:=z) (a:=g.length) (by omega) (by omega)
 refine⟨by omega,fun hns=>?_⟩
 obtain rfl:=zero_grp hM hg hns
 have h2:=mul12 (z:=3*z) (a:=n) (by omega) hn
 refine⟨?_, ?_,fun _=>⟨?_, ?_⟩⟩
 ·rw[List.length_nil,gz_nil];omega
 ·show 5*(gz ([]:List Nat).length z*5 ^ (outer n []).length)+2<17592186044416
  rw[List.length_nil,gz_nil,outer_nil];omega
 ·show ez ([]:List Nat).length _ _ _<_
  unfold ez
  rw[List.length_nil,Nat.zero_mul];decide
 ·rw[List.length_nil,gz_nil,outer_nil]
  show z+(1+n*(z+(5*(3*z*5 ^ (n - 0))+2)+1))+1<17592186044416
  rw[Nat.sub_zero]
  have:n*(z+(5*(3*z*5 ^ n)+2)+1)≤12*(z+(5*(3*z*5 ^ n)+2)+1):=Nat.mul_le_mul_right _ hn
  omega
theorem nestC2 {n z:Nat} {M:Mx} (hn:n≤12) (hz:z≤64) (hM:∀ r c,r<n→c<n→M r c=0) {g b:List Nat} (hg:Grp n ([g,b]:List (List Nat)).flatten):NestC 2 [g,b] n M z:=by
 obtain⟨h1,h2,h3⟩:=hg.cons
 have hl:=h1.le
 have h4:=mul12 (z:=z) (a:=g.length) (by omega) (by omega)
 refine⟨by omega,fun hns=>?_⟩
 obtain rfl:=zero_grp hM h1 hns
 have hS:=schur_nil (N:=invM ([]:List Nat).length (sub M [] [])) hM
 have hpb:Grp (outer n []).length (places (outer n []) b):=by simpa using h3
 refine⟨?_, ?_,fun hok=>?_⟩
 ·rw[List.length_nil,gz_nil];omega
 ·exact nestC1 (by rw[outer_nil];exact hn) (by rw[List.length_nil,gz_nil];omega) hS hpb
 ·have hb:=zero_grp hS hpb hok.1
  have hb0:b.length=0:=by have:=places_length (outer n []) b;rw[hb] at this;exact this.symm
  have h5:=mul12 (z:=9*z) (a:=n) (by omega) hn
  have e:nestZ ([b].map List.length) (n - ([]:List Nat).length) (gz ([]:List Nat).length z)=1+(5*(9*z*5 ^ n)+2)+(5*(3*z*5 ^ 0)+2)+9*z:=by
   rw[List.map_singleton,hb0,List.length_nil,gz_nil]
   show ez 0 _ _ _+(5*(gz 0 (3*z)*5 ^ (n - 0 - 0))+2)+(5*(3*z*5 ^ 0)+2)+gz 0 (3*z)=_
   unfold ez
   rw[gz_nil,Nat.zero_mul,Nat.sub_zero,Nat.sub_zero,show 3*(3*z)=9*z by omega]
  refine⟨?_, ?_⟩
  ·unfold ez
   rw[List.length_nil,Nat.zero_mul];decide
  ·rw[e,outer_nil]
   have:n*(z+(1+(5*(9*z*5 ^ n)+2)+(5*(3*z*5 ^ 0)+2)+9*z)+1)≤12*(z+(1+(5*(9*z*5 ^ n)+2)+(5*(3*z*5 ^ 0)+2)+9*z)+1):=Nat.mul_le_mul_right _ hn
   omega
end Gus
end
section
namespace Gus
open Go Go.RowKit Go.Proofs
def GoE (E W:Int):Prop:=E=W∨(W=0∧E=6)
theorem goes21_any (w:World) (E W:Int) (h:GoE E W) :
  Calls Tryz.prog 19 #[.int .i64 E,.int .i64 W] w fun e w'=>e=.returned (.bool true)∧Below w.heap.size w w':=by
 have hbel:=Below.refl w.heap.size w
 by_cases h1:E=W
 ·have k1:(E == W)=true:=by simpa using h1
  subst h1
  clear h
  go_enter Tryz.func19,Tryz.ntmps19
  go_wp2_with fail
  go_ret
  exact⟨rfl,hbel⟩
 ·obtain⟨h2,h3⟩:=h.resolve_left h1
  subst h2
  subst h3
  clear h h1
  go_enter Tryz.func19,Tryz.ntmps19
  go_wp2_with fail
  go_ret
  exact⟨rfl,hbel⟩
set_option maxRecDepth 100000 in
set_option maxHeartbeats 4000000 in
theorem square21_any (w:World) (n m:Int) (a:Option Addr) (l c:Nat) (E:Int) (hc:∀ W,Below w.heap.size w W→Calls Tryz.prog 9 #[.agg #[.int .i64 n,.int .i64 m,.slice a l c]] W fun e w'=>e=.returned (.int .i64 E)∧Below W.heap.size W w') :
  Calls Tryz.prog 11 #[.agg #[.int .i64 n,.int .i64 m,.slice a l c]] w fun e w'=>e=.returned (.int .i64 (if E=0∧n≠m then 1 else E))∧Below w.heap.size w w':=by
 have hin:=In.self w
 obtain⟨R,hR⟩:∃ R,R=(if E=0∧n≠m then 1 else E):=⟨_,rfl⟩
 rw[←hR]
 have HR:=Lib.hid hR
 clear hR
 go_enter Tryz.func11,Tryz.ntmps11
 go_upto_region 1 with fail
 ((obtain⟨X,hXX⟩:∃ z,z=w.heap.size:=⟨_,rfl⟩);(have bV0:=(Bx.new_at w #[.int .i64 n,.int .i64 m,.slice a l c] 27 (n:=X) (by simp[hXX])));(have hV:=((In.self w).alloc (.cells #[.int .i64 n,.int .i64 m,.slice a l c] 27)));(rw[←hXX] at hV ⊢);(have HX:=Lib.hid hXX);clear hXX;(generalize w.alloc (.cells #[.int .i64 n,.int .i64 m,.slice a l c] 27)=V at *))
 have hV0:=hV
 rw[HX.out] at hV0
 have c1:=hc V hV0.bel
 clear hV0 hc hin
 (have x0:=bV0.c0;have x1:=bV0.c1;have x2:=bV0.c2;have xl:=bV0.lt)
 (go_wp2_with fail;(((with_reducible refine(c1).mono ?_)));rintro e w2 ⟨rfl,hb⟩;clear x0 x1 x2 xl c1;replace hV:=hV.call hb;replace bV0:=bV0.call hb;clear hb)
 (have x0:=bV0.c0;have x1:=bV0.c1;have x2:=bV0.c2;have xl:=bV0.lt)
 have hbel:=hV.bel
 rw[HX.out] at hbel
 by_cases h1:E=0
 ·subst h1
  by_cases h2:n=m
  ·subst h2
   have hr:=HR.out
   rw[if_neg (by simp)] at hr
   subst hr
   clear HR hV bV0
   go_wp2_with fail
   go_ret
   exact⟨rfl,hbel⟩
  ·have k2:(n != m)=true:=by simpa using h2
   have hr:=HR.out
   rw[if_pos ⟨rfl,h2⟩] at hr
   subst hr
   clear HR hV bV0 h2
   go_wp2_with fail
   go_ret
   exact⟨rfl,hbel⟩
 ·have k1:(E == 0)=false:=by simpa using h1
  have hr:=HR.out
  rw[if_neg (fun h=>h1 h.1)] at hr
  subst hr
  clear HR hV bV0 h1
  go_wp2_with fail
  go_ret
  exact⟨rfl,hbel⟩
theorem adf_pre {n:Int} {xs:List Int} {i:Nat} (hi:i<xs.length):((∀ x∈xs.take (i+1),0≤x∧x<n)∧(xs.take (i+1)).Nodup)↔(((∀ x∈xs.take i,0≤x∧x<n)∧(xs.take i).Nodup)∧(0≤xs.getD i 0∧xs.getD i 0<n)∧∀ t,t<i→xs.getD t 0≠xs.getD i 0):=by
 rw[take_snoc2 xs 0 hi]
 have hm:(∀ y∈xs.take i,y≠xs.getD i 0)↔∀ t,t<i→xs.getD t 0≠xs.getD i 0:=by
  constructor
  ·intro h t ht
   refine h _ ?_
   rw[List.getD_eq_getElem?_getD,List.getElem?_eq_getElem (show t<xs.length by omega)]
   exact List.mem_iff_getElem.2 ⟨t,by rw[List.length_take];omega,by rw[List.getElem_take];rfl⟩
  ·intro h y hy
   obtain⟨t,ht,rfl⟩:=List.mem_iff_getElem.1 hy
   rw[List.length_take] at ht
   rw[List.getElem_take]
   intro e
   exact h t (by omega) (by rw[List.getD_eq_getElem?_getD,List.getElem?_eq_getElem (show t<xs.length by omega)];exact e)
 rw[←hm]
 generalize xs.getD i 0=z
 simp only[List.nodup_append,List.mem_append,List.mem_singleton]
 constructor
 ·rintro⟨h1,h2,_,h3⟩
  exact⟨⟨fun x hx=>h1 x (.inl hx),h2⟩,h1 z (.inr rfl),fun y hy=>h3 y hy z (by simp)⟩
 ·rintro⟨⟨h1,h2⟩,h3,h4⟩
  refine⟨fun x hx=>hx.elim (h1 x) (fun h=>by rw[h];exact h3),h2,by simp,fun y hy b hb=>?_⟩
  obtain rfl:b=z:=by simpa using hb
  exact h4 y hy
set_option maxRecDepth 100000 in
set_option maxHeartbeats 8000000 in
theorem distinct21_any (w:World) (n:Int) (a:Option Addr) (c:Nat) (xs:List Int) (hx:IntsAt w a xs) (hl:xs.length≤4096) :
  Calls Tryz.prog 10 #[.int .i64 n,.slice a xs.length c] w fun e w'=>e=.returned (.bool (allDif n xs))∧Below w.heap.size w w':=by
 obtain⟨R,hR⟩:∃ R,R=allDif n xs:=⟨_,rfl⟩
 obtain⟨L,hL⟩:∃ L,L=xs.length:=⟨_,rfl⟩
 rw[←hR,←hL]
 rw[←hL] at hl
 have HR:=Lib.hid hR
 have HL:=Lib.hid hL
 have HX:=Lib.hid hx
 clear hR hL hx
 go_enter Tryz.func10,Tryz.ntmps10
 go_wp2_with fail
 go_loopw [5] (fun v5 wr=>∃ i:Nat,i≤L∧v5=.int .i64 i∧In w.heap.size w wr∧Hid ((∀ x∈xs.take i,0≤x∧x<n)∧(xs.take i).Nodup)) (fun v5 _=>L - (RowKit.intOf v5).toNat)
 case atStart=>exact⟨0,Nat.zero_le _,rfl,In.self w,Lib.hid ⟨by simp,by simp⟩⟩
 case round=>
  obtain⟨i,hi,rfl,hin,HD⟩:=hrel
  by_cases hiL:i<L
  ·have iI:(i:Int)<L:=by omega
   have i0':(0:Int)≤i:=by omega
   have iw:IntKind.i64.wrap ((i:Int)+1)=((i+1:Nat):Int):=IntWalk.i64_in _ (by omega)
   have hil:i<xs.length:=by rw[←HL.out];exact hiL
   obtain⟨b,o,rfl,hb,hc⟩:=(HX.out.call hin.bel) i hil
   have HPR:=Lib.hid (adf_pre (n:=n) hil)
   obtain⟨p,hp⟩:∃ p,p=xs.getD i 0:=⟨_,rfl⟩
   rw[←hp] at hc
   have HP:=Lib.hid hp
   have hno:¬ (0≤p∧p<n)→R=false:=fun h=>by
    rw[HR.out]
    unfold allDif
    refine decide_eq_false fun⟨h1,_⟩=>h (h1 p ?_)
    rw[HP.out,List.getD_eq_getElem?_getD,List.getElem?_eq_getElem hil]
    exact List.getElem_mem _
   clear hp hil
   by_cases h1:p<0
   ·have hr:=hno (by omega)
    subst hr
    clear hno
    have hbel:=hin.bel
    go_wp2_with fail
    go_ret
    exact⟨rfl,hbel⟩
   ·by_cases h2:n≤p
    ·have hr:=hno (by omega)
     subst hr
     clear hno
     have hbel:=hin.bel
     go_wp2_with fail
     go_ret
     exact⟨rfl,hbel⟩
    ·have HP2:=Lib.hid (show 0≤p∧p<n by omega)
     clear hno
     go_wp2_with fail
     go_loopw [6] (fun v6 wz=>∃ k:Nat,k≤i∧v6=.int .i64 k∧In w.heap.size w wz∧Hid (∀ t,t<k→xs.getD t 0≠xs.getD i 0)) (fun v6 _=>i - (RowKit.intOf v6).toNat)
     case atStart=>exact⟨0,Nat.zero_le _,rfl,hin,Lib.hid fun t ht=>absurd ht (Nat.not_lt_zero _)⟩
     case round=>
      rename World=>wz
      clear hin hc hb
      obtain⟨k,hk,rfl,hin,HK⟩:=hrel
      by_cases hki:k<i
      ·have kI:(k:Int)<i:=by omega
       have k0':(0:Int)≤k:=by omega
       have kL:(k:Int)<L:=by omega
       have kw:IntKind.i64.wrap ((k:Int)+1)=((k+1:Nat):Int):=IntWalk.i64_in _ (by omega)
       have hil:i<xs.length:=by rw[←HL.out];exact hiL
       have hkl:k<xs.length:=by omega
       obtain⟨b1,o1,e1,hb1,hc1⟩:=(HX.out.call hin.bel) i hil
       obtain⟨b2,o2,e2,hb2,hc2⟩:=(HX.out.call hin.bel) k hkl
       obtain⟨rfl,rfl⟩:b1=b∧o1=o:=by simpa using e1.symm
       obtain⟨rfl,rfl⟩:b2=b1∧o2=o1:=by simpa using e2.symm
       rw[←HP.out] at hc1
       obtain⟨q,hq⟩:∃ q,q=xs.getD k 0:=⟨_,rfl⟩
       rw[←hq] at hc2
       have HQ:=Lib.hid hq
       clear hq hil hkl e1 e2 hb2
       go_upto_region 9 with fail
       refine wp_region_mixT (In wz.heap.size wz) 8 (.quiet 0 (.quiet 1 (.quiet 2 (.quiet 3 (.quiet 4 (.quiet 5 (.quiet 6 (.quiet 7 (.one 8 .done))))))))) (by kernel_rfl) (by kernel_rfl) (by kernel_rfl) (by kernel_rfl) (by kernel_rfl) (by kernel_rfl) (by kernel_rfl) (by kernel_rfl) (fun _ _ d _ _ h=>by cases d <;> exact h) ?_ ?_
       ·exact(In.self wz).drew
       (repeat (apply mixT_take;(focus rfl);(focus rfl);(focus (intro w' hw';have hc':=hw'.cell;go_simp;exact rfl));refine tput ?_))
       have hind:=(In.self wz).drew
       replace hin:=hin.call hind.bel
       clear hc1 hc2 hb1 hind
       generalize wz.drew=w3 at *
       (apply mixT_run;(focus rfl);(focus rfl);intro K hK;go_simp)
       refine hK _ _ (fun h=>absurd h (by decide)) ?_
       clear hK K
       refine mixT_done ?_
       have HIN:=Lib.hid hin
       clear hin
       by_cases hpq:q=p
       ·have f1:(q == p)=true:=by simpa using hpq
        have hr:R=false:=by
         rw[HR.out]
         unfold allDif
         refine decide_eq_false fun⟨g1,g2⟩=>?_
         have hil:i<xs.length:=by rw[←HL.out];exact hiL
         have g3:((∀ x∈xs.take (i+1),0≤x∧x<n)∧(xs.take (i+1)).Nodup):=⟨fun x hx=>g1 x (List.mem_of_mem_take hx),g2.sublist (List.take_sublist _ _)⟩
         exact(HPR.out.1 g3).2.2 k hki (by rw[←HP.out,←HQ.out];exact hpq)
        subst hr
        clear hpq
        have hbel:=HIN.out.bel
        go_wp2_with fail
        go_ret
        exact⟨rfl,hbel⟩
       ·have f1:(q == p)=false:=by simpa using hpq
        have HN:=Lib.hid hpq
        clear hpq
        go_wp2_with fail
        exact⟨⟨k+1,by omega,by go_num,HIN.out,Lib.hid fun t ht=>by
         rcases Nat.lt_or_ge t k with h | h
         ·exact HK.out t h
         ·obtain rfl:t=k:=by omega
          rw[←HP.out,←HQ.out];exact HN.out⟩,by simp[RowKit.intOf];omega⟩
      ·have kI:¬ (k:Int)<i:=by omega
       have HIN:=Lib.hid hin
       clear hin
       go_wp2_with fail
       exact⟨⟨i+1,by omega,by go_num,HIN.out,Lib.hid (HPR.out.2 ⟨HD.out,by rw[←HP.out];exact HP2.out,fun t ht=>HK.out t (by omega)⟩)⟩,by simp[RowKit.intOf];omega⟩
  ·have iI:¬ (i:Int)<L:=by omega
   have hr:R=true:=by
    rw[HR.out]
    unfold allDif
    have:=HD.out
    rw[List.take_of_length_le (by rw[←HL.out];omega)] at this
    exact decide_eq_true this
   subst hr
   have hbel:=hin.bel
   go_wp2_with fail
   go_ret
   exact⟨rfl,hbel⟩
end Gus
end
section
namespace Gus
open Go Go.RowKit Go.Proofs
def MsV (r c:Nat) (F:Mx) (x:Value) (w:World):Prop:=MatS w x r c F
theorem MsV.m {r c:Nat} {F:Mx} {x:Value} {w:World} (h:MsV r c F x w):MatS w x r c F:=h
def MaV (r c:Nat) (F:Mx) (x:Value) (w:World):Prop:=MatAt w x r c (dense r c F)
theorem MaV.m {r c:Nat} {F:Mx} {x:Value} {w:World} (h:MaV r c F x w):MatAt w x r c (dense r c F):=h
theorem bx_grown_own {w w':World} {S base s n:Nat} {T e:TypeId} {v:Value} {cs xs:List Value} (h:Bx w S T cs) (ho:w.ownsRow base e s v n xs) (hT:T≠e) (hgr:w.grownBy w' v.ownBlock):Bx w' S T cs:=by
 have hS:w.heap[S]?=some (Obj.cells cs.toArray T (0,0)):=h
 show w'.heap[S]?=_
 rw[hgr.block S h.lt (fun e9=>?_)]
 ·exact hS
 ·rcases ho.2 with ⟨rfl,_⟩|⟨g,cap,cur,rfl,_,hg,_⟩
  ·simp[Value.ownBlock] at e9
  ·simp only[Value.ownBlock,Option.some.injEq] at e9
   subst e9
   rw[hS] at hg
   simp only[Option.some.injEq,Obj.cells.injEq] at hg
   exact hT hg.2.1
end Gus
end
