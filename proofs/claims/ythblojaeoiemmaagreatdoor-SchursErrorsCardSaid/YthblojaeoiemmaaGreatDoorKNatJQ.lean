/- Proved here: parts of the proof: KNatJ KNatK KRegB. Conditions: those that each theorem states. -/
import Derived.Test.YthblojaeoiemmaaGreatDoorKNatGQ
section
namespace Gus
open Go Go.RowKit Go.Proofs
theorem mid3_get (ls xs cs:List Nat) (k:Nat) (h:k<xs.length) {o:Nat} (ho:o=ls.length):(ls ++ xs ++ cs).getD (o+k) 0=xs.getD k 0:=by
 subst ho
 rw[List.getD_eq_getElem?_getD,List.getD_eq_getElem?_getD,List.append_assoc,List.getElem?_append_right (by omega),Nat.add_sub_cancel_left,List.getElem?_append_left h]
theorem mid3_set (ls xs cs:List Nat) (k z:Nat) (h:k<xs.length) {o:Nat} (ho:o=ls.length):(ls ++ xs ++ cs).set (o+k) z=ls ++ xs.set k z ++ cs:=by
 subst ho
 rw[List.append_assoc,List.set_append_right _ _ (by omega),Nat.add_sub_cancel_left,List.set_append_left _ _ h,List.append_assoc]
theorem row_get (zs ms:List Nat) {k:Nat} (h:zs.length=k):(zs ++ ms.drop k).getD k 0=ms.getD k 0:=by
 rw[List.getD_eq_getElem?_getD,List.getElem?_append_right (by omega),h,Nat.sub_self,List.getElem?_drop,Nat.add_zero,List.getD_eq_getElem?_getD]
theorem row_set (zs ms:List Nat) {k:Nat} (z:Nat) (h:zs.length=k) (hk:k<ms.length):(zs ++ ms.drop k).set k z=(zs ++ [z]) ++ ms.drop (k+1):=by
 rw[List.set_append_right _ _ (by omega),h,Nat.sub_self,List.drop_eq_getElem_cons hk,List.set_cons_zero,List.append_assoc];rfl
theorem less_step {zs d V M t c l w z m s l':Nat} (h:zs+d*V=M+t*(c+l)) (hs:s=c+d*w) (hz:z+s % 4294967296+l=m+4294967296*l'):zs+t*z+d*(V+t*w)=M+t*m+t*4294967296*(s / 4294967296+l'):=by
 have:=Nat.div_add_mod s 4294967296
 generalize s / 4294967296=q at *
 generalize s % 4294967296=r at *
 have e:t*(z+r+l)=t*(m+4294967296*l'):=by rw[hz]
 have e2:t*(4294967296*q+r)=t*(c+d*w):=by rw[this,hs]
 grind
set_option maxRecDepth 100000 in
set_option maxHeartbeats 1000000 in
theorem less_any (w:World) (bu off n cu bv cv d:Nat) (ls ms cs vs:List Nat) (hu:Blk w bu (ls ++ ms ++ cs)) (hv:Blk w bv vs) (hoff:off=ls.length) (hm:ms.length=n+1) (hn:n≤vs.length) (hs:n≤1099511627776)
  (hdm:Digs ms) (hdv:Digs vs) (hd:d<4294967296) (hne:bu≠bv) :
  Calls Tryz.prog 194 #[.slice (some ⟨bu,off,none⟩) ((n+1:Nat)) cu,.slice (some ⟨bv,0,none⟩) n cv,.int .u64 (d:Nat)] w fun e w'=>∃ zs c,e=.returned (.bool (decide (0<c)))∧Blk w' bu (ls ++ zs ++ cs)∧zs.length=n+1∧Digs zs∧c≤1 ∧
   val zs+d*val (vs.take n)=val ms+4294967296 ^ (n+1)*c∧w.grownBy w' (some bu):=by
 have HOFF:=Lib.hid hoff
 have HM:=Lib.hid hm
 clear hoff hm
 go_enter Tryz.func194,Tryz.ntmps194
 go_wp2_with fail
 go_loopw [7,8,14] (fun v7 v8 v14 wr=>∃ k zs c l,k≤n∧v14=.int .i64 (k:Nat)∧v7=.int .u64 (c:Nat)∧v8=.int .u32 (l:Nat)∧c<4294967296∧l≤1∧zs.length=k∧Digs zs∧Blk wr bu (ls ++ (zs ++ ms.drop k) ++ cs)∧Blk wr bv vs∧w.grownBy wr (some bu) ∧
  val zs+d*val (vs.take k)=val (ms.take k)+4294967296 ^ k*(c+l)) (fun _ _ v14 _=>n - (intOf v14).toNat)
 case atStart=>exact⟨0,[],0,0,Nat.zero_le _,rfl,rfl,rfl,by decide,by decide,rfl,.nil,hu,hv,gr_refl _ _,by simp[val]⟩
 case round=>
  clear hu hv
  obtain⟨k,zs,c,l,hk,rfl,rfl,rfl,hc,hl,hz,hdz,hbu,hbv,hgr,hval⟩:=hrel
  have HV:=Lib.hid hval
  have HZ:=Lib.hid hz
  clear hval hz
  obtain⟨x,hx⟩:∃ x,x=ms.getD k 0:=⟨_,rfl⟩
  have hxl:x<4294967296:=by rw[hx];exact hdm.getD k
  have hlen:(zs ++ ms.drop k).length=n+1:=by rw[List.length_append,List.length_drop,HZ.out,HM.out];omega
  have hcu:=hbu.cell (i:=off+k) (by rw[List.length_append,List.length_append,hlen,←HOFF.out];omega)
  rw[mid3_get _ _ _ _ (by rw[hlen];omega) HOFF.out,row_get _ _ HZ.out,←hx] at hcu
  have hfu:=hbu.frozen (off+k)
  have hsetz:∀ z,(ls ++ (zs ++ ms.drop k) ++ cs).set (off+k) z=ls ++ ((zs ++ [z]) ++ ms.drop (k+1)) ++ cs:=fun z=>by
   rw[mid3_set _ _ _ _ _ (by rw[hlen];omega) HOFF.out,row_set _ _ _ HZ.out (by rw[HM.out];omega)]
  have HX:=Lib.hid hx
  have HSZ:=Lib.hid hsetz
  clear hx hlen hsetz
  by_cases hlt:k<n
  ·obtain⟨y,hy⟩:∃ y,y=vs.getD k 0:=⟨_,rfl⟩
   have hyl:y<4294967296:=by rw[hy];exact hdv.getD k
   have hcv:=hbv.cell (i:=k) (by omega)
   rw[←hy] at hcv
   have hdy:d*y≤18446744065119617025:=Nat.mul_le_mul (show d≤4294967295 by omega) (show y≤4294967295 by omega)
   obtain⟨s,hs⟩:∃ s,s=c+d*y:=⟨_,rfl⟩
   have hsI:(s:Int)=(c:Int)+(d:Int)*y:=by rw[hs];push_cast;rfl
   have hdy0:(0:Int)≤(d:Int)*y:=by
    have:((d*y:Nat):Int)=(d:Int)*y:=by push_cast;rfl
    omega
   have hdy1:(d:Int)*y≤18446744065119617025:=by
    have:((d*y:Nat):Int)=(d:Int)*y:=by push_cast;rfl
    omega
   have hsl:s<18446744073709551616:=by omega
   obtain⟨z,l',hz1,hz2,hl',hzl,hzv⟩:=bor_nat x (s % 4294967296) l hxl (Nat.mod_lt _ (by decide)) hl
   rw[show((s % 4294967296:Nat):Int)=(s:Int) % 4294967296 by omega] at hz1 hz2
   have hst:=less_step HV.out hs hzv
   rw[hy,←val_take_succ,HX.out,←val_take_succ,←Nat.pow_succ] at hst
   have hst':val (zs ++ [z])+d*val (vs.take (k+1))=val (ms.take (k+1))+4294967296 ^ (k+1)*(s / 4294967296+l'):=by
    rw[val_snoc,HZ.out];exact hst
   have HST:=Lib.hid hst'
   have HSI:=Lib.hid hsI
   have HZ1:=Lib.hid hz1
   have HZ2:=Lib.hid hz2
   have hset:=hbu.set (off+k) z
   rw[HSZ.out] at hset
   have HSE:=Lib.hid hset
   clear hst hst' hsI hz1 hz2 hzv hs hy hset
   go_upto_region 6 with fail
   go_wp2_with fail
   rw[←HSI.out]
   refine(sub32 _ _ _ (by omega) (by omega) (by omega) (by omega) (by omega) (by omega) _).mono ?_
   rintro e w' ⟨rfl,rfl⟩
   rw[HZ1.out,HZ2.out]
   have hs0:(0:Int)≤s:=by omega
   clear hdy0 hdy1
   go_wp2_with fail
   refine⟨⟨k+1,zs ++ [z],s / 4294967296,l',hlt,by go_num,by go_num,rfl,by omega,hl',by rw[List.length_append,HZ.out];rfl,hdz.append (.cons hzl .nil),HSE.out,hbv.other hne _,gr_set hgr _ _,HST.out⟩,by simp[intOf];omega⟩
  ·have hkn:k=n:=by omega
   have hv:=HV.out
   rw[hkn] at hv
   obtain⟨z,l',hz1,hz2,hl',hzl,hzv⟩:=bor_nat x c l hxl hc hl
   have hst':val (zs ++ [z])+d*val (vs.take n)=val ms+4294967296 ^ (n+1)*l':=by
    have e:val ms=val (ms.take n)+4294967296 ^ n*x:=by
     have:=val_take_succ ms n
     rw[List.take_of_length_le (by rw[HM.out];omega)] at this
     rw[this,HX.out,hkn]
    rw[val_snoc,HZ.out,hkn,e,Nat.pow_succ]
    clear e
    generalize 4294967296 ^ n=t at *
    have e2:t*(z+c+l)=t*(x+4294967296*l'):=by rw[hzv]
    grind
   have hset:=hbu.set (off+k) z
   rw[HSZ.out,List.drop_of_length_le (by rw[HM.out];omega),List.append_nil,hkn] at hset
   rw[hkn] at hcu hfu
   have hcm:(c:Int) % 4294967296=c:=by omega
   have hlz:(zs ++ [z]).length=n+1:=by rw[List.length_append,HZ.out,hkn];rfl
   have HST:=Lib.hid hst'
   have HSE:=Lib.hid hset
   have HZ1:=Lib.hid hz1
   have HZ2:=Lib.hid hz2
   have HLZ:=Lib.hid hlz
   clear hv hst' hset hz1 hz2 hzv hkn hlz
   go_upto_region 10 with fail
   go_wp2_with fail
   refine(sub32 _ _ _ (by omega) (by omega) (by omega) (by omega) (by omega) (by omega) _).mono ?_
   rintro e w' ⟨rfl,rfl⟩
   rw[HZ1.out,HZ2.out]
   go_wp2_with fail
   exact bodyPost_ret (v:=.bool (decide (0<l'))) (by simp[results,Tryz.results194,go_sem]) rfl ⟨zs ++ [z],l',rfl,HSE.out,HLZ.out,hdz.append (.cons hzl .nil),hl',HST.out,gr_set hgr _ _⟩
end Gus
end
section
namespace Gus
open Go Go.RowKit Go.Proofs
section
variable {P V vl v1 v2 M ml a b c q d r top:Nat}
theorem guess_init (hV:V=vl+P*(v2+4294967296*v1)) (hM:M=ml+P*(a+4294967296*(b+4294967296*c))) (hml:ml<P) (ha:a<4294967296) (hq:q*V≤M) (hv1:0<v1):q≤(c*4294967296+b) / v1:=by
 rw[Nat.le_div_iff_mul_le hv1]
 refine Decidable.by_contra fun h=>?_
 have h1:b+4294967296*c+1≤q*v1:=by omega
 have h2:P*(4294967296*(b+4294967296*c+1))≤P*(4294967296*(q*v1)):=Nat.mul_le_mul_left _ (Nat.mul_le_mul_left _ h1)
 have h3:P*(4294967296*(q*v1))≤q*V:=by
  have e:q*V=q*(vl+P*v2)+P*(4294967296*(q*v1)):=by rw[hV];grind
  omega
 have h4:P*(a+1)≤P*4294967296:=Nat.mul_le_mul_left _ (by omega)
 have e4:P*(4294967296*(b+4294967296*c+1))=P*(4294967296*(b+4294967296*c))+P*4294967296:=by grind
 have e5:P*(a+1)=P*a+P:=by grind
 have e6:P*(a+4294967296*(b+4294967296*c))=P*a+P*(4294967296*(b+4294967296*c)):=Nat.mul_add _ _ _
 rw[e6] at hM
 rw[e4] at h2
 rw[e5] at h4
 clear e4 e5 e6 h h1 hv1
 generalize P*(4294967296*(b+4294967296*c))=X at *
 generalize P*a=Y at *
 generalize P*4294967296=Z at *
 generalize P*(4294967296*(q*v1))=T at *
 generalize q*V=S at *
 omega
theorem guess_dec (hV:V=vl+P*(v2+4294967296*v1)) (hM:M=ml+P*(a+4294967296*(b+4294967296*c))) (hml:ml<P) (hd:d*v1+r=c*4294967296+b) (h:r*4294967296+a<d*v2):M<d*V:=by
 have e:d*V=d*vl+P*(d*v2+4294967296*(d*v1)):=by rw[hV];grind
 have h1:P*(a+4294967296*(b+4294967296*c)+1)≤P*(d*v2+4294967296*(d*v1)):=Nat.mul_le_mul_left _ (by omega)
 rw[Nat.mul_add P _ 1] at h1
 omega
theorem guess_end (hV:V=vl+P*(v2+4294967296*v1)) (hM:M=ml+P*(a+4294967296*(b+4294967296*c))) (hvl:vl<P) (hv1:0<v1) (hdB:d<4294967296) (hd:d*v1+r=c*4294967296+b) (h:d*v2≤r*4294967296+a):d*V<M+V:=by
 have e:d*V=d*vl+P*(d*v2+4294967296*(d*v1)):=by rw[hV];grind
 have h1:P*(d*v2+4294967296*(d*v1))≤P*(a+4294967296*(b+4294967296*c)):=Nat.mul_le_mul_left _ (by omega)
 have h2:d*vl≤4294967296*vl:=Nat.mul_le_mul_right _ (by omega)
 have h3:P*4294967296≤P*(4294967296*v1):=Nat.mul_le_mul_left _ (by omega)
 rw[Nat.mul_add P] at hV
 omega
theorem guess_small (hd:d*v1+r=c*4294967296+b) (hb:b<4294967296) (hc:c≤v1) (hr:4294967296≤r):d<4294967296:=by
 refine Decidable.by_contra fun h=>?_
 have h1:4294967296*v1≤d*v1:=Nat.mul_le_mul_right _ (by omega)
 omega
theorem digit_low {Z:Nat} (hd:q≤d) (hq:q=M / V) (hV:0<V) (hz:Z+d*V=M):d=q∧Z=M % V:=by
 have h1:d≤q:=by rw[hq,Nat.le_div_iff_mul_le hV];omega
 obtain rfl:d=q:=by omega
 refine⟨rfl, ?_⟩
 have:=Nat.div_add_mod M V
 rw[←hq,Nat.mul_comm] at this
 omega
theorem digit_high {Z W:Nat} (hq:q=M / V) (hV:0<V) (hend:d*V<M+V) (hZ:Z<W) (hz:Z+d*V=M+W):d=q+1∧Z+V=M % V+W:=by
 have hm:=Nat.div_add_mod M V
 rw[←hq,Nat.mul_comm] at hm
 have hlt:=Nat.mod_lt M hV
 have h1:d=q+1:=by
  have h2:¬ d≤q:=fun h=>by
   have:d*V≤q*V:=Nat.mul_le_mul_right _ h
   omega
  have h3:¬ q+2≤d:=fun h=>by
   have:(q+2)*V≤d*V:=Nat.mul_le_mul_right _ h
   rw[Nat.add_mul] at this
   omega
  omega
 refine⟨h1, ?_⟩
 rw[h1,Nat.add_mul] at hz
 omega
end
theorem val_top2 (l:List Nat) (n:Nat):val (l.take (n+2))=val (l.take n)+4294967296 ^ n*(l.getD n 0+4294967296*l.getD (n+1) 0):=by
 rw[val_take_succ,val_take_succ,Nat.pow_succ];grind
theorem val_top3 (l:List Nat) (n:Nat) (h:l.length=n+3):val l=val (l.take n)+4294967296 ^ n*(l.getD n 0+4294967296*(l.getD (n+1) 0+4294967296*l.getD (n+2) 0)):=by
 have:=val_take_succ l (n+2)
 rw[List.take_of_length_le (by omega)] at this
 rw[this,val_take_succ,val_take_succ,Nat.pow_succ,Nat.pow_succ];grind
theorem val_zero_above (l:List Nat) (n:Nat) (h:val l<4294967296 ^ n):val (l.drop n)=0:=by
 by_cases hn:n<l.length
 ·have:=val_split l n
  rw[Nat.min_eq_left (by omega)] at this
  refine Decidable.by_contra fun h0=>?_
  have h1:4294967296 ^ n*1≤4294967296 ^ n*val (l.drop n):=Nat.mul_le_mul_left _ (by omega)
  omega
 ·rw[List.drop_of_length_le (by omega)];rfl
theorem val3 (ls ms cs:List Nat) (h:val cs=0):val (ls ++ ms ++ cs)=val ls+4294967296 ^ ls.length*val ms:=by
 rw[val_append,h,val_append,Nat.mul_zero,Nat.add_zero]
theorem getD_drop_take (l:List Nat) {j n i k:Nat} (h:i<n) (hk:k=j+i):((l.drop j).take n).getD i 0=l.getD k 0:=by
 subst hk
 rw[getD_take h,List.getD_eq_getElem?_getD,List.getElem?_drop,List.getD_eq_getElem?_getD]
theorem long_rows {ut vs:List Nat} {U V j p:Nat} (hdu:Digs ut) (hdv:Digs vs) (hul:ut.length=U) (hU:j+p+3≤U) (hvl:p+2≤vs.length) (hV:V=val (vs.take (p+2))) (hlow:val (ut.drop (j+1))<V) :
  ∃ ls ms cs vl ml,ut=ls ++ ms ++ cs∧j=ls.length∧ms.length=p+3∧Digs ms∧Digs ls∧Digs cs∧val cs=0∧val ms<4294967296*V∧ut.getD (j+p+2) 0≤vs.getD (p+1) 0∧vl<4294967296 ^ p∧ml<4294967296 ^ p ∧
   V=vl+4294967296 ^ p*(vs.getD p 0+4294967296*vs.getD (p+1) 0)∧val ms=ml+4294967296 ^ p*(ut.getD (j+p) 0+4294967296*(ut.getD (j+p+1) 0+4294967296*ut.getD (j+p+2) 0)):=by
 have hVlt:V<4294967296 ^ (p+2):=by
  rw[hV];have:=val_lt (hdv.take (p+2));rwa [List.length_take,Nat.min_eq_left hvl] at this
 have hcs:val ((ut.drop j).drop (p+3))=0:=by
  have:=val_zero_above (ut.drop (j+1)) (p+2) (Nat.lt_trans hlow hVlt)
  rw[List.drop_drop] at this ⊢
  rwa [show j+(p+3)=j+1+(p+2) by omega]
 have hms:val (ut.drop j)=val ((ut.drop j).take (p+3)):=by
  have:=val_split (ut.drop j) (p+3)
  rw[hcs,Nat.mul_zero] at this
  exact this
 refine⟨ut.take j,(ut.drop j).take (p+3),(ut.drop j).drop (p+3),val (vs.take p),val (((ut.drop j).take (p+3)).take p),by rw[List.append_assoc,List.take_append_drop,List.take_append_drop],by rw[List.length_take];omega,by rw[List.length_take,List.length_drop];omega,
  (hdu.drop _).take _,hdu.take _,(hdu.drop _).drop _,hcs, ?_, ?_, ?_, ?_, ?_, ?_⟩
 ·rw[←hms,val_drop_step _ _ (by omega)]
  have:=hdu.getD j
  omega
 ·refine Decidable.by_contra fun h=>?_
  have h1:=val_split (ut.drop (j+1)) (p+1)
  rw[Nat.min_eq_left (by rw[List.length_drop];omega)] at h1
  have h2:ut.getD (j+p+2) 0≤val ((ut.drop (j+1)).drop (p+1)):=by
   rw[List.drop_drop,show j+1+(p+1)=j+p+2 by omega,val_drop_step _ _ (by omega)]
   exact Nat.le_add_right _ _
  have h3:=val_take_succ vs (p+1)
  rw[←hV] at h3
  have h4:=val_lt (hdv.take (p+1))
  rw[List.length_take,Nat.min_eq_left (by omega)] at h4
  have h5:4294967296 ^ (p+1)*(vs.getD (p+1) 0+1)≤4294967296 ^ (p+1)*val ((ut.drop (j+1)).drop (p+1)):=Nat.mul_le_mul_left _ (by omega)
  rw[Nat.mul_add,Nat.mul_one] at h5
  clear hms hcs hVlt h hU
  generalize 4294967296 ^ (p+1)*val ((ut.drop (j+1)).drop (p+1))=A at *
  generalize 4294967296 ^ (p+1)*vs.getD (p+1) 0=C at *
  generalize 4294967296 ^ (p+1)=D at *
  omega
 ·have:=val_lt (hdv.take p);rwa [List.length_take,Nat.min_eq_left (by omega)] at this
 ·have:=val_lt (((hdu.drop j).take (p+3)).take p);rwa [List.length_take,List.length_take,List.length_drop,Nat.min_eq_left (by omega)] at this
 ·rw[hV];exact val_top2 vs p
 ·have:=val_top3 ((ut.drop j).take (p+3)) p (by rw[List.length_take,List.length_drop];omega)
  rw[getD_drop_take ut (j:=j) (n:=p+3) (i:=p) (by omega) rfl,getD_drop_take ut (j:=j) (n:=p+3) (i:=p+1) (by omega) rfl,getD_drop_take ut (j:=j) (n:=p+3) (i:=p+2) (by omega) rfl] at this
  exact this
end Gus
end
section
namespace Gus
open Go Go.RowKit
theorem wpQuiet_run0 {P:Program} {C:World→Prop} {ops:Array Oper} {Q:Act→Prop} {a:Act} {o:Oper} {rest:List Oper} {v:Value} (hg:o.guard=none)
  (h:∀ w,C w→o.quietAt P a C w v) (hk:wpQuiet P ops C Q rest (a.put o.dst v)):wpQuiet P ops C Q (o :: rest) a:=
 wpQuiet_run (by unfold Region.wanted;rw[hg]) h hk
theorem wpQuiet_rung {P:Program} {C:World→Prop} {ops:Array Oper} {Q:Act→Prop} {a:Act} {o:Oper} {rest:List Oper} {v:Value} {j:Nat} {b:Bool} (hg:o.guard=some (j,b)) (hy:yielded ops a.tmps j=some b)
  (h:∀ w,C w→o.quietAt P a C w v) (hk:wpQuiet P ops C Q rest (a.put o.dst v)):wpQuiet P ops C Q (o :: rest) a:=
 wpQuiet_run (by unfold Region.wanted;rw[hg];simp[hy]) h hk
theorem wpQuiet_skipg {P:Program} {C:World→Prop} {ops:Array Oper} {Q:Act→Prop} {a:Act} {o:Oper} {rest:List Oper} {j:Nat} {b:Bool} (hg:o.guard=some (j,b)) (hy:yielded ops a.tmps j=some (!b))
  (hk:wpQuiet P ops C Q rest (a.put o.dst undef)):wpQuiet P ops C Q (o :: rest) a:=
 wpQuiet_skip (by unfold Region.wanted;rw[hg];cases b <;> simp[hy]) hk
end Gus
end
