/- Proved here: parts of the proof: KNatL. Conditions: those that each theorem states. -/
import Derived.Test.YthblojaeoiemmaaGreatDoorKNatJQ
import Derived.Deep.CutBlock
import Derived.WalkMore
import Derived.Lib.ItoaNum
section
namespace Gus
open Go Go.RowKit Go.Proofs
theorem lead_spec (y:Nat) (h0:y≠0) (h1:y<4294967296):Lib.bitLen y≤32∧1≤Lib.bitLen y∧(y+1)*2 ^ (32 - Lib.bitLen y)≤4294967296:=by
 have hb:=Lib.bitLenAux_bounds 64 y (by omega) h0
 change 1≤Lib.bitLen y∧2 ^ (Lib.bitLen y - 1)≤y∧y<2 ^ Lib.bitLen y at hb
 obtain⟨b1,b2,b3⟩:=hb
 have h32:Lib.bitLen y≤32:=by
  refine Decidable.by_contra fun h=>?_
  have:2 ^ 32≤2 ^ (Lib.bitLen y - 1):=Nat.pow_le_pow_right (by decide) (by omega)
  omega
 refine⟨h32,b1, ?_⟩
 have:(y+1)*2 ^ (32 - Lib.bitLen y)≤2 ^ Lib.bitLen y*2 ^ (32 - Lib.bitLen y):=Nat.mul_le_mul_right _ b3
 rw[←Nat.pow_add,show Lib.bitLen y+(32 - Lib.bitLen y)=32 by omega] at this
 exact this
theorem long_v {ys vs:List Nat} {p s y:Nat} (hdy:Digs ys) (hdv:Digs vs) (hy:y=ys.getD (p+1) 0) (h0:y≠0) (hl:(y+1)*2 ^ s≤4294967296) (hp:p+2≤ys.length) (hvl:vs.length=p+3) (hv:val vs=val (ys.take (p+2))*2 ^ s) :
  val (vs.take (p+2))=val (ys.take (p+2))*2 ^ s∧4294967296 ^ (p+1)*2 ^ s≤val (vs.take (p+2))∧0<vs.getD (p+1) 0:=by
 have hY:=val_take_succ ys (p+1)
 rw[←hy] at hY
 have hlow:=val_lt (hdy.take (p+1))
 rw[List.length_take,Nat.min_eq_left (by omega)] at hlow
 have hYlt:val (ys.take (p+2))<4294967296 ^ (p+1)*(y+1):=by rw[hY,Nat.mul_add,Nat.mul_one];omega
 have hVlt:val vs<4294967296 ^ (p+2):=by
  rw[hv]
  have h1:=Nat.mul_lt_mul_of_pos_right hYlt (Nat.two_pow_pos s)
  rw[Nat.mul_assoc] at h1
  have h2:4294967296 ^ (p+1)*((y+1)*2 ^ s)≤4294967296 ^ (p+1)*4294967296:=Nat.mul_le_mul_left _ hl
  rw[←Nat.pow_succ] at h2
  exact Nat.lt_of_lt_of_le h1 h2
 have hsp:=val_split vs (p+2)
 rw[val_zero_above _ _ hVlt,Nat.mul_zero,Nat.add_zero] at hsp
 have hge:4294967296 ^ (p+1)*2 ^ s≤val (vs.take (p+2)):=by
  rw[←hsp,hv,hY]
  apply Nat.mul_le_mul_right
  have:4294967296 ^ (p+1)*1≤4294967296 ^ (p+1)*y:=Nat.mul_le_mul_left _ (by omega)
  omega
 refine⟨by rw[←hsp,hv],hge, ?_⟩
 refine Nat.pos_of_ne_zero fun h=>?_
 have h1:=val_take_succ vs (p+1)
 rw[h,Nat.mul_zero] at h1
 replace h1:val (vs.take (p+2))=val (vs.take (p+1)):=h1
 have h2:=val_lt (hdv.take (p+1))
 rw[List.length_take,Nat.min_eq_left (by omega),←h1] at h2
 have h3:4294967296 ^ (p+1)*1≤4294967296 ^ (p+1)*2 ^ s:=Nat.mul_le_mul_left _ (Nat.two_pow_pos s)
 rw[Nat.mul_one] at h3
 exact absurd (Nat.lt_of_lt_of_le h2 (Nat.le_trans h3 hge)) (Nat.lt_irrefl _)
theorem long_u {us:List Nat} {X V p s k1 T:Nat} (hu:val us=X*2 ^ s) (hX:X<4294967296 ^ k1) (hV:4294967296 ^ (p+1)*2 ^ s≤V) (hT:T+(p+1)=k1) (hTl:T≤us.length):val (us.drop T)<V:=by
 have hsp:=val_split us T
 rw[Nat.min_eq_left hTl,hu] at hsp
 have h1:4294967296 ^ T*val (us.drop T)<4294967296 ^ T*V:=by
  have h2:=Nat.mul_lt_mul_of_pos_right hX (Nat.two_pow_pos s)
  rw[←hT,Nat.pow_add,Nat.mul_assoc] at h2
  have h3:=Nat.mul_le_mul_left (4294967296 ^ T) hV
  have h4:4294967296 ^ T*val (us.drop T)≤X*2 ^ s:=by rw[hsp];exact Nat.le_add_left _ _
  exact Nat.lt_of_le_of_lt h4 (Nat.lt_of_lt_of_le h2 h3)
 exact Nat.lt_of_mul_lt_mul_left h1
structure LW (N:Nat) (W0:World) (bu:Nat) (us:List Nat) (bv:Nat) (vs:List Nat) (bq:Nat) (qs:List Nat) (w:World):Prop where
 u:Blk w bu us
 v:Blk w bv vs
 q:Blk w bq qs
 i:In N W0 w
 nu:N≤bu
 nq:N≤bq
 uv:bu≠bv
 uq:bu≠bq
 vq:bv≠bq
theorem LW.drew {N:Nat} {W0 w:World} {bu bv bq:Nat} {us vs qs:List Nat} (h:LW N W0 bu us bv vs bq qs w):LW N W0 bu us bv vs bq qs w.drew:=⟨h.u,h.v,h.q,h.i.drew,h.nu,h.nq,h.uv,h.uq,h.vq⟩
theorem LW.setU {N:Nat} {W0 w:World} {bu bv bq:Nat} {us vs qs:List Nat} (h:LW N W0 bu us bv vs bq qs w) (i d:Nat):LW N W0 bu (us.set i d) bv vs bq qs (w.setCell ⟨bu,i,none⟩ (.int .u32 (d:Int))):=
 ⟨h.u.set i d,h.v.other h.uv _,h.q.other h.uq _,h.i.setCell h.nu _,h.nu,h.nq,h.uv,h.uq,h.vq⟩
theorem LW.setQ {N:Nat} {W0 w:World} {bu bv bq:Nat} {us vs qs:List Nat} (h:LW N W0 bu us bv vs bq qs w) (i d:Nat):LW N W0 bu us bv vs bq (qs.set i d) (w.setCell ⟨bq,i,none⟩ (.int .u32 (d:Int))):=
 ⟨h.u.other h.uq.symm _,h.v.other h.vq.symm _,h.q.set i d,h.i.setCell h.nq _,h.nu,h.nq,h.uv,h.uq,h.vq⟩
theorem LW.turnU {N:Nat} {W0 w w':World} {bu bv bq:Nat} {us vs qs us':List Nat} (h:LW N W0 bu us bv vs bq qs w) (hg:w.grownBy w' (some bu)) (hb:Blk w' bu us'):LW N W0 bu us' bv vs bq qs w':=
 ⟨hb,h.v.grown hg (fun e=>h.uv (by cases e;rfl)),h.q.grown hg (fun e=>h.uq (by cases e;rfl)),⟨h.i.bel.trans (gr_below hg h.nu h.i.siz),Nat.le_trans h.i.siz hg.size⟩,h.nu,h.nq,h.uv,h.uq,h.vq⟩
theorem long_val {A P R V q Z U0 M:Nat} (h1:V*q+R=M) (h0:A+P*M+V*(P*4294967296*Z)=U0):A+P*R+V*(P*(q+4294967296*Z))=U0:=by
 rw[←h0,←h1,Nat.mul_add P,Nat.mul_add P,Nat.mul_add V,←Nat.mul_assoc P 4294967296 Z,←Nat.mul_assoc V P q,←Nat.mul_assoc P V q,Nat.mul_comm V P]
 omega
theorem back_step {zz t c a b x y s:Nat} (h:zz+t*c=a+b) (hs:s=x+y+c):zz+t*(s % 4294967296)+t*4294967296*(s / 4294967296)=(a+t*x)+(b+t*y):=by
 have:=Nat.div_add_mod s 4294967296
 generalize s / 4294967296=q at *
 generalize s % 4294967296=r at *
 have e:t*(4294967296*q+r)=t*(x+y+c):=by rw[this,hs]
 grind
theorem back_end {R V P zz x c a:Nat} (h:zz+P*c=a+V) (hz:a+P*x+V=R+P*4294967296) (hR:R<P) (hzz:zz<P):x+c=4294967296∧zz=R:=by
 have e:zz+P*(x+c)=R+P*4294967296:=by rw[Nat.mul_add];omega
 clear h hz
 have h1:x+c=4294967296:=by
  rcases Nat.lt_trichotomy (x+c) 4294967296 with hl | hl | hl
  ·have:P*(x+c+1)≤P*4294967296:=Nat.mul_le_mul_left _ hl
   rw[Nat.mul_add,Nat.mul_one] at this
   generalize P*(x+c)=A at *
   generalize P*4294967296=B at *
   omega
  ·exact hl
  ·have:P*(4294967296+1)≤P*(x+c):=Nat.mul_le_mul_left _ hl
   rw[Nat.mul_add,Nat.mul_one] at this
   generalize P*(x+c)=A at *
   generalize P*4294967296=B at *
   omega
 refine⟨h1, ?_⟩
 rw[h1] at e
 omega
set_option maxRecDepth 100000 in
set_option maxHeartbeats 16000000 in
theorem long_any (w:World) (b1 k1 cap1 b2 p cap2:Nat) (xs ys:List Nat) (hx:Blk w b1 xs) (hy:Blk w b2 ys) (hdx:Digs xs) (hdy:Digs ys) (hk1:k1≤xs.length) (hn:p+2≤ys.length) (htop:ys.getD (p+1) 0≠0) (hnK:p+2≤k1) (hs:k1<1099511627776) :
  Calls Tryz.prog 168 #[.slice (some ⟨b1,0,none⟩) k1 cap1,.slice (some ⟨b2,0,none⟩) ((p+2:Nat)) cap2] w fun e w'=>∃ bu us bq qs T,e=.returned (.tuple #[.slice (some ⟨bq,0,none⟩) T T,.slice (some ⟨bu,0,none⟩) ((k1+1:Nat)) ((k1+1:Nat))]) ∧
   Blk w' bu us∧Blk w' bq qs∧us.length=k1+1∧qs.length=T∧T≤k1+1∧Digs us∧Digs qs∧val qs=val (xs.take k1) / val (ys.take (p+2))∧val us=val (xs.take k1) % val (ys.take (p+2))∧Below w.heap.size w w':=by
 obtain⟨n,hnp⟩:∃ n,n=p+2:=⟨_,rfl⟩
 rw[←hnp]
 obtain⟨U,hU⟩:∃ U,U=k1+1:=⟨_,rfl⟩
 rw[←hU]
 obtain⟨y,hyt⟩:∃ y,y=ys.getD (p+1) 0:=⟨_,rfl⟩
 have hyl:y<4294967296:=by rw[hyt];exact hdy.getD _
 have hcy:=hy.cell (i:=p+1) (by omega)
 rw[←hyt] at hcy htop
 obtain⟨l1,l2,l3⟩:=lead_spec y htop hyl
 obtain⟨s,hs1⟩:∃ s,s=32 - Lib.bitLen y:=⟨_,rfl⟩
 have hs1I:(32:Int) - (Lib.bitLen y:Int)=(s:Int):=by omega
 have hs32:s<32:=by omega
 rw[←hs1] at l3
 have hnp1:(n:Int) - 1=((p+1:Nat):Int):=by omega
 have hwn1:((p+1:Nat):Int)<n:=by omega
 have hnI:((p+2:Nat):Int)=n:=by omega
 have HNP:=Lib.hid hnp
 have HU:=Lib.hid hU
 have HYT:=Lib.hid hyt
 have HS1:=Lib.hid hs1
 have HI:=Lib.hid hs1I
 clear hnp hU hyt hs1 hs1I
 go_enter Tryz.func168,Tryz.ntmps168
 go_upto_region 1 with fail
 go_wp2_with fail
 refine(lead32 _ (by omega) (by omega) _).mono ?_
 rintro e w' ⟨rfl,hww⟩
 obtain rfl:w=w':=hww.symm
 rw[Int.toNat_natCast,HI.out]
 clear hcy hnp1 hwn1 hnI
 go_upto_region 2 with fail
 refine wp_region_mix (In w.heap.size w) [(0,true),(1,true),(3,true),(4,true),(6,true),(7,true),(2,false),(5,false),(8,true),(9,true),(10,true)] (by kernel_rfl) (by kernel_rfl) (by kernel_rfl) (by kernel_rfl) (fun _ _ d _ _ h=>by cases d <;> exact h) ?_ ?_
 ·exact(In.self w).drew
 repeat (apply mix_take;(focus rfl);(focus rfl);(focus (intro w' hw';go_simp;exact rfl));(try simp only[Act.put]);(try simp only[List.setIfInBounds_toArray]);(try simp only[List.set]))
 (apply mix_run;(focus rfl);(focus rfl);intro K hK;go_simp)
 refine(shifted_any _ b1 k1 cap1 s xs hx.drew hdx hk1 (by omega) hs32).mono ?_
 rintro e w1 ⟨us,rfl,hu,hul,hud,huv,hb1⟩
 have h1:=(In.self w).drew.call hb1
 rw[←HU.out] at hul ⊢
 (refine hK _ _ (h1) ?_;clear hK K;(try simp only[Act.put]);(try simp only[List.setIfInBounds_toArray]);(try simp only[List.set]))
 (apply mix_run;(focus rfl);(focus rfl);intro K hK;go_simp)
 refine(shifted_any _ b2 n cap2 s ys (hy.drew.call hb1) hdy (by have:=HNP.out;omega) (by have:=HNP.out;omega) hs32).mono ?_
 rintro e w2 ⟨vs,rfl,hv,hvl,hvd,hvv,hb2⟩
 have h2:=h1.call hb2
 have hu2:=hu.call hb2
 have hne:w.drew.heap.size≠w1.heap.size:=by have:=hu.lt;omega
 have hnu:w.heap.size≤w.drew.heap.size:=Nat.le_refl _
 (refine hK _ _ (h2) ?_;clear hK K;(try simp only[Act.put]);(try simp only[List.setIfInBounds_toArray]);(try simp only[List.set]))
 have hn1:(n:Int)≤(n:Int)+1:=by omega
 repeat (apply mix_take;(focus rfl);(focus rfl);(focus (intro w' hw';go_simp;exact rfl));(try simp only[Act.put]);(try simp only[List.setIfInBounds_toArray]);(try simp only[List.set]))
 refine mix_done ?_
 clear hn1
 obtain⟨hV1,hV2,hV3⟩:=long_v hdy hvd HYT.out htop l3 hn (by rw[hvl,HNP.out]) (by rw[hvv,HNP.out])
 obtain⟨T,hT⟩:∃ T,T+(p+1)=k1:=⟨k1 - (p+1),by omega⟩
 have hX:=val_lt (hdx.take k1)
 rw[List.length_take,Nat.min_eq_left hk1] at hX
 have hU1:=long_u huv hX hV2 hT (by rw[hul,HU.out];omega)
 have hTU:(U:Int) - n=(T:Int):=by have:=HU.out;have:=HNP.out;omega
 have hTl:T≤1099511627776:=by omega
 have hmk:=mk_u32 T (by omega)
 obtain⟨bu,hbu⟩:∃ b,b=w.heap.size:=⟨_,rfl⟩
 obtain⟨bv,hbv⟩:∃ b,b=w1.heap.size:=⟨_,rfl⟩
 obtain⟨bq,hbq⟩:∃ b,b=w2.heap.size:=⟨_,rfl⟩
 have hLW:LW bu w bu us bv vs bq (List.replicate T 0) (w2.alloc (.cells (zrow T) 99)):=
  ⟨by rw[hbu];exact hu2.alloc _,by rw[hbv];exact hv.alloc _,by rw[hbq];exact Blk.made _ _,by rw[hbu];exact h2.alloc _,Nat.le_refl _,by have:=h2.siz;omega,by rw[hbu,hbv];exact hne,by have:=hu2.lt;rw[hbu,hbq];exact Nat.ne_of_lt this,by have:=hv.lt;omega⟩
 rw[←hbu,←hbv]
 have HV1:=Lib.hid hV1
 have HV3:=Lib.hid hV3
 have HU1:=Lib.hid hU1
 have HT:=Lib.hid hT
 have HUL:=Lib.hid hul
 have HUV:=Lib.hid huv
 have HVL:=Lib.hid hvl
 have HBU:=Lib.hid hbu
 clear hV1 hV2 hV3 hU1 hT hul huv hvl hvv hX hbv hb1 hb2 h1 h2 hu2 hne hnu hu hv hx hy hdx htop l1 l2 l3 hww HYT
 go_upto_region 5 with fail
 rw[←hbq]
 generalize w2.alloc (.cells (zrow T) 99)=w3 at *
 clear hbq hbu
 obtain⟨V,hV⟩:∃ V,V=val (vs.take (p+2)):=⟨_,rfl⟩
 obtain⟨U0,hU0⟩:∃ V,V=val us:=⟨_,rfl⟩
 have hU1:=HU1.out
 rw[←hV] at hU1
 have HV:=Lib.hid hV
 have HU0:=Lib.hid hU0
 clear hV hU0 HU1
 have HU1:=Lib.hid hU1
 clear hU1 hTU
 go_wp2
 go_loopw [10] (fun v10 wr=>∃ k us qs,k≤T∧v10=.int .i64 ((k:Nat) - 1)∧us.length=U∧Digs us∧qs.length=T - k∧Digs qs∧LW bu w bu us bv vs bq (List.replicate k 0 ++ qs) wr∧val us+V*(4294967296 ^ k*val qs)=U0∧val (us.drop k)<V) (fun v10 _=>(intOf v10+1).toNat)
 case atStart=>exact⟨T,us,[],Nat.le_refl _,rfl,HUL.out,hud,by simp,.nil,by simpa using hLW,by rw[HU0.out];simp[val],HU1.out⟩
 case round=>
  clear hLW HUL hud
  obtain⟨k,ut,qs,hk,rfl,hul,hud,hql,hqdig,hLW,hval,hlow⟩:=hrel
  have HVAL:=Lib.hid hval
  have HLOW:=Lib.hid hlow
  have HQL:=Lib.hid hql
  have HUL:=Lib.hid hul
  clear hval hlow hql hul HU1
  by_cases hk0:0<k
  ·obtain⟨j,rfl⟩:∃ j,k=j+1:=⟨k - 1,by omega⟩
   clear hk0
   rw[show(((j+1:Nat)):Int) - 1=(j:Int) by omega]
   obtain⟨i0,hi0⟩:∃ i,i=j+p+2:=⟨_,rfl⟩
   obtain⟨i1,hi1⟩:∃ i,i=j+p+1:=⟨_,rfl⟩
   obtain⟨i2,hi2⟩:∃ i,i=j+p:=⟨_,rfl⟩
   obtain⟨n1,hn1⟩:∃ i,i=p+1:=⟨_,rfl⟩
   have hU:=HU.out
   have hT:=HT.out
   have hNP:=HNP.out
   have hi0U:i0<U:=by omega
   have hi1U:i1<U:=by omega
   have hi2U:i2<U:=by omega
   have hn1n:n1<n:=by omega
   have hpn:p<n:=by omega
   have hI0:(j:Int)+n=(i0:Int):=by omega
   have hI1:(i0:Int) - 1=(i1:Int):=by omega
   have hI2:(i0:Int) - 2=(i2:Int):=by omega
   have hN1:(n:Int) - 1=(n1:Int):=by omega
   have hN2:(n:Int) - 2=(p:Int):=by omega
   have hw0:IntKind.i64.wrap (i0:Int)=i0:=by simp[IntKind.wrap,IntKind.bits,IntKind.signed];omega
   have hw1:IntKind.i64.wrap (i1:Int)=i1:=by simp[IntKind.wrap,IntKind.bits,IntKind.signed];omega
   have hw2:IntKind.i64.wrap (i2:Int)=i2:=by simp[IntKind.wrap,IntKind.bits,IntKind.signed];omega
   have hw3:IntKind.i64.wrap (n1:Int)=n1:=by simp[IntKind.wrap,IntKind.bits,IntKind.signed];omega
   have hw4:IntKind.i64.wrap (p:Int)=p:=by simp[IntKind.wrap,IntKind.bits,IntKind.signed];omega
   obtain⟨c,hc⟩:∃ c,c=ut.getD i0 0:=⟨_,rfl⟩
   obtain⟨b,hb⟩:∃ c,c=ut.getD i1 0:=⟨_,rfl⟩
   obtain⟨a,ha⟩:∃ c,c=ut.getD i2 0:=⟨_,rfl⟩
   obtain⟨v1,hv1⟩:∃ c,c=vs.getD n1 0:=⟨_,rfl⟩
   obtain⟨v2,hv2⟩:∃ c,c=vs.getD p 0:=⟨_,rfl⟩
   have hcl:c<4294967296:=by rw[hc];exact hud.getD _
   have hbl:b<4294967296:=by rw[hb];exact hud.getD _
   have hal:a<4294967296:=by rw[ha];exact hud.getD _
   have hv1l:v1<4294967296:=by rw[hv1];exact hvd.getD _
   have hv2l:v2<4294967296:=by rw[hv2];exact hvd.getD _
   have hv10:0<v1:=by rw[hv1,hn1];exact HV3.out
   obtain⟨ls,ms,cs,vl,ml,hsplit,hlsl,hmsl,hmd,hld,hcd,hcs0,hMV,hcv,hvl,hml,hVd,hMd⟩:=long_rows hud hvd HUL.out (show j+p+3≤U by omega) (by rw[HVL.out];omega) HV.out HLOW.out
   rw[←hi0,←hi1,←hi2,←hc,←hb,←ha] at hMd
   rw[←hn1,←hv1,←hv2] at hVd
   rw[←hi0,←hc,←hn1,←hv1] at hcv
   obtain⟨t,ht⟩:∃ t,t=c*4294967296+b:=⟨_,rfl⟩
   have htl:t<18446744073709551616:=by omega
   have hV0:0<V:=by
    refine Nat.pos_of_ne_zero fun h=>?_
    rw[h] at hMV;exact absurd hMV (Nat.not_lt_zero _)
   obtain⟨q,hq⟩:∃ q,q=val ms / V:=⟨_,rfl⟩
   have hqB:q<4294967296:=by rw[hq];exact Nat.div_lt_of_lt_mul (by rwa [Nat.mul_comm] at hMV)
   have hqd:q≤t / v1:=by rw[ht];exact guess_init hVd hMd hml hal (by rw[hq];exact Nat.div_mul_le_self _ _) hv10
   have hor1:bits .or .u64 (IntKind.u64.wrap ((c:Int)*4294967296)) (b:Int)=(t:Int):=by
    rw[show IntKind.u64.wrap ((c:Int)*4294967296)=(c:Int)*4294967296 by simp[IntKind.wrap,IntKind.bits,IntKind.signed];omega,or_join_hi _ _ (by omega) (by omega) (by omega) (by omega)];omega
   have hwc:IntKind.u64.wrap (c:Int)=c:=by simp[IntKind.wrap,IntKind.bits,IntKind.signed];omega
   have hwb:IntKind.u64.wrap (b:Int)=b:=by simp[IntKind.wrap,IntKind.bits,IntKind.signed];omega
   have hwa:IntKind.u64.wrap (a:Int)=a:=by simp[IntKind.wrap,IntKind.bits,IntKind.signed];omega
   have hwv1:IntKind.u64.wrap (v1:Int)=v1:=by simp[IntKind.wrap,IntKind.bits,IntKind.signed];omega
   have hwv2:IntKind.u64.wrap (v2:Int)=v2:=by simp[IntKind.wrap,IntKind.bits,IntKind.signed];omega
   have hv1n:¬ v1=0:=by omega
   have hdl:t / v1≤t:=Nat.div_le_self _ _
   have hrl:t % v1≤t:=Nat.mod_le _ _
   have htd:Int.tdiv (t:Int) (v1:Int)=((t / v1:Nat):Int):=rfl
   have htm:Int.tmod (t:Int) (v1:Int)=((t % v1:Nat):Int):=rfl
   have hdm:=Nat.div_add_mod t v1
   obtain⟨d0,hd0⟩:∃ d,d=t / v1:=⟨_,rfl⟩
   obtain⟨r0,hr0⟩:∃ d,d=t % v1:=⟨_,rfl⟩
   rw[←hd0] at htd hqd hdl hdm
   rw[←hr0] at htm hrl hdm
   rw[Nat.mul_comm] at hdm
   have hwd0:IntKind.u64.wrap (d0:Int)=d0:=by simp[IntKind.wrap,IntKind.bits,IntKind.signed];omega
   have hwr0:IntKind.u64.wrap (r0:Int)=r0:=by simp[IntKind.wrap,IntKind.bits,IntKind.signed];omega
   have hc0:=hLW.u.cell (i:=i0) (by rw[HUL.out];exact hi0U)
   have hc1:=hLW.u.cell (i:=i1) (by rw[HUL.out];exact hi1U)
   have hc2:=hLW.u.cell (i:=i2) (by rw[HUL.out];exact hi2U)
   have hcv1:=hLW.v.cell (i:=n1) (by rw[HVL.out];omega)
   have hcv2:=hLW.v.cell (i:=p) (by rw[HVL.out];omega)
   rw[←hc] at hc0
   rw[←hb] at hc1
   rw[←ha] at hc2
   rw[←hv1] at hcv1
   rw[←hv2] at hcv2
   have HC:=Lib.hid hc
   have HMD:=Lib.hid hMd
   have HVD:=Lib.hid hVd
   have HMV:=Lib.hid hMV
   have HQ:=Lib.hid hq
   have HTT:=Lib.hid ht
   have HDM:=Lib.hid hdm
   have HSP:=Lib.hid hsplit
   have HLS:=Lib.hid hlsl
   have HMS:=Lib.hid hmsl
   have HCS:=Lib.hid hcs0
   have HI0:=Lib.hid hi0
   have HA:=Lib.hid ha
   have HV1D:=Lib.hid hv1
   have HV2D:=Lib.hid hv2
   clear hc hb ha hv1 hv2 hMd hVd hMV hq ht hd0 hr0 hdm hsplit hlsl hmsl hcs0 hU hT hNP hi0 hi1 hi2 hn1
   go_upto_region 8 with fail
   go_step3
   go_upto_region 8 with fail
   (refine wp_region_all (fun w'=>w'=wr.drew) (by kernel_rfl) (by kernel_rfl) rfl ?_;(repeat (first |(apply wpQuiet_run;(focus rfl);(focus (rintro _ rfl;go_simp;exact rfl));(try simp only[Act.put]);(try simp only[List.setIfInBounds_toArray]);(try simp only[List.set]))|(apply wpQuiet_skip;(focus rfl);(try simp only[Act.put]);(try simp only[List.setIfInBounds_toArray]);(try simp only[List.set]))));refine wpQuiet_nil ?_;rintro _ rfl)
   go_upto_region 9 with fail
   (refine wp_region_all (fun w'=>w'=wr.drew.drew) (by kernel_rfl) (by kernel_rfl) rfl ?_;(repeat (first |(apply wpQuiet_run;(focus rfl);(focus (rintro _ rfl;go_simp;exact rfl));(try simp only[Act.put]);(try simp only[List.setIfInBounds_toArray]);(try simp only[List.set]))|(apply wpQuiet_skip;(focus rfl);(try simp only[Act.put]);(try simp only[List.setIfInBounds_toArray]);(try simp only[List.set]))));refine wpQuiet_nil ?_;rintro _ rfl)
   have hLW2:=hLW.drew.drew
   have hc0':wr.drew.drew.cell? ⟨bu,i0,none⟩=some (.int .u32 (c:Int)):=hc0
   have hc2':wr.drew.drew.cell? ⟨bu,i2,none⟩=some (.int .u32 (a:Int)):=hc2
   have hcv1':wr.drew.drew.cell? ⟨bv,n1,none⟩=some (.int .u32 (v1:Int)):=hcv1
   have hcv2':wr.drew.drew.cell? ⟨bv,p,none⟩=some (.int .u32 (v2:Int)):=hcv2
   generalize wr.drew.drew=wx at *
   clear hc0 hc1 hc2 hcv1 hcv2 hLW wr hor1 hwc hwb htd htm hwd0 hwr0
   go_upto_block 2 with fail
   go_step3
   go_upto_block 2 with fail
   clear hc0' hc2' hcv1' hcv2'
   go_cut [12] (fun v12 wy=>∃ d,v12=.int .u64 ((d:Nat):Int)∧q≤d∧d<4294967296∧d*V<val ms+V∧LW bu w bu ut bv vs bq (List.replicate (j+1) 0 ++ qs) wy)
   case first=>
    as_aux_lemma=>
     go_wp2_with fail
     go_loopw [12,13] (fun v12 v13 wr=>∃ d r,v12=.int .u64 ((d:Nat):Int)∧v13=.int .u64 ((r:Nat):Int)∧q≤d∧d*v1+r=t∧LW bu w bu ut bv vs bq (List.replicate (j+1) 0 ++ qs) wr) (fun v12 _ _=>(intOf v12).toNat)
     case atStart=>exact⟨d0,r0,rfl,rfl,hqd,HDM.out,hLW2⟩
     case round=>
      clear hLW2
      obtain⟨d,r,rfl,rfl,hqd,hdr,hLW⟩:=hrel
      have hdt:d≤t:=by
       have:d*1≤d*v1:=Nat.mul_le_mul_left _ hv10
       omega
      have hrt:r≤t:=by omega
      have HDR:=Lib.hid hdr
      clear hdr
      have hc2:=hLW.u.cell (i:=i2) (by rw[HUL.out];exact hi2U)
      have hcv1:=hLW.v.cell (i:=n1) (by rw[HVL.out];omega)
      have hcv2:=hLW.v.cell (i:=p) (by rw[HVL.out];omega)
      rw[←HA.out] at hc2
      rw[←HV1D.out] at hcv1
      rw[←HV2D.out] at hcv2
      by_cases hrB:r≤4294967295
      ·have hdown:¬ (d≤4294967295∧d*v2≤r*4294967296+a)→q≤d - 1∧1≤d∧(d - 1)*v1+(r+v1)=t:=by
        intro hno
        have hlt:q<d:=by
         by_cases hdB:d≤4294967295
         ·have h1:r*4294967296+a<d*v2:=by
           refine Decidable.by_contra fun h=>hno ⟨hdB,by omega⟩
          have h2:=guess_dec HVD.out HMD.out hml (by rw[HDR.out,HTT.out]) h1
          rw[HQ.out]
          exact Nat.div_lt_of_lt_mul (by rwa [Nat.mul_comm] at h2)
         ·omega
        refine⟨by omega,by omega, ?_⟩
        obtain⟨e,rfl⟩:∃ e,d=e+1:=⟨d - 1,by omega⟩
        have:=HDR.out
        rw[Nat.add_mul,Nat.one_mul] at this
        rw[Nat.add_sub_cancel];omega
       have HDN:=Lib.hid hdown
       clear hdown
       obtain⟨ra,hra⟩:∃ x,x=r*4294967296+a:=⟨_,rfl⟩
       have hor2:bits .or .u64 (IntKind.u64.wrap ((r:Int)*4294967296)) (a:Int)=(ra:Int):=by
        rw[show IntKind.u64.wrap ((r:Int)*4294967296)=(r:Int)*4294967296 by simp[IntKind.wrap,IntKind.bits,IntKind.signed];omega,or_join_hi _ _ (by omega) (by omega) (by omega) (by omega)];omega
       rw[←hra] at HDN
       by_cases hdB:d≤4294967295
       ·have hdBI:(d:Int)≤4294967295:=by omega
        obtain⟨dv,hdv⟩:∃ x,x=d*v2:=⟨_,rfl⟩
        have hdvl:dv≤18446744065119617025:=by rw[hdv];exact Nat.mul_le_mul (show d≤4294967295 by omega) (show v2≤4294967295 by omega)
        have hdvI:(d:Int)*(v2:Int)=(dv:Int):=by rw[hdv];push_cast;rfl
        have hwdv:IntKind.u64.wrap (dv:Int)=dv:=by simp[IntKind.wrap,IntKind.bits,IntKind.signed];omega
        rw[←hdv] at HDN
        have HRA:=Lib.hid hra
        have HDV:=Lib.hid hdv
        clear hra hdv
        by_cases hle:dv≤ra
        ·have hend:=guess_end HVD.out HMD.out hvl hv10 (show d<4294967296 by omega) (by rw[HDR.out,HTT.out]) (by rw[←HDV.out,←HRA.out];exact hle)
         have HEND:=Lib.hid hend
         clear hend
         go_upto_region 11 with fail
         (refine wp_region_all (fun w'=>w'=wr.drew) (by kernel_rfl) (by kernel_rfl) rfl ?_;(repeat (first |(apply wpQuiet_run;(focus rfl);(focus (rintro _ rfl;go_simp;exact rfl));(try simp only[Act.put]);(try simp only[List.setIfInBounds_toArray]);(try simp only[List.set]))|(apply wpQuiet_skip;(focus rfl);(try simp only[Act.put]);(try simp only[List.setIfInBounds_toArray]);(try simp only[List.set]))));refine wpQuiet_nil ?_;rintro _ rfl)
         go_wp2_with fail
         go_meet
         exact⟨d,rfl,hqd,by omega,HEND.out,hLW.drew⟩
        ·obtain⟨e1,e2,e3⟩:=HDN.out (fun h=>hle h.2)
         have HE3:=Lib.hid e3
         clear e3
         go_upto_region 11 with fail
         (refine wp_region_all (fun w'=>w'=wr.drew) (by kernel_rfl) (by kernel_rfl) rfl ?_;(repeat (first |(apply wpQuiet_run;(focus rfl);(focus (rintro _ rfl;go_simp;exact rfl));(try simp only[Act.put]);(try simp only[List.setIfInBounds_toArray]);(try simp only[List.set]))|(apply wpQuiet_skip;(focus rfl);(try simp only[Act.put]);(try simp only[List.setIfInBounds_toArray]);(try simp only[List.set]))));refine wpQuiet_nil ?_;rintro _ rfl)
         have hL':=hLW.drew
         have hcv1':wr.drew.cell? ⟨bv,n1,none⟩=some (.int .u32 (v1:Int)):=hcv1
         generalize wr.drew=wz at *
         clear hcv1 hc2 hcv2 hLW
         go_wp2_with fail
         exact⟨⟨d - 1,r+v1,by go_num,by go_num,e1,HE3.out,hL'⟩,by simp[intOf];omega⟩
       ·have hdBI:¬ (d:Int)≤4294967295:=by omega
        obtain⟨e1,e2,e3⟩:=HDN.out (fun h=>hdB h.1)
        have HE3:=Lib.hid e3
        clear e3
        go_upto_region 11 with fail
        have hdBF:decide ((d:Int)≤4294967295)=false:=by rw[decide_eq_false_iff_not];omega
        (refine wp_region_all (fun w'=>w'=wr.drew) (by kernel_rfl) (by kernel_rfl) rfl ?_;(repeat (first |((with_reducible refine wpQuiet_run0 (v:=?_) ?_ ?_ ?_);rotate_left 1;(focus (with_reducible rfl));(focus (rintro _ rfl;go_simp;exact rfl));(try simp only[Act.put]);(try simp only[List.setIfInBounds_toArray]);(try simp only[List.set]))|((with_reducible refine wpQuiet_skipg (j:=?_) (b:=?_) ?_ ?_ ?_);rotate_left 2;(focus (with_reducible rfl));(focus rfl);(try simp only[Act.put]);(try simp only[List.setIfInBounds_toArray]);(try simp only[List.set]))|((with_reducible refine wpQuiet_rung (v:=?_) (j:=?_) (b:=?_) ?_ ?_ ?_ ?_);rotate_left 3;(focus (with_reducible rfl));(focus rfl);(focus (rintro _ rfl;go_simp;exact rfl));(try simp only[Act.put]);(try simp only[List.setIfInBounds_toArray]);(try simp only[List.set]))));refine wpQuiet_nil ?_;rintro _ rfl)
        have hL':=hLW.drew
        have hcv1':wr.drew.cell? ⟨bv,n1,none⟩=some (.int .u32 (v1:Int)):=hcv1
        generalize wr.drew=wz at *
        clear hcv1 hc2 hcv2 hLW
        go_wp2_with fail
        exact⟨⟨d - 1,r+v1,by go_num,by go_num,e1,HE3.out,hL'⟩,by simp[intOf];omega⟩
      ·have hdB:=guess_small (by rw[HDR.out,HTT.out]:d*v1+r=c*4294967296+b) hbl hcv (by omega)
       have hdv2:d*v2≤4294967295*4294967295:=Nat.mul_le_mul (by omega) (by omega)
       have hend:=guess_end HVD.out HMD.out hvl hv10 hdB (by rw[HDR.out,HTT.out]) (show d*v2≤r*4294967296+a by omega)
       have HEND:=Lib.hid hend
       clear hend hdv2
       go_wp2_with fail
       go_meet
       exact⟨d,rfl,hqd,hdB,HEND.out,hLW⟩
   case rest=>
    as_aux_lemma=>
     clear hLW2
     obtain⟨d,rfl,hqd,hdB,hend,hLW⟩:=hcut
     have HEND:=Lib.hid hend
     have HQD:=Lib.hid hqd
     clear hend hqd
     have hi0n:((i0:Int)+1)≤U:=by omega
     have hji:(j:Int)≤(i0:Int)+1:=by omega
     have hji2:((i0:Int)+1 - j).toNat=n+1:=by omega
     go_upto_region 14 with fail
     go_wp2_with fail
     rw[show i0+1 - j=n+1 by have:=HI0.out;have:=HNP.out;omega]
     have hblk:=hLW.u
     rw[HSP.out] at hblk
     refine(less_any wc bu j n (U - j) bv (n+1) d ls ms cs vs hblk hLW.v HLS.out (by rw[HMS.out,HNP.out]) (by rw[HVL.out];omega) (by omega) hmd hvd hdB hLW.uv).mono ?_
     rintro e w' ⟨zs,c1,rfl,hzb,hzl,hzd,hc1,hzv,hgr⟩
     have hLW3:=hLW.turnU hgr hzb
     rw[show val (vs.take n)=V by rw[HNP.out,HV.out]] at hzv
     have HZV:=Lib.hid hzv
     have HZL:=Lib.hid hzl
     clear hLW hblk hzb hgr hzv hzl
     go_upto_if 125 with fail
     go_cut [12] (fun v12 wy=>∃ zz,v12=.int .u64 ((q:Nat):Int)∧LW bu w bu (ls ++ zz ++ cs) bv vs bq (List.replicate (j+1) 0 ++ qs) wy∧zz.length=n+1∧Digs zz∧val zz=val ms % V)
     case first=>
      as_aux_lemma=>
       by_cases hc0:c1=0
       ·subst hc0
        obtain⟨e1,e2⟩:=digit_low HQD.out HQ.out hV0 (by have:=HZV.out;rw[Nat.mul_zero,Nat.add_zero] at this;exact this)
        have HE1:=Lib.hid e1
        have HE2:=Lib.hid e2
        clear e1 e2
        go_wp2_with fail
        go_meet
        exact⟨zs,by rw[HE1.out],hLW3,HZL.out,hzd,HE2.out⟩
       ·obtain rfl:c1=1:=by omega
        have hzlt:=val_lt hzd
        rw[HZL.out] at hzlt
        obtain⟨e1,e2⟩:=digit_high HQ.out hV0 HEND.out hzlt (by have:=HZV.out;rw[Nat.mul_one] at this;exact this)
        have hVlt:V<4294967296 ^ n:=by
         have:=val_lt (hvd.take n)
         rw[List.length_take,Nat.min_eq_left (by rw[HVL.out];omega)] at this
         rwa [HV.out,←HNP.out]
        have hRlt:val ms % V<4294967296 ^ n:=Nat.lt_trans (Nat.mod_lt _ hV0) hVlt
        have hd1:1≤d:=by omega
        have HE1:=Lib.hid e1
        have HE2:=Lib.hid e2
        have HRL:=Lib.hid hRlt
        clear hzlt hVlt hRlt e1 e2 hc0
        rw[show decide ((0:Nat)<1)=true from rfl]
        go_wp2_with fail
        go_loopw [14,130] (fun v14 v130 wr=>∃ i zz c,i≤n∧v130=.int .i64 (i:Nat)∧v14=.int .u32 (c:Nat)∧c≤1∧zz.length=i∧Digs zz∧LW bu w bu (ls ++ (zz ++ zs.drop i) ++ cs) bv vs bq (List.replicate (j+1) 0 ++ qs) wr ∧
         val zz+4294967296 ^ i*c=val (zs.take i)+val (vs.take i)) (fun _ v130 _=>n - (intOf v130).toNat)
        case atStart=>exact⟨0,[],0,Nat.zero_le _,rfl,rfl,by decide,rfl,.nil,hLW3,by simp[val]⟩
        case round=>
         clear hLW3
         obtain⟨i,zz,c,hi,rfl,rfl,hc,hzz,hdz,hLW,hval⟩:=hrel
         obtain⟨x,hx⟩:∃ x,x=zs.getD i 0:=⟨_,rfl⟩
         have hxl:x<4294967296:=by rw[hx];exact hzd.getD i
         have hlen:(zz ++ zs.drop i).length=n+1:=by rw[List.length_append,List.length_drop,hzz,HZL.out];omega
         have hcu:=hLW.u.cell (i:=j+i) (by rw[List.length_append,List.length_append,hlen,←HLS.out];omega)
         rw[mid3_get _ _ _ _ (by rw[hlen];omega) HLS.out,row_get _ _ hzz,←hx] at hcu
         have hfu:=hLW.u.frozen (j+i)
         have hset:∀ z,(ls ++ (zz ++ zs.drop i) ++ cs).set (j+i) z=ls ++ ((zz ++ [z]) ++ zs.drop (i+1)) ++ cs:=fun z=>by
          rw[mid3_set _ _ _ _ _ (by rw[hlen];omega) HLS.out,row_set _ _ _ hzz (by rw[HZL.out];omega)]
         have HX:=Lib.hid hx
         have HSET:=Lib.hid hset
         have HZZ:=Lib.hid hzz
         have HVA:=Lib.hid hval
         clear hx hset hzz hval hlen
         by_cases hlt:i<n
         ·obtain⟨y,hy⟩:∃ y,y=vs.getD i 0:=⟨_,rfl⟩
          have hyl:y<4294967296:=by rw[hy];exact hvd.getD i
          have hcv:=hLW.v.cell (i:=i) (by rw[HVL.out];omega)
          rw[←hy] at hcv
          obtain⟨s2,hs2⟩:∃ s,s=x+y+c:=⟨_,rfl⟩
          have hst:=back_step HVA.out hs2
          rw[hy,←val_take_succ,HX.out,←val_take_succ,←Nat.pow_succ] at hst
          have hst':val (zz ++ [s2 % 4294967296])+4294967296 ^ (i+1)*(s2 / 4294967296)=val (zs.take (i+1))+val (vs.take (i+1)):=by
           rw[val_snoc,HZZ.out];exact hst
          have hs2I:(x:Int)+y+c=(s2:Int):=by rw[hs2];push_cast;rfl
          have hset:=hLW.setU (j+i) (s2 % 4294967296)
          rw[HSET.out] at hset
          rw[show((s2 % 4294967296:Nat):Int)=(s2:Int) % 4294967296 by omega] at hset
          have HST:=Lib.hid hst'
          have HS2:=Lib.hid hs2I
          have HSE:=Lib.hid hset
          have hji1:(0:Int)≤(j:Int)+i:=by omega
          have hji2:(j:Int)+i<U:=by have:=HU.out;have:=HNP.out;have:=HI0.out;omega
          have hji3:((j:Int)+i).toNat=j+i:=by omega
          have hs2l:s2≤8589934591:=by omega
          clear hst hst' hs2I hs2 hy hset
          go_wp2_with fail
          refine(add32 _ _ _ (by omega) (by omega) (by omega) (by omega) (by omega) (by omega) _).mono ?_
          rintro e w' ⟨rfl,rfl⟩
          rw[HS2.out]
          go_wp2_with fail
          exact⟨⟨i+1,zz ++ [s2 % 4294967296],s2 / 4294967296,hlt,by go_num,by go_num,by omega,by rw[List.length_append,HZZ.out];rfl,hdz.append (.cons (by omega) .nil),HSE.out,HST.out⟩,by simp[intOf];omega⟩
         ·obtain rfl:i=n:=by omega
          have hzs:val zs=val (zs.take i)+4294967296 ^ i*x:=by
           have:=val_take_succ zs i
           rw[List.take_of_length_le (by rw[HZL.out];omega)] at this
           rw[this,HX.out]
          have hzz:=val_lt hdz
          rw[HZZ.out] at hzz
          have hE:=HE2.out
          rw[hzs,Nat.pow_succ] at hE
          have hva:=HVA.out
          rw[show val (vs.take i)=V by rw[HNP.out,HV.out]] at hva
          obtain⟨f1,f2⟩:=back_end hva hE HRL.out hzz
          have hset:=hLW.setU (j+i) 0
          rw[HSET.out,List.drop_of_length_le (by rw[HZL.out];omega),List.append_nil] at hset
          rw[show j+i=i0 by omega] at hset hcu hfu
          have hzv:val (zz ++ [0])=val ms % V:=by rw[val_snoc,Nat.mul_zero,Nat.add_zero,f2]
          have hsum:IntKind.u32.wrap ((x:Int)+c)=0:=by
           rw[show(x:Int)+c=4294967296 by omega];rfl
          have HSE:=Lib.hid hset
          have HZV2:=Lib.hid hzv
          clear hzs hzz hE hva f1 f2 hset hzv
          go_wp2_with fail
          go_meet
          exact⟨zz ++ [0],by rw[HE1.out];go_num,HSE.out,by rw[List.length_append,HZZ.out];rfl,hdz.append (.cons (by decide) .nil),HZV2.out⟩
     case rest=>
      as_aux_lemma=>
       clear hLW3
       obtain⟨zz,rfl,hLW,hzl2,hzd2,hzv2⟩:=hcut
       have hset:=hLW.setQ j q
       have hqs2:(List.replicate (j+1) 0 ++ qs).set j q=List.replicate j 0 ++ (q :: qs):=by
        rw[List.replicate_succ',List.append_assoc,List.set_append_right _ _ (by simp),List.length_replicate,Nat.sub_self];rfl
       rw[hqs2] at hset
       have hcq:=hLW.q.cell (i:=j) (by simp;omega)
       have hfq:=hLW.q.frozen j
       have hval2:val (ls ++ zz ++ cs)+V*(4294967296 ^ j*val (q :: qs))=U0:=by
        have h0:=HVAL.out
        rw[HSP.out,val3 _ _ _ HCS.out,←HLS.out] at h0
        rw[val3 _ _ _ HCS.out,←HLS.out,hzv2,←h0]
        have h1:=Nat.div_add_mod (val ms) V
        rw[←HQ.out] at h1
        exact long_val h1 (by rw[Nat.pow_succ])
       have hlow2:val ((ls ++ zz ++ cs).drop j)<V:=by
        rw[List.append_assoc,List.drop_append_of_le_length (by rw[←HLS.out];exact Nat.le_refl _),List.drop_of_length_le (by rw[←HLS.out];exact Nat.le_refl _),List.nil_append,val_append,HCS.out,Nat.mul_zero,Nat.add_zero,hzv2]
        exact Nat.mod_lt _ hV0
       have hlen2:(ls ++ zz ++ cs).length=U:=by
        have:=HUL.out
        rw[HSP.out,List.length_append,List.length_append,HMS.out] at this
        rw[List.length_append,List.length_append,hzl2,HNP.out];exact this
       have HSET:=Lib.hid hset
       have HVAL2:=Lib.hid hval2
       have HLOW2:=Lib.hid hlow2
       have HLEN2:=Lib.hid hlen2
       clear hset hqs2 hval2 hlow2 hlen2 hzv2 hzl2 hLW
       have hjT:j<T:=hk
       have hjq:(List.replicate (j+1) 0 ++ qs).getD j 0=0:=by
        rw[List.getD_eq_getElem?_getD,List.getElem?_append_left (by simp)];simp
       rw[hjq] at hcq
       clear hjq
       go_wp2_with fail
       rw[Exit.noGoto_normal]
       go_wp2_with fail
       refine⟨⟨j,ls ++ zz ++ cs,q :: qs,by omega,by go_num,HLEN2.out,(hld.append hzd2).append hcd,by rw[List.length_cons,HQL.out];omega,.cons hqB hqdig,HSET.out,HVAL2.out,HLOW2.out⟩,by simp[intOf]⟩
  ·obtain rfl:k=0:=by omega
   have hq0:qs.length=T:=by rw[HQL.out,Nat.sub_zero]
   have hu0:val ut<V:=by have:=HLOW.out;rwa [List.drop_zero] at this
   have hval0:val ut+V*val qs=U0:=by have:=HVAL.out;rwa [Nat.pow_zero,Nat.one_mul] at this
   have hdiv:U0 / V=val qs:=by rw[←hval0,Nat.add_mul_div_left _ _ (by omega),Nat.div_eq_of_lt hu0,Nat.zero_add]
   have hmod:U0 % V=val ut:=by rw[←hval0,Nat.add_mul_mod_self_left,Nat.mod_eq_of_lt hu0]
   have hY:V=val (ys.take (p+2))*2 ^ s:=by rw[HV.out];exact HV1.out
   have hX:U0=val (xs.take k1)*2 ^ s:=by rw[HU0.out];exact HUV.out
   have hqv:val qs=val (xs.take k1) / val (ys.take (p+2)):=by rw[←hdiv,hX,hY,Nat.mul_div_mul_right _ _ (Nat.two_pow_pos s)]
   have huv2:val ut=val (xs.take k1) % val (ys.take (p+2))*2 ^ s:=by rw[←hmod,hX,hY,Nat.mul_mod_mul_right]
   rw[List.replicate_zero,List.nil_append] at hLW
   have HQ0:=Lib.hid hq0
   have HQV:=Lib.hid hqv
   have HUV2:=Lib.hid huv2
   clear hq0 hu0 hval0 hdiv hmod hY hX hqv huv2 hk0
   rw[show((0:Nat):Int) - 1=-1 from rfl]
   go_wp2_with fail
   go_loopw [168] (fun v168 wy=>∃ i uu,i≤s∧v168=.int .i64 (i:Nat)∧uu.length=U∧Digs uu∧LW bu w bu uu bv vs bq qs wy∧val uu=val (xs.take k1) % val (ys.take (p+2))*2 ^ (s - i)) (fun v168 _=>s - (intOf v168).toNat)
   case atStart=>exact⟨0,ut,Nat.zero_le _,rfl,HUL.out,hud,hLW,HUV2.out⟩
   case round=>
    clear hLW HUV2 HUL hud
    obtain⟨i,uu,hi,rfl,hul,hud,hLW,hval⟩:=hrel
    have HVAL:=Lib.hid hval
    have HUL:=Lib.hid hul
    clear hval hul
    by_cases hlt:i<s
    ·go_wp2_with fail
     refine(half_any _ bu U U uu hLW.u hud HUL.out.symm (by have:=HU.out;omega)).mono ?_
     rintro e w' ⟨zs,rfl,hzb,hzl,hzd,hzv,hgr⟩
     have hLW2:=hLW.turnU hgr hzb
     have hv2:val zs=val (xs.take k1) % val (ys.take (p+2))*2 ^ (s - (i+1)):=by
      rw[hzv,HVAL.out,show s - i=(s - (i+1))+1 by omega,Nat.pow_succ,←Nat.mul_assoc,Nat.mul_div_cancel _ (by decide)]
     have HV2:=Lib.hid hv2
     have HZL:=Lib.hid hzl
     clear hv2 hzl hzv hgr hzb hLW
     go_wp2_with fail
     exact⟨⟨i+1,zs,hlt,by go_num,HZL.out,hzd,hLW2,HV2.out⟩,by simp[intOf];omega⟩
    ·obtain rfl:i=s:=by omega
     have hv2:val uu=val (xs.take k1) % val (ys.take (p+2)):=by rw[HVAL.out,Nat.sub_self,Nat.pow_zero,Nat.mul_one]
     have HV2:=Lib.hid hv2
     clear hv2
     go_wp2_with fail
     exact bodyPost_ret (v:=.tuple #[.slice (some ⟨bq,0,none⟩) T T,.slice (some ⟨bu,0,none⟩) U U]) (by simp[results,Tryz.results168,go_sem]) rfl
      ⟨bu,uu,bq,qs,T,rfl,hLW.u,hLW.q,HUL.out,HQ0.out,by have:=HT.out;have:=HU.out;omega,hud,hqdig,by rw[HNP.out];exact HQV.out,by rw[HNP.out];exact HV2.out,by have:=hLW.i.bel;rwa [HBU.out] at this⟩
end Gus
end
