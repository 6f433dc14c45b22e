/- Proved here: parts of the proof: KSrj. Conditions: those that each theorem states. -/
import Derived.Test.YthblojaeoiemmaaGreatDoorKSrlQ
section
namespace Gus
open Go Go.RowKit Go.Proofs
set_option maxRecDepth 100000 in
set_option maxHeartbeats 16000000 in
def extend21_any_q1:{P:Prop // P→∀ (w:World) (N:Nat) (_:N<256) (la:Option Addr) (lc:Nat) (l:List TQ) (_:TAt w la l) (_:TOk l) (_:l.length≤maxLen) (ka:Option Addr) (kc:Nat) (ks:List Nat) (_:U8At w ka ks) (_:∀ i,ks.getD i 0<256) (_:ks.length≤maxLen) (z:Int) (_:0≤z∧z<256) (ba ya:Option Addr) (bc yc:Nat) (qb qy:List (Int×Int)) (_:QAt w ba qb) (_:QAt w ya qy) (_:QOk qb) (_:QOk qy) (_:qb.length≤maxLen) (_:qy.length≤maxLen),Calls Tryz.prog 5 #[.agg #[.int .u8 N,.slice la l.length lc],.slice ka ks.length kc,.int .u8 z,.slice ba qb.length bc,.slice ya qy.length yc] w fun e w'=>e=.returned (.bool true)∧Below w.heap.size w w'}:=⟨_,fun Kcut=>by
 replace Kcut:Keep _:=⟨Kcut⟩
 intro w N hN la lc l hl hok hL ka kc ks hk hk8 hLk z hz ba ya bc yc qb qy hqb hqy hob hoy hLb hLy
 have cz:=works21_any
 have hin:=In.self w
 obtain⟨a,rfl⟩:=Int.eq_ofNat_of_zero_le hz.1
 have ha8:a<256:=by omega
 clear hz
 obtain⟨sm,hsm⟩:∃ sm,sm=small21 l.length ks.length [qb.length,qy.length]:=⟨_,rfl⟩
 obtain⟨n,hn⟩:∃ n,n=N % (6+1):=⟨_,rfl⟩
 have hn6:n≤6:=by omega
 have HN:=Lib.hid hn
 clear hn
 go_enter Tryz.func5,Tryz.ntmps5
 go_upto_region 1 with fail
 ((obtain⟨S0,hS0⟩:∃ z,z=w.heap.size:=⟨_,rfl⟩);(have bS0:=Bx.new_at w #[.int .u8 N,.slice la l.length lc] 51 hS0);(replace hin:=hin.alloc (.cells #[.int .u8 N,.slice la l.length lc] 51));(replace hl:=hl.call ((Below.refl _ _).alloc (Nat.le_refl _) (.cells #[.int .u8 N,.slice la l.length lc] 51)));(replace hk:=hk.call ((Below.refl _ _).alloc (Nat.le_refl _) (.cells #[.int .u8 N,.slice la l.length lc] 51)));(replace hqb:=hqb.call ((Below.refl _ _).alloc (Nat.le_refl _) (.cells #[.int .u8 N,.slice la l.length lc] 51)));(replace hqy:=hqy.call ((Below.refl _ _).alloc (Nat.le_refl _) (.cells #[.int .u8 N,.slice la l.length lc] 51)));(rw[←hS0]);clear hS0;(generalize w.alloc (.cells #[.int .u8 N,.slice la l.length lc] 51)=W1 at *))
 (have s0:=bS0.c0;have s1:=bS0.c1;have sl:=bS0.lt)
 go_wp2_with fail
 ((obtain⟨V,hV⟩:∃ z,z=W1.heap.size:=⟨_,rfl⟩);(have bV:=Bx.new_at W1 #[.slice ba qb.length bc,.slice ya qy.length yc] 23 hV);clear s0 s1 sl;(replace hin:=hin.alloc (.cells #[.slice ba qb.length bc,.slice ya qy.length yc] 23));(replace bS0:=bS0.alloc (.cells #[.slice ba qb.length bc,.slice ya qy.length yc] 23));(replace hl:=hl.call ((Below.refl _ _).alloc (Nat.le_refl _) (.cells #[.slice ba qb.length bc,.slice ya qy.length yc] 23)));(replace hk:=hk.call ((Below.refl _ _).alloc (Nat.le_refl _) (.cells #[.slice ba qb.length bc,.slice ya qy.length yc] 23)));(replace hqb:=hqb.call ((Below.refl _ _).alloc (Nat.le_refl _) (.cells #[.slice ba qb.length bc,.slice ya qy.length yc] 23)));(replace hqy:=hqy.call ((Below.refl _ _).alloc (Nat.le_refl _) (.cells #[.slice ba qb.length bc,.slice ya qy.length yc] 23)));(rw[←hV]);clear hV;(generalize W1.alloc (.cells #[.slice ba qb.length bc,.slice ya qy.length yc] 23)=W2 at *))
 have c0:=small21_any W2 N la l.length lc ka ks.length kc (some ⟨V,0,none⟩) 2 [qb.length,qy.length] (ln_two bV) (by simp)
 rw[←hsm,show[qb.length,qy.length].length=2 from rfl] at c0
 have HSM:=Lib.hid hsm
 clear hsm
 ((((with_reducible refine(c0).mono ?_)));rintro e wc3 ⟨rfl,hb⟩;clear c0 bV;replace hin:=hin.call hb;replace hl:=hl.call hb;replace hk:=hk.call hb;replace hqb:=hqb.call hb;replace hqy:=hqy.call hb;replace bS0:=bS0.call hb;clear hb)
 rcases sm with _ | _
 ·clear Kcut
  (go_wp2_with fail;(((with_reducible refine(cz _).mono ?_)));rintro e wc4 ⟨rfl,hb⟩;replace hin:=hin.call hb;replace hl:=hl.call hb;replace hk:=hk.call hb;replace hqb:=hqb.call hb;replace hqy:=hqy.call hb;replace bS0:=bS0.call hb;clear hb)
  go_wp2_with fail
  go_ret
  exact⟨rfl,hin.bel⟩
 ·skip
  obtain⟨hbn,hyn,h40,h12⟩:=small21_2 HSM.out.symm
  clear HSM hL hLk hLb hLy
  rename_i yx10_ yx11_ yx12_ yx13_ yx14_ yx15_ yx16_
  revert w N hN la lc l hok ka kc ks hk8 ba ya bc yc qb qy hob hoy cz a ha8 n hn6 HN yx10_ yx11_ yx12_ yx13_ yx14_ S0 W1 yx15_ yx16_ V W2 wc3 hin hl hk hqb hqy bS0 hbn hyn h40 h12
  exact Kcut.out
 ⟩
set_option maxRecDepth 100000 in
set_option maxHeartbeats 16000000 in
def extend21_any_q2:{P:Prop // P→extend21_any_q1.1}:=⟨_,fun Kcut=>by
 replace Kcut:Keep _:=⟨Kcut⟩
 intro w N hN la lc l hok ka kc ks hk8 ba ya bc yc qb qy hob hoy cz a ha8 n hn6 HN yx10_ yx11_ yx12_ yx13_ yx14_ S0 W1 yx15_ yx16_ V W2 wc3 hin hl hk hqb hqy bS0 hbn hyn h40 h12
 have c1:=raw_any (j:=64) wc3 N n 6 la lc l hl hok (by omega) hN (by decide) HN.out (tok_sz64 hok) (by decide) (by decide)
 rw[show((6:Nat):Int)=6 from rfl] at c1
 have hMz:Mz n n 2601 (rawM n l):=raw_mz (tok_sz64 hok) h40
 obtain⟨M,hM⟩:∃ M,M=rawM n l:=⟨_,rfl⟩
 rw[←hM] at c1 hMz
 have HMZ:=Lib.hid hMz
 clear hM hMz h40 hok hN HN
 (have s0:=bS0.c0;have s1:=bS0.c1;have sl:=bS0.lt)
 (go_wp2_with fail;(((with_reducible refine(c1).mono ?_)));(rintro e wc4 ⟨⟨sv,rfl,hS⟩,hb⟩);clear s0 s1 sl c1 bS0 hl;replace hin:=hin.call hb;replace hk:=hk.call hb;replace hqb:=hqb.call hb;replace hqy:=hqy.call hb;clear hb)
 obtain⟨ra,rk,rfl⟩:=hS.shape
 go_upto_region 4 with fail
 ((obtain⟨Sb,hSb⟩:∃ z,z=wc4.heap.size:=⟨_,rfl⟩);(have bSb:=Bx.new_at wc4 #[.int .i64 n,.int .i64 n,.slice ra n rk] 27 hSb);(replace hin:=hin.alloc (.cells #[.int .i64 n,.int .i64 n,.slice ra n rk] 27));(replace hk:=hk.call ((Below.refl _ _).alloc (Nat.le_refl _) (.cells #[.int .i64 n,.int .i64 n,.slice ra n rk] 27)));(replace hqb:=hqb.call ((Below.refl _ _).alloc (Nat.le_refl _) (.cells #[.int .i64 n,.int .i64 n,.slice ra n rk] 27)));(replace hqy:=hqy.call ((Below.refl _ _).alloc (Nat.le_refl _) (.cells #[.int .i64 n,.int .i64 n,.slice ra n rk] 27)));(replace hS:=hS.call ((Below.refl _ _).alloc (Nat.le_refl _) (.cells #[.int .i64 n,.int .i64 n,.slice ra n rk] 27)));(rw[←hSb]);clear hSb;(generalize wc4.alloc (.cells #[.int .i64 n,.int .i64 n,.slice ra n rk] 27)=wS at *))
 rename_i yx20_ yx21_
 revert w N la lc l ka kc ks hk8 ba ya bc yc qb qy hob hoy cz a ha8 n hn6 yx10_ S0 W1 V W2 wc3 hbn hyn h12 M HMZ wc4 ra rk yx20_ yx21_ Sb wS bSb hin hk hqb hqy hS
 exact Kcut.out
 ⟩
set_option maxRecDepth 100000 in
set_option maxHeartbeats 16000000 in
def extend21_any_q3:{P:Prop // P→extend21_any_q2.1}:=⟨_,fun Kcut=>by
 replace Kcut:Keep _:=⟨Kcut⟩
 intro w N la lc l ka kc ks hk8 ba ya bc yc qb qy hob hoy cz a ha8 n hn6 yx10_ S0 W1 V W2 wc3 hbn hyn h12 M HMZ wc4 ra rk yx20_ yx21_ Sb wS bSb hin hk hqb hqy hS
 obtain⟨t,ht⟩:∃ t,t=a % (n+1):=⟨_,rfl⟩
 have htn:t≤n:=by have:=Nat.mod_lt a (show 0<n+1 by omega);omega
 have c2:=lcut_any wS n ka kc ks hk hk8 (by omega) a 0 ha8 (by decide) t t ht (by rw[Nat.zero_mod];rfl)
 rw[show((0:Nat):Int)=0 from rfl] at c2
 obtain⟨ii,hii⟩:∃ ii,ii=(permK ks n).take t:=⟨_,rfl⟩
 have hgr:Grp n ii:=by rw[hii];have:=cut_groups ks n t t (Nat.le_refl t);exact⟨this.1,this.2.1⟩
 rw[←hii] at c2
 clear hii ht htn hk8 ha8 h12
 (have y0:=bSb.c0;have y1:=bSb.c1;have y2:=bSb.c2;have yl:=bSb.lt)
 (go_wp2_with fail;(((with_reducible refine(c2).mono ?_)));(rintro e wc6 ⟨⟨v1,v2,v3,rfl,hg1,hg2,hg3⟩,hb⟩);clear y0 y1 y2 yl c2 hk;replace hin:=hin.call hb;replace hqb:=hqb.call hb;replace hqy:=hqy.call hb;replace hS:=hS.call hb;replace bSb:=bSb.call hb;clear hb)
 obtain⟨a2,k2,rfl⟩:=hg2.shape
 clear hg2
 obtain⟨a1,k1,rfl⟩:=hg1.shape
 obtain⟨a3,k3,rfl⟩:=hg3.shape
 have hlen:=hgr.split.len
 have HLEN:=Lib.hid hlen
 obtain⟨A,hA⟩:∃ A,A=ii.length:=⟨_,rfl⟩
 obtain⟨O,hO⟩:∃ O,O=(outer n ii).length:=⟨_,rfl⟩
 rw[←hA] at hg1 ⊢
 rw[←hO] at hg3 ⊢
 rw[←hA,←hO] at hlen
 have HA:=Lib.hid hA
 have HO:=Lib.hid hO
 have HGR:=Lib.hid hgr
 clear hA hO hgr
 rename_i yx30_ yx31_
 revert w N la lc l ka kc ks ba ya bc yc qb qy hob hoy cz a n hn6 yx10_ S0 W1 V W2 wc3 hbn hyn M HMZ wc4 ra rk yx20_ yx21_ Sb wS t ii yx30_ yx31_ wc6 hin hqb hqy hS bSb a2 k2 a1 k1 a3 k3 HLEN A hg1 O hlen hg3 HA HO HGR
 exact Kcut.out
 ⟩
set_option maxRecDepth 100000 in
set_option maxHeartbeats 16000000 in
def extend21_any_q4:{P:Prop // P→extend21_any_q3.1}:=⟨_,fun Kcut=>by
 replace Kcut:Keep _:=⟨Kcut⟩
 intro w N la lc l ka kc ks ba ya bc yc qb qy hob hoy cz a n hn6 yx10_ S0 W1 V W2 wc3 hbn hyn M HMZ wc4 ra rk yx20_ yx21_ Sb wS t ii yx30_ yx31_ wc6 hin hqb hqy hS bSb a2 k2 a1 k1 a3 k3 HLEN A hg1 O hlen hg3 HA HO HGR
 have cv1:=lvec_any wc6 ba bc n qb hqb hob (by omega) (by omega)
 (have y0:=bSb.c0;have y1:=bSb.c1;have y2:=bSb.c2;have yl:=bSb.lt)
 (go_wp2_with fail;(((with_reducible refine(cv1).mono ?_)));(rintro e wc7 ⟨⟨d,rfl,hvb⟩,hb⟩);clear y0 y1 y2 yl cv1 hqb;replace hin:=hin.call hb;replace hqy:=hqy.call hb;replace hS:=hS.call hb;replace hg1:=hg1.call hb;replace hg3:=hg3.call hb;replace bSb:=bSb.call hb;clear hb)
 obtain⟨va,vk,hve⟩:=hvb.shape
 rw[mList_length] at hve
 subst hve
 replace hvb:VecAt wc7 (.slice va n vk) (vl n (mEl qb)):=hvb
 have cv2:=lvec_any wc7 ya yc O qy hqy hoy (by omega) (by omega)
 (go_wp2_with fail;(((with_reducible refine(cv2).mono ?_)));(rintro e wc8 ⟨⟨d,rfl,hvy⟩,hb⟩);clear cv2 hqy;replace hin:=hin.call hb;replace hS:=hS.call hb;replace hg1:=hg1.call hb;replace hg3:=hg3.call hb;replace hvb:=hvb.call hb;replace bSb:=bSb.call hb;clear hb)
 obtain⟨wa,wk,hwe⟩:=hvy.shape
 rw[mList_length] at hwe
 subst hwe
 replace hvy:VecAt wc8 (.slice wa O wk) (vl O (mEl qy)):=hvy
 rename_i yx40_ yx41_ yx42_ yx43_
 revert w N la lc l ka kc ks ba ya bc yc qb qy hob hoy cz a n hn6 yx10_ S0 W1 V W2 wc3 hbn hyn M HMZ wc4 ra rk Sb wS t ii wc6 a2 k2 a1 k1 a3 k3 HLEN A O hlen HA HO HGR yx40_ yx41_ wc7 va vk yx42_ yx43_ wc8 hin hS hg1 hg3 hvb bSb wa wk hvy
 exact Kcut.out
 ⟩
set_option maxRecDepth 100000 in
set_option maxHeartbeats 16000000 in
def extend21_any_q5:{P:Prop // P→extend21_any_q4.1}:=⟨_,fun Kcut=>by
 replace Kcut:Keep _:=⟨Kcut⟩
 intro w N la lc l ka kc ks ba ya bc yc qb qy hob hoy cz a n hn6 yx10_ S0 W1 V W2 wc3 hbn hyn M HMZ wc4 ra rk Sb wS t ii wc6 a2 k2 a1 k1 a3 k3 HLEN A O hlen HA HO HGR yx40_ yx41_ wc7 va vk yx42_ yx43_ wc8 hin hS hg1 hg3 hvb bSb wa wk hvy
 have hzb:Vz n 2601 (mEl qb):=fun i _=>(mEl_sz64 hob i).mono (by decide)
 have hzy:Vz (outer n ii).length 2601 (mEl qy):=fun i _=>(mEl_sz64 hoy i).mono (by decide)
 have hA6:ii.length<7:=by rw[←HA.out];omega
 have hO6:(outer n ii).length<7:=by rw[←HO.out];omega
 have c3:=sextend_ok (z:=2601) (yz:=2601) wc8 (.agg #[.int .i64 n,.int .i64 n,.slice ra n rk]) (.slice a1 A k1) (.slice va n vk) (.slice wa O wk) n ii M (mEl qb) (mEl qy) hvb hzb (by rw[←HO.out];exact hvy) (by decide) hzy hS hg1 HGR.out (by omega) (by decide) HMZ.out (c_p5 _ hA6) (fun _=>Nat.lt_trans (c_gz _ hA6) (by decide)) (Nat.lt_trans (c_ez _ hA6 _ hO6) (by decide)) (c_ez2 _ hO6)
 have hXz:=extV_szk hn6 HGR.out HMZ.out hzb hzy
 have HXZ:=Lib.hid hXz
 clear hzb hzy hA6 hO6 hXz
 (have y0:=bSb.c0;have y1:=bSb.c1;have y2:=bSb.c2;have yl:=bSb.lt)
 (go_wp2_with fail;(((with_reducible refine(c3).mono ?_)));(rintro e wc9 ⟨hI,hb⟩);clear y0 y1 y2 yl c3;replace hin:=hin.call hb;replace hS:=hS.call hb;replace hg1:=hg1.call hb;replace hg3:=hg3.call hb;replace hvb:=hvb.call hb;replace hvy:=hvy.call hb;replace bSb:=bSb.call hb;clear hb)
 rename_i yx50_ yx51_ yx52_ yx53_
 revert w N la lc l ka kc ks ba ya bc yc qb qy hob hoy cz a n hn6 yx10_ S0 W1 V W2 wc3 hbn hyn M HMZ wc4 ra rk Sb wS t ii wc6 a2 k2 a1 k1 a3 k3 HLEN A O hlen HA HO HGR wc7 va vk wc8 wa wk HXZ yx50_ yx51_ yx52_ yx53_ e wc9 hI hin hS hg1 hg3 hvb hvy bSb
 exact Kcut.out
 ⟩
set_option maxRecDepth 100000 in
set_option maxHeartbeats 16000000 in
def extend21_any_q6:{P:Prop // P→extend21_any_q5.1}:=⟨_,fun Kcut=>by
 replace Kcut:Keep _:=⟨Kcut⟩
 intro w N la lc l ka kc ks ba ya bc yc qb qy hob hoy cz a n hn6 yx10_ S0 W1 V W2 wc3 hbn hyn M HMZ wc4 ra rk Sb wS t ii wc6 a2 k2 a1 k1 a3 k3 HLEN A O hlen HA HO HGR wc7 va vk wc8 wa wk HXZ yx50_ yx51_ yx52_ yx53_ e wc9 hI hin hS hg1 hg3 hvb hvy bSb
 replace hI:=hI.symm
 rcases hI with ⟨hns,rfl⟩|⟨hns,d,rfl,hx⟩
 ·clear Kcut
  (have y0:=bSb.c0;have y1:=bSb.c1;have y2:=bSb.c2;have yl:=bSb.lt)
  have c4:=ldense_any wc9 (.agg #[.int .i64 n,.int .i64 n,.slice ra n rk]) n M hS (by omega)
  (go_wp2_with fail;(((with_reducible refine(c4).mono ?_)));(rintro e wc10 ⟨⟨dd,rfl,hd⟩,hb⟩);clear y0 y1 y2 yl c4;replace hin:=hin.call hb;replace hS:=hS.call hb;replace hg1:=hg1.call hb;replace hg3:=hg3.call hb;replace hvb:=hvb.call hb;replace hvy:=hvy.call hb;replace bSb:=bSb.call hb;clear hb)
  have c5:=lblock_any wc10 _ n M hd (by omega) (.slice a1 A k1) (.slice a1 A k1) ii ii hg1 hg1 HGR.out.2 HGR.out.2 (by rw[←HA.out];omega) (by rw[←HA.out];omega)
  (go_wp2_with fail;(((with_reducible refine(c5).mono ?_)));(rintro e wc11 ⟨⟨db,rfl,hdb⟩,hb⟩);clear c5;replace hin:=hin.call hb;replace hS:=hS.call hb;replace hg1:=hg1.call hb;replace hg3:=hg3.call hb;replace hvb:=hvb.call hb;replace hvy:=hvy.call hb;replace hd:=hd.call hb;replace bSb:=bSb.call hb;clear hb)
  have c6:=einverse_any (z:=2601) wc11 db ii.length (sub M ii ii) hdb (by rw[←HA.out];omega) (by decide) (sub_szk HMZ.out HGR.out.2 HGR.out.2) (c_p5 _ (by rw[←HA.out];omega))
  (go_wp2_with fail;(((with_reducible refine(c6).mono ?_)));(rintro e wc12 ⟨hI2,hb⟩);clear c6 hdb;replace hin:=hin.call hb;replace hS:=hS.call hb;replace hg1:=hg1.call hb;replace hg3:=hg3.call hb;replace hvb:=hvb.call hb;replace hvy:=hvy.call hb;replace hd:=hd.call hb;replace bSb:=bSb.call hb;clear hb)
  rcases hI2 with ⟨hn2,_⟩|⟨hn2,rfl⟩
  ·exact absurd hn2 hns
  ·go_upto_region 8 with fail
   ((obtain⟨I,hI⟩:∃ z,z=wc12.heap.size:=⟨_,rfl⟩);(have bI:=Bx.new_at wc12 #[.int .i64 0,.int .i64 0,.slice none 0 0] 37 hI);(replace hin:=hin.alloc (.cells #[.int .i64 0,.int .i64 0,.slice none 0 0] 37));(replace bSb:=bSb.alloc (.cells #[.int .i64 0,.int .i64 0,.slice none 0 0] 37));(replace hS:=hS.call ((Below.refl _ _).alloc (Nat.le_refl _) (.cells #[.int .i64 0,.int .i64 0,.slice none 0 0] 37)));(replace hg1:=hg1.call ((Below.refl _ _).alloc (Nat.le_refl _) (.cells #[.int .i64 0,.int .i64 0,.slice none 0 0] 37)));(replace hg3:=hg3.call ((Below.refl _ _).alloc (Nat.le_refl _) (.cells #[.int .i64 0,.int .i64 0,.slice none 0 0] 37)));(replace hvb:=hvb.call ((Below.refl _ _).alloc (Nat.le_refl _) (.cells #[.int .i64 0,.int .i64 0,.slice none 0 0] 37)));(replace hvy:=hvy.call ((Below.refl _ _).alloc (Nat.le_refl _) (.cells #[.int .i64 0,.int .i64 0,.slice none 0 0] 37)));(replace hd:=hd.call ((Below.refl _ _).alloc (Nat.le_refl _) (.cells #[.int .i64 0,.int .i64 0,.slice none 0 0] 37)));(rw[←hI]);clear hI;(generalize wc12.alloc (.cells #[.int .i64 0,.int .i64 0,.slice none 0 0] 37)=W13 at *))
   clear hns hn2
   (go_wp2_with fail;(((with_reducible refine(cz _).mono ?_)));rintro e wc14 ⟨rfl,hb⟩;replace hin:=hin.call hb;replace hS:=hS.call hb;replace hg1:=hg1.call hb;replace hg3:=hg3.call hb;replace hvb:=hvb.call hb;replace hvy:=hvy.call hb;replace hd:=hd.call hb;replace bSb:=bSb.call hb;replace bI:=bI.call hb;clear hb)
   go_wp2_with fail
   go_ret
   exact⟨rfl,hin.bel⟩
 ·skip
  obtain⟨xa,xk,hxe⟩:=hx.shape
  rw[vl_length] at hxe
  subst hxe
  replace hx:VecAt wc9 (.slice xa n xk) (vl n (extV n ii M (mEl qb) (mEl qy))):=hx
  (have y0:=bSb.c0;have y1:=bSb.c1;have y2:=bSb.c2;have yl:=bSb.lt)
  have c4:=ldense_any wc9 (.agg #[.int .i64 n,.int .i64 n,.slice ra n rk]) n M hS (by omega)
  (go_wp2_with fail;(((with_reducible refine(c4).mono ?_)));(rintro e wc10 ⟨⟨dd,rfl,hd⟩,hb⟩);clear y0 y1 y2 yl c4;replace hin:=hin.call hb;replace hS:=hS.call hb;replace hg1:=hg1.call hb;replace hg3:=hg3.call hb;replace hvb:=hvb.call hb;replace hvy:=hvy.call hb;replace hx:=hx.call hb;replace bSb:=bSb.call hb;clear hb)
  have c5:=lblock_any wc10 _ n M hd (by omega) (.slice a1 A k1) (.slice a1 A k1) ii ii hg1 hg1 HGR.out.2 HGR.out.2 (by rw[←HA.out];omega) (by rw[←HA.out];omega)
  (go_wp2_with fail;(((with_reducible refine(c5).mono ?_)));(rintro e wc11 ⟨⟨db,rfl,hdb⟩,hb⟩);clear c5;replace hin:=hin.call hb;replace hS:=hS.call hb;replace hg1:=hg1.call hb;replace hg3:=hg3.call hb;replace hvb:=hvb.call hb;replace hvy:=hvy.call hb;replace hx:=hx.call hb;replace hd:=hd.call hb;replace bSb:=bSb.call hb;clear hb)
  have c6:=einverse_any (z:=2601) wc11 db ii.length (sub M ii ii) hdb (by rw[←HA.out];omega) (by decide) (sub_szk HMZ.out HGR.out.2 HGR.out.2) (c_p5 _ (by rw[←HA.out];omega))
  (go_wp2_with fail;(((with_reducible refine(c6).mono ?_)));(rintro e wc12 ⟨hI2,hb⟩);clear c6 hdb;replace hin:=hin.call hb;replace hS:=hS.call hb;replace hg1:=hg1.call hb;replace hg3:=hg3.call hb;replace hvb:=hvb.call hb;replace hvy:=hvy.call hb;replace hx:=hx.call hb;replace hd:=hd.call hb;replace bSb:=bSb.call hb;clear hb)
  replace hI2:=hI2.symm
  rcases hI2 with ⟨hn2,_⟩|⟨hn2,di,rfl,hdi⟩
  ·exact absurd hns hn2
  ·obtain⟨gi,Ni,hNi,rfl,hbi⟩:=hdi
   rw[←HA.out]
   clear hbi hNi hn2
   go_upto_region 8 with fail
   ((obtain⟨I,hI⟩:∃ z,z=wc12.heap.size:=⟨_,rfl⟩);(have bI:=Bx.new_at wc12 #[.int .i64 A,.int .i64 A,.slice (some ⟨gi,0,none⟩) Ni Ni] 37 hI);(replace hin:=hin.alloc (.cells #[.int .i64 A,.int .i64 A,.slice (some ⟨gi,0,none⟩) Ni Ni] 37));(replace bSb:=bSb.alloc (.cells #[.int .i64 A,.int .i64 A,.slice (some ⟨gi,0,none⟩) Ni Ni] 37));(replace hS:=hS.call ((Below.refl _ _).alloc (Nat.le_refl _) (.cells #[.int .i64 A,.int .i64 A,.slice (some ⟨gi,0,none⟩) Ni Ni] 37)));(replace hg1:=hg1.call ((Below.refl _ _).alloc (Nat.le_refl _) (.cells #[.int .i64 A,.int .i64 A,.slice (some ⟨gi,0,none⟩) Ni Ni] 37)));(replace hg3:=hg3.call ((Below.refl _ _).alloc (Nat.le_refl _) (.cells #[.int .i64 A,.int .i64 A,.slice (some ⟨gi,0,none⟩) Ni Ni] 37)));(replace hvb:=hvb.call ((Below.refl _ _).alloc (Nat.le_refl _) (.cells #[.int .i64 A,.int .i64 A,.slice (some ⟨gi,0,none⟩) Ni Ni] 37)));(replace hvy:=hvy.call ((Below.refl _ _).alloc (Nat.le_refl _) (.cells #[.int .i64 A,.int .i64 A,.slice (some ⟨gi,0,none⟩) Ni Ni] 37)));(replace hx:=hx.call ((Below.refl _ _).alloc (Nat.le_refl _) (.cells #[.int .i64 A,.int .i64 A,.slice (some ⟨gi,0,none⟩) Ni Ni] 37)));(replace hd:=hd.call ((Below.refl _ _).alloc (Nat.le_refl _) (.cells #[.int .i64 A,.int .i64 A,.slice (some ⟨gi,0,none⟩) Ni Ni] 37)));(rw[←hI]);clear hI;(generalize wc12.alloc (.cells #[.int .i64 A,.int .i64 A,.slice (some ⟨gi,0,none⟩) Ni Ni] 37)=W13 at *))
   have HNS:=Lib.hid hns
   clear hns
   rename_i yx60_ yx61_ yx62_ yx63_
   revert w N la lc l ka kc ks ba ya bc yc qb qy hob hoy cz a n hn6 yx10_ S0 W1 V W2 wc3 hbn hyn M HMZ wc4 ra rk Sb wS t ii wc6 a2 k2 a1 k1 a3 k3 HLEN A O hlen HA HO HGR wc7 va vk wc8 wa wk HXZ wc9 xa xk wc10 dd wc11 db wc12 gi Ni yx60_ yx61_ yx62_ yx63_ I W13 bI hin bSb hS hg1 hg3 hvb hvy hx hd HNS
   exact Kcut.out
 ⟩
set_option maxRecDepth 100000 in
set_option maxHeartbeats 16000000 in
theorem extend21_any_q7:extend21_any_q6.1:=by
 intro w N la lc l ka kc ks ba ya bc yc qb qy hob hoy cz a n hn6 yx10_ S0 W1 V W2 wc3 hbn hyn M HMZ wc4 ra rk Sb wS t ii wc6 a2 k2 a1 k1 a3 k3 HLEN A O hlen HA HO HGR wc7 va vk wc8 wa wk HXZ wc9 xa xk wc10 dd wc11 db wc12 gi Ni yx60_ yx61_ yx62_ yx63_ I W13 bI hin bSb hS hg1 hg3 hvb hvy hx hd HNS
 have hnn:n*n≤6*6:=Nat.mul_le_mul hn6 hn6
 have c7:=sapp_vl (j:=2601) (l:=1000000000) W13 (.agg #[.int .i64 n,.int .i64 n,.slice ra n rk]) (.slice xa n xk) M (extV n ii M (mEl qb) (mEl qy)) hS hx (by omega) (fun i k hi hk=>HMZ.out i k hi hk) HXZ.out (by decide) (by decide) (by omega)
 clear hnn
 (have y0:=bSb.c0;have y1:=bSb.c1;have y2:=bSb.c2;have yl:=bSb.lt)
 (go_wp2_with fail;(((with_reducible refine(c7).mono ?_)));(rintro e w7 ⟨⟨d2,rfl,hm⟩,hb⟩);clear y0 y1 y2 yl c7;replace hin:=hin.call hb;replace hS:=hS.call hb;replace hg1:=hg1.call hb;replace hg3:=hg3.call hb;replace hvb:=hvb.call hb;replace hvy:=hvy.call hb;replace hx:=hx.call hb;replace hd:=hd.call hb;replace bSb:=bSb.call hb;replace bI:=bI.call hb;clear hb)
 obtain⟨ma,mk,hme⟩:=hm.shape
 rw[vl_length] at hme
 subst hme
 have HI:=Lib.hid hg1.ints
 have HM:=Lib.hid hm
 have HB:=Lib.hid hvb
 have HG3:=Lib.hid hg3.ints
 have HX:=Lib.hid hx
 have HY:=Lib.hid hvy
 (have y0:=bSb.c0;have y1:=bSb.c1;have y2:=bSb.c2;have yl:=bSb.lt)
 clear hm hvb hg1 hg3 hx hvy hS
 go_wp2_with fail
 go_loopw [23] (fun v23 wr=>∃ i:Nat,i≤A∧v23=.int .i64 i∧In w7.heap.size w7 wr) (fun v23 _=>A - (RowKit.intOf v23).toNat)
 case atStart=>exact⟨0,Nat.zero_le _,rfl,In.self _⟩
 case round=>
  rename World=>wq
  obtain⟨i,hi,rfl,hq⟩:=hrel
  clear y0 y1 y2 yl
  by_cases hic:i<A
  ·have hicI:(i:Int)<A:=by omega
   have hi0:(0:Int)≤i:=by omega
   have hiw:IntKind.i64.wrap ((i:Int)+1)=((i+1:Nat):Int):=IntWalk.i64_in _ (by omega)
   have hil:i<(ii).length:=by rw[←HA.out];exact hic
   obtain⟨bi,oi,rfl,hbi,hci⟩:=(HI.out.call hq.bel) i (by rw[zl_length];exact hil)
   rw[zl_getD hil] at hci
   have hpn:=HGR.out.2 _ (getD_in hil)
   have heq:=extV_rows HGR.out HNS.out (mEl qb) (mEl qy) hil
   obtain⟨p,hp⟩:∃ p,p=(ii).getD i 0:=⟨_,rfl⟩
   rw[←hp] at hci hpn heq
   clear hp hil
   have hpI:(p:Int)<n:=by omega
   have hp0:(0:Int)≤p:=by omega
   obtain⟨ux1,ux2,ux3,uxA,uxB,uxC,uxD,uxE,uxv,uxb,uxg,uxf,ux4,ux5,ux6,ux7,ux8⟩:=(HM.out.call hq.bel).at (i:=p) (by rw[vl_length];exact hpn)
   simp only[Value.slice.injEq] at uxv
   obtain⟨rfl,uxl,uxk⟩:=uxv
   subst uxk
   clear uxl uxg
   obtain⟨uy1,uy2,uy3,uyA,uyB,uyC,uyD,uyE,uyv,uyb,uyg,uyf,uy4,uy5,uy6,uy7,uy8⟩:=(HB.out.call hq.bel).at (i:=p) (by rw[vl_length];exact hpn)
   simp only[Value.slice.injEq] at uyv
   obtain⟨rfl,uyl,uyk⟩:=uyv
   subst uyk
   clear uyl uyg
   rw[vl_getD _ (by exact hpn)] at uxf
   rw[vl_getD _ (by exact hpn)] at uyf
   have hneq:=fun W=>fracNeq_run ((mv n M (extV n ii M (mEl qb) (mEl qy))) p) ((mEl qb) p) W
   rw[uxf,uyf,show(!decide ((mv n M (extV n ii M (mEl qb) (mEl qy))) p=(mEl qb) p))=false by rw[decide_eq_true heq];rfl] at hneq
   clear uxf uyf heq hpn
   have hbel:=hq.bel
   go_upto_region 16 with fail
   have h:=In.self wq
   have hc:=h.cell
   refine tfw 14 ?_;refine tset ?_;(repeat (first | refine tfs ?_))
   (try clear hc hf h);intro u w' h ha hdi;replace h:=tsz h.ins;replace ha:=tah ha;have hc:=h.cell;have hf:=h.frozen
   (try obtain ha:=ha);(try dsimp only);simp only[ha];clear ha hdi
   have hq2:=hq.call h.bel
   clear hc hf h hbel hq ux4 ux5 ux6 ux7 ux8 uy4 uy5 uy6 uy7 uy8 hci
   go_wp2_with fail
   exact⟨⟨i+1,by omega,by go_num,hq2⟩,by simp[RowKit.intOf];omega⟩
  ·have hicI:¬ (i:Int)<A:=by omega
   go_wp2_with fail
   go_loopw [24] (fun v24 wr=>∃ i:Nat,i≤O∧v24=.int .i64 i∧In w7.heap.size w7 wr) (fun v24 _=>O - (RowKit.intOf v24).toNat)
   case atStart=>exact⟨0,Nat.zero_le _,rfl,hq⟩
   case round=>
    rename World=>wr
    obtain⟨i,hi,rfl,hr⟩:=hrel
    by_cases hic:i<O
    ·have hicI:(i:Int)<O:=by omega
     have hi0:(0:Int)≤i:=by omega
     have hiw:IntKind.i64.wrap ((i:Int)+1)=((i+1:Nat):Int):=IntWalk.i64_in _ (by omega)
     have hil:i<((outer n ii)).length:=by rw[←HO.out];exact hic
     obtain⟨bi,oi,rfl,hbi,hci⟩:=(HG3.out.call hr.bel) i (by rw[zl_length];exact hil)
     rw[zl_getD hil] at hci
     have hpn:=(fun(i:Nat) (h:i∈outer n ii)=>HGR.out.split.lt (.inr h)) _ (getD_in hil)
     have heq:=extV_out (M:=M) HGR.out (mEl qb) (mEl qy) hil
     obtain⟨p,hp⟩:∃ p,p=((outer n ii)).getD i 0:=⟨_,rfl⟩
     rw[←hp] at hci hpn heq
     clear hp hil
     have hpI:(p:Int)<n:=by omega
     have hp0:(0:Int)≤p:=by omega
     obtain⟨ux1,ux2,ux3,uxA,uxB,uxC,uxD,uxE,uxv,uxb,uxg,uxf,ux4,ux5,ux6,ux7,ux8⟩:=(HX.out.call hr.bel).at (i:=p) (by rw[vl_length];exact hpn)
     simp only[Value.slice.injEq] at uxv
     obtain⟨rfl,uxl,uxk⟩:=uxv
     subst uxk
     clear uxl uxg
     obtain⟨uy1,uy2,uy3,uyA,uyB,uyC,uyD,uyE,uyv,uyb,uyg,uyf,uy4,uy5,uy6,uy7,uy8⟩:=(HY.out.call hr.bel).at (i:=i) (by rw[vl_length];exact hic)
     simp only[Value.slice.injEq] at uyv
     obtain⟨rfl,uyl,uyk⟩:=uyv
     subst uyk
     clear uyl uyg
     rw[vl_getD _ (by exact hpn)] at uxf
     rw[vl_getD _ (by exact hic)] at uyf
     have hneq:=fun W=>fracNeq_run ((extV n ii M (mEl qb) (mEl qy)) p) ((mEl qy) i) W
     rw[uxf,uyf,show(!decide ((extV n ii M (mEl qb) (mEl qy)) p=(mEl qy) i))=false by rw[decide_eq_true heq];rfl] at hneq
     clear uxf uyf heq hpn
     have hbel:=hr.bel
     go_upto_region 21 with fail
     have h:=In.self wr
     have hc:=h.cell
     refine tfw 11 ?_;refine tset ?_;(repeat (first | refine tfs ?_))
     (try clear hc hf h);intro u w' h ha hdi;replace h:=tsz h.ins;replace ha:=tah ha;have hc:=h.cell;have hf:=h.frozen
     (try obtain ha:=ha);(try dsimp only);simp only[ha];clear ha hdi
     have hq2:=hr.call h.bel
     clear hc hf h hbel hr ux4 ux5 ux6 ux7 ux8 uy4 uy5 uy6 uy7 uy8 hci
     go_wp2_with fail
     exact⟨⟨i+1,by omega,by go_num,hq2⟩,by simp[RowKit.intOf];omega⟩
    ·have hicI:¬ (i:Int)<O:=by omega
     go_wp2_with fail
     ((with_reducible refine(cz _).mono ?_))
     rintro e w9 ⟨rfl,hb⟩
     have hbel:=(hin.call (hr.call hb).bel).bel
     clear hb hr
     go_wp2_with fail
     go_ret
     exact⟨rfl,hbel⟩
set_option maxRecDepth 100000 in
set_option maxHeartbeats 16000000 in
theorem extend21_any (w:World) (N:Nat) (hN:N<256) (la:Option Addr) (lc:Nat) (l:List TQ) (hl:TAt w la l) (hok:TOk l) (hL:l.length≤maxLen) (ka:Option Addr) (kc:Nat) (ks:List Nat) (hk:U8At w ka ks) (hk8:∀ i,ks.getD i 0<256) (hLk:ks.length≤maxLen) (z:Int) (hz:0≤z∧z<256) (ba ya:Option Addr) (bc yc:Nat) (qb qy:List (Int×Int)) (hqb:QAt w ba qb) (hqy:QAt w ya qy) (hob:QOk qb) (hoy:QOk qy) (hLb:qb.length≤maxLen) (hLy:qy.length≤maxLen) :
  Calls Tryz.prog 5 #[.agg #[.int .u8 N,.slice la l.length lc],.slice ka ks.length kc,.int .u8 z,.slice ba qb.length bc,.slice ya qy.length yc] w fun e w'=>e=.returned (.bool true)∧Below w.heap.size w w':=(extend21_any_q1.2 (extend21_any_q2.2 (extend21_any_q3.2 (extend21_any_q4.2 (extend21_any_q5.2 (extend21_any_q6.2 extend21_any_q7)))))) w N hN la lc l hl hok hL ka kc ks hk hk8 hLk z hz ba ya bc yc qb qy hqb hqy hob hoy hLb hLy
end Gus
end
