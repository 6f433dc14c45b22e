/- Proved here: parts of the proof: KSrm. Conditions: those that each theorem states. -/
import Derived.Test.YthblojaeoiemmaaGreatDoorKSrlQ
section
namespace Gus
open Go Go.RowKit Go.Proofs
theorem c_lz:∀ a,a<7→1+a*(2601+jz a 2601+1)<17592186044416:=by decide +kernel
theorem c_pz:∀ a,a<7→1+a*(lz a 2601+2601+1)<17592186044416:=by decide +kernel
theorem c_ap:∀ a,a<7→1+a*(jz a 2601+2601+1)<10000000000:=by decide +kernel
theorem c_ap2:∀ a,a<7→1+a*(2601+(1+a*(jz a 2601+2601+1))+1)<17592186044416:=by decide +kernel
theorem c_ap3:∀ a,a<7→2601+(1+a*(2601+(1+a*(jz a 2601+2601+1))+1))+1<17592186044416:=by decide +kernel
theorem c_dd:∀ a,a<7→∀ o,o<7 - a→2601*5 ^ a+gz a 2601*5 ^ o<17592186044416:=by decide +kernel
set_option maxRecDepth 100000 in
set_option maxHeartbeats 16000000 in
def complement21_any_q1:{P:Prop // P→∀ (w:World) (N:Nat) (_:N<256) (la:Option Addr) (lc:Nat) (l:List TQ) (_:TAt w la l) (_:TOk l) (_:l.length≤maxLen) (ka:Option Addr) (kc:Nat) (ks:List Nat) (_:U8At w ka ks) (_:∀ i,ks.getD i 0<256) (_:ks.length≤maxLen) (z:Int) (_:0≤z∧z<256) (ba:Option Addr) (bc:Nat) (qb:List (Int×Int)) (_:QAt w ba qb) (_:QOk qb) (_:qb.length≤maxLen),Calls Tryz.prog 7 #[.agg #[.int .u8 N,.slice la l.length lc],.slice ka ks.length kc,.int .u8 z,.slice ba qb.length bc] w fun e w'=>e=.returned (.bool true)∧Below w.heap.size w w'}:=⟨_,fun Kcut=>by
 replace Kcut:Keep _:=⟨Kcut⟩
 intro w N hN la lc l hl hok hL ka kc ks hk hk8 hLk z hz ba bc qb hqb hob hLb
 have cz:=works21_any
 have hin:=In.self w
 obtain⟨a,rfl⟩:=Int.eq_ofNat_of_zero_le hz.1
 have ha8:a<256:=by omega
 clear hz
 obtain⟨sm,hsm⟩:∃ sm,sm=small21 l.length ks.length [qb.length]:=⟨_,rfl⟩
 obtain⟨n,hn⟩:∃ n,n=N % (6+1):=⟨_,rfl⟩
 have hn6:n≤6:=by omega
 have HN:=Lib.hid hn
 clear hn
 go_enter Tryz.func7,Tryz.ntmps7
 go_upto_region 1 with fail
 ((obtain⟨S0,hS0⟩:∃ z,z=w.heap.size:=⟨_,rfl⟩);(have bS0:=Bx.new_at w #[.int .u8 N,.slice la l.length lc] 51 hS0);(replace hin:=hin.alloc (.cells #[.int .u8 N,.slice la l.length lc] 51));(replace hl:=hl.call ((Below.refl _ _).alloc (Nat.le_refl _) (.cells #[.int .u8 N,.slice la l.length lc] 51)));(replace hk:=hk.call ((Below.refl _ _).alloc (Nat.le_refl _) (.cells #[.int .u8 N,.slice la l.length lc] 51)));(replace hqb:=hqb.call ((Below.refl _ _).alloc (Nat.le_refl _) (.cells #[.int .u8 N,.slice la l.length lc] 51)));(rw[←hS0]);clear hS0;(generalize w.alloc (.cells #[.int .u8 N,.slice la l.length lc] 51)=W1 at *))
 (have s0:=bS0.c0;have s1:=bS0.c1;have sl:=bS0.lt)
 go_wp2_with fail
 ((obtain⟨V,hV⟩:∃ z,z=W1.heap.size:=⟨_,rfl⟩);(have bV:=Bx.new_at W1 #[.slice ba qb.length bc] 23 hV);clear s0 s1 sl;(replace hin:=hin.alloc (.cells #[.slice ba qb.length bc] 23));(replace bS0:=bS0.alloc (.cells #[.slice ba qb.length bc] 23));(replace hl:=hl.call ((Below.refl _ _).alloc (Nat.le_refl _) (.cells #[.slice ba qb.length bc] 23)));(replace hk:=hk.call ((Below.refl _ _).alloc (Nat.le_refl _) (.cells #[.slice ba qb.length bc] 23)));(replace hqb:=hqb.call ((Below.refl _ _).alloc (Nat.le_refl _) (.cells #[.slice ba qb.length bc] 23)));(rw[←hV]);clear hV;(generalize W1.alloc (.cells #[.slice ba qb.length bc] 23)=W2 at *))
 have c0:=small21_any W2 N la l.length lc ka ks.length kc (some ⟨V,0,none⟩) 1 [qb.length] (ln_one bV) (by simp)
 rw[←hsm,show[qb.length].length=1 from rfl] at c0
 have HSM:=Lib.hid hsm
 clear hsm
 ((((with_reducible refine(c0).mono ?_)));rintro e wc3 ⟨rfl,hb⟩;clear c0 bV;replace hin:=hin.call hb;replace hl:=hl.call hb;replace hk:=hk.call hb;replace hqb:=hqb.call hb;replace bS0:=bS0.call hb;clear hb)
 rcases sm with _ | _
 ·clear Kcut
  (go_wp2_with fail;(((with_reducible refine(cz _).mono ?_)));rintro e wc4 ⟨rfl,hb⟩;replace hin:=hin.call hb;replace hl:=hl.call hb;replace hk:=hk.call hb;replace hqb:=hqb.call hb;replace bS0:=bS0.call hb;clear hb)
  go_wp2_with fail
  go_ret
  exact⟨rfl,hin.bel⟩
 ·skip
  obtain⟨hbn,h40,h12⟩:=small21_1 HSM.out.symm
  clear HSM hL hLk hLb
  rename_i yy10_ yy11_ yy12_ yy13_ yy14_ yy15_ yy16_
  revert w N hN la lc l hok ka kc ks hk8 ba bc qb hob cz a ha8 n hn6 HN yy10_ yy11_ yy12_ yy13_ yy14_ S0 W1 yy15_ yy16_ V W2 wc3 hin hl hk hqb bS0 hbn h40 h12
  exact Kcut.out
 ⟩
set_option maxRecDepth 100000 in
set_option maxHeartbeats 16000000 in
def complement21_any_q2:{P:Prop // P→complement21_any_q1.1}:=⟨_,fun Kcut=>by
 replace Kcut:Keep _:=⟨Kcut⟩
 intro w N hN la lc l hok ka kc ks hk8 ba bc qb hob cz a ha8 n hn6 HN yy10_ yy11_ yy12_ yy13_ yy14_ S0 W1 yy15_ yy16_ V W2 wc3 hin hl hk hqb bS0 hbn h40 h12
 have c1:=raw_any (j:=64) wc3 N n 6 la lc l hl hok (by omega) hN (by decide) HN.out (tok_sz64 hok) (by decide) (by decide)
 rw[show((6:Nat):Int)=6 from rfl] at c1
 have hMz:Mz n n 2601 (rawM n l):=raw_mz (tok_sz64 hok) h40
 obtain⟨M,hM⟩:∃ M,M=rawM n l:=⟨_,rfl⟩
 rw[←hM] at c1 hMz
 have HMZ:=Lib.hid hMz
 clear hM hMz h40 hok hN HN
 (have s0:=bS0.c0;have s1:=bS0.c1;have sl:=bS0.lt)
 (go_wp2_with fail;(((with_reducible refine(c1).mono ?_)));(rintro e wc4 ⟨⟨sv,rfl,hS⟩,hb⟩);clear s0 s1 sl c1 bS0 hl;replace hin:=hin.call hb;replace hk:=hk.call hb;replace hqb:=hqb.call hb;clear hb)
 obtain⟨ra,rk,rfl⟩:=hS.shape
 go_upto_region 4 with fail
 ((obtain⟨Sb,hSb⟩:∃ z,z=wc4.heap.size:=⟨_,rfl⟩);(have bSb:=Bx.new_at wc4 #[.int .i64 n,.int .i64 n,.slice ra n rk] 27 hSb);(replace hin:=hin.alloc (.cells #[.int .i64 n,.int .i64 n,.slice ra n rk] 27));(replace hk:=hk.call ((Below.refl _ _).alloc (Nat.le_refl _) (.cells #[.int .i64 n,.int .i64 n,.slice ra n rk] 27)));(replace hqb:=hqb.call ((Below.refl _ _).alloc (Nat.le_refl _) (.cells #[.int .i64 n,.int .i64 n,.slice ra n rk] 27)));(replace hS:=hS.call ((Below.refl _ _).alloc (Nat.le_refl _) (.cells #[.int .i64 n,.int .i64 n,.slice ra n rk] 27)));(rw[←hSb]);clear hSb;(generalize wc4.alloc (.cells #[.int .i64 n,.int .i64 n,.slice ra n rk] 27)=wS at *))
 rename_i yy20_ yy21_
 revert w N la lc l ka kc ks hk8 ba bc qb hob cz a ha8 n hn6 yy10_ S0 W1 V W2 wc3 hbn h12 M HMZ wc4 ra rk yy20_ yy21_ Sb wS bSb hin hk hqb hS
 exact Kcut.out
 ⟩
set_option maxRecDepth 100000 in
set_option maxHeartbeats 16000000 in
def complement21_any_q3:{P:Prop // P→complement21_any_q2.1}:=⟨_,fun Kcut=>by
 replace Kcut:Keep _:=⟨Kcut⟩
 intro w N la lc l ka kc ks hk8 ba bc qb hob cz a ha8 n hn6 yy10_ S0 W1 V W2 wc3 hbn h12 M HMZ wc4 ra rk yy20_ yy21_ Sb wS bSb hin hk hqb hS
 have c4:=ldense_any wS (.agg #[.int .i64 n,.int .i64 n,.slice ra n rk]) n M hS (by omega)
 (have y0:=bSb.c0;have y1:=bSb.c1;have y2:=bSb.c2;have yl:=bSb.lt)
 (go_wp2_with fail;(((with_reducible refine(c4).mono ?_)));(rintro e wc6 ⟨⟨dd,rfl,hd⟩,hb⟩);clear y0 y1 y2 yl c4;replace hin:=hin.call hb;replace hk:=hk.call hb;replace hqb:=hqb.call hb;replace hS:=hS.call hb;replace bSb:=bSb.call hb;clear hb)
 obtain⟨gM,NM,hNM,hde,hbd⟩:=id hd
 subst hde
 clear hNM hbd
 go_upto_region 5 with fail
 ((obtain⟨Mb,hMb⟩:∃ z,z=wc6.heap.size:=⟨_,rfl⟩);(have bMb:=Bx.new_at wc6 #[.int .i64 n,.int .i64 n,.slice (some ⟨gM,0,none⟩) NM NM] 37 hMb);(replace hin:=hin.alloc (.cells #[.int .i64 n,.int .i64 n,.slice (some ⟨gM,0,none⟩) NM NM] 37));(replace bSb:=bSb.alloc (.cells #[.int .i64 n,.int .i64 n,.slice (some ⟨gM,0,none⟩) NM NM] 37));(replace hk:=hk.call ((Below.refl _ _).alloc (Nat.le_refl _) (.cells #[.int .i64 n,.int .i64 n,.slice (some ⟨gM,0,none⟩) NM NM] 37)));(replace hqb:=hqb.call ((Below.refl _ _).alloc (Nat.le_refl _) (.cells #[.int .i64 n,.int .i64 n,.slice (some ⟨gM,0,none⟩) NM NM] 37)));(replace hS:=hS.call ((Below.refl _ _).alloc (Nat.le_refl _) (.cells #[.int .i64 n,.int .i64 n,.slice (some ⟨gM,0,none⟩) NM NM] 37)));(replace hd:=hd.call ((Below.refl _ _).alloc (Nat.le_refl _) (.cells #[.int .i64 n,.int .i64 n,.slice (some ⟨gM,0,none⟩) NM NM] 37)));(rw[←hMb]);clear hMb;(generalize wc6.alloc (.cells #[.int .i64 n,.int .i64 n,.slice (some ⟨gM,0,none⟩) NM NM] 37)=W7 at *))
 obtain⟨t,ht⟩:∃ t,t=a % (n+1):=⟨_,rfl⟩
 have htn:t≤n:=by have:=Nat.mod_lt a (show 0<n+1 by omega);omega
 have c2:=lcut_any W7 n ka kc ks hk hk8 (by omega) a 0 ha8 (by decide) t t ht (by rw[Nat.zero_mod];rfl)
 rw[show((0:Nat):Int)=0 from rfl] at c2
 obtain⟨ii,hii⟩:∃ ii,ii=(permK ks n).take t:=⟨_,rfl⟩
 have hgr:Grp n ii:=by rw[hii];have:=cut_groups ks n t t (Nat.le_refl t);exact⟨this.1,this.2.1⟩
 rw[←hii] at c2
 clear hii ht htn hk8 ha8 h12
 (have y0:=bSb.c0;have y1:=bSb.c1;have y2:=bSb.c2;have yl:=bSb.lt)
 (go_wp2_with fail;(((with_reducible refine(c2).mono ?_)));(rintro e wc8 ⟨⟨v1,v2,v3,rfl,hg1,hg2,hg3⟩,hb⟩);clear y0 y1 y2 yl c2 hk;replace hin:=hin.call hb;replace hqb:=hqb.call hb;replace hS:=hS.call hb;replace hd:=hd.call hb;replace bSb:=bSb.call hb;replace bMb:=bMb.call hb;clear hb)
 obtain⟨a2,k2,rfl⟩:=hg2.shape
 clear hg2
 obtain⟨a1,k1,rfl⟩:=hg1.shape
 obtain⟨a3,k3,rfl⟩:=hg3.shape
 have hlen:=hgr.split.len
 have HLEN:=Lib.hid hlen
 obtain⟨A,hA⟩:∃ A,A=ii.length:=⟨_,rfl⟩
 obtain⟨O,hO⟩:∃ O,O=(outer n ii).length:=⟨_,rfl⟩
 rw[←hA] at hg1 ⊢
 rw[←hO] at hg3 ⊢
 rw[←hA,←hO] at hlen
 have HA:=Lib.hid hA
 have HO:=Lib.hid hO
 have HGR:=Lib.hid hgr
 clear hA hO hgr
 rename_i yy30_ yy31_ yy32_ yy33_
 revert w N la lc l ka kc ks ba bc qb hob cz a n hn6 yy10_ S0 W1 V W2 wc3 hbn M HMZ wc4 ra rk Sb wS wc6 gM NM yy30_ yy31_ Mb W7 t ii yy32_ yy33_ wc8 hin hqb hS hd bSb bMb a2 k2 a1 k1 a3 k3 HLEN A hg1 O hlen hg3 HA HO HGR
 exact Kcut.out
 ⟩
set_option maxRecDepth 100000 in
set_option maxHeartbeats 16000000 in
def complement21_any_q4:{P:Prop // P→complement21_any_q3.1}:=⟨_,fun Kcut=>by
 replace Kcut:Keep _:=⟨Kcut⟩
 intro w N la lc l ka kc ks ba bc qb hob cz a n hn6 yy10_ S0 W1 V W2 wc3 hbn M HMZ wc4 ra rk Sb wS wc6 gM NM yy30_ yy31_ Mb W7 t ii yy32_ yy33_ wc8 hin hqb hS hd bSb bMb a2 k2 a1 k1 a3 k3 HLEN A hg1 O hlen hg3 HA HO HGR
 have cv1:=lvec_any wc8 ba bc n qb hqb hob (by omega) (by omega)
 (have y0:=bSb.c0;have y1:=bSb.c1;have y2:=bSb.c2;have yl:=bSb.lt)
 (go_wp2_with fail;(((with_reducible refine(cv1).mono ?_)));(rintro e wc9 ⟨⟨d,rfl,hvb⟩,hb⟩);clear y0 y1 y2 yl cv1 hqb;replace hin:=hin.call hb;replace hS:=hS.call hb;replace hd:=hd.call hb;replace hg1:=hg1.call hb;replace hg3:=hg3.call hb;replace bSb:=bSb.call hb;replace bMb:=bMb.call hb;clear hb)
 obtain⟨va,vk,hve⟩:=hvb.shape
 rw[mList_length] at hve
 subst hve
 replace hvb:VecAt wc9 (.slice va n vk) (vl n (mEl qb)):=hvb
 have c8:=souter_ok wc9 n (.slice a1 A k1) ii hg1 HGR.out (by omega)
 (have y0:=bSb.c0;have y1:=bSb.c1;have y2:=bSb.c2;have yl:=bSb.lt)
 (go_wp2_with fail;(((with_reducible refine(c8).mono ?_)));(rintro e wc10 ⟨⟨vo,rfl,hgo⟩,hb⟩);clear y0 y1 y2 yl c8;replace hin:=hin.call hb;replace hS:=hS.call hb;replace hd:=hd.call hb;replace hg1:=hg1.call hb;replace hg3:=hg3.call hb;replace hvb:=hvb.call hb;replace bSb:=bSb.call hb;replace bMb:=bMb.call hb;clear hb)
 obtain⟨ao,ko,rfl⟩:=hgo.shape
 rw[←HO.out] at hgo ⊢
 rename_i yy40_ yy41_ yy42_ yy43_
 revert w N la lc l ka kc ks ba bc qb hob cz a n hn6 yy10_ S0 W1 V W2 wc3 hbn M HMZ wc4 ra rk Sb wS wc6 gM NM Mb W7 t ii wc8 a2 k2 a1 k1 a3 k3 HLEN A O hlen HA HO HGR wc9 va vk yy40_ yy41_ yy42_ yy43_ wc10 hin hS hd hg1 hg3 hvb bSb bMb ao ko hgo
 exact Kcut.out
 ⟩
set_option maxRecDepth 100000 in
set_option maxHeartbeats 16000000 in
def complement21_any_q5:{P:Prop // P→complement21_any_q4.1}:=⟨_,fun Kcut=>by
 replace Kcut:Keep _:=⟨Kcut⟩
 intro w N la lc l ka kc ks ba bc qb hob cz a n hn6 yy10_ S0 W1 V W2 wc3 hbn M HMZ wc4 ra rk Sb wS wc6 gM NM Mb W7 t ii wc8 a2 k2 a1 k1 a3 k3 HLEN A O hlen HA HO HGR wc9 va vk yy40_ yy41_ yy42_ yy43_ wc10 hin hS hd hg1 hg3 hvb bSb bMb ao ko hgo
 have hzb:Vz n 2601 (mEl qb):=fun i _=>(mEl_sz64 hob i).mono (by decide)
 have c9:=scomplement_ok (z:=2601) wc10 (.agg #[.int .i64 n,.int .i64 n,.slice ra n rk]) (.slice a1 A k1) n ii M hS hg1 HGR.out (by omega) (by decide) HMZ.out (c_p5 _ (by rw[←HA.out];omega)) (fun _=>Nat.lt_trans (c_gz _ (by rw[←HA.out];omega)) (by decide))
 (have y0:=bSb.c0;have y1:=bSb.c1;have y2:=bSb.c2;have yl:=bSb.lt)
 go_upto_region 8 with fail
 by_cases hns:¬ NS ii.length (sub M ii ii)
 ·clear Kcut
  (go_wp2_with fail;(((with_reducible refine(c9).mono ?_)));(rintro e wc11 ⟨hI,hb⟩);clear y0 y1 y2 yl c9;replace hin:=hin.call hb;replace hS:=hS.call hb;replace hd:=hd.call hb;replace hg1:=hg1.call hb;replace hg3:=hg3.call hb;replace hvb:=hvb.call hb;replace hgo:=hgo.call hb;replace bSb:=bSb.call hb;replace bMb:=bMb.call hb;clear hb)
  obtain⟨_,rfl⟩:=hI.resolve_left (fun h=>hns h.1)
  go_upto_region 9 with fail
  ((obtain⟨C,hC⟩:∃ z,z=wc11.heap.size:=⟨_,rfl⟩);(have bC:=Bx.new_at wc11 #[.int .i64 0,.int .i64 0,.slice none 0 0] 37 hC);(replace hin:=hin.alloc (.cells #[.int .i64 0,.int .i64 0,.slice none 0 0] 37));(replace bSb:=bSb.alloc (.cells #[.int .i64 0,.int .i64 0,.slice none 0 0] 37));(replace bMb:=bMb.alloc (.cells #[.int .i64 0,.int .i64 0,.slice none 0 0] 37));(replace hS:=hS.call ((Below.refl _ _).alloc (Nat.le_refl _) (.cells #[.int .i64 0,.int .i64 0,.slice none 0 0] 37)));(replace hd:=hd.call ((Below.refl _ _).alloc (Nat.le_refl _) (.cells #[.int .i64 0,.int .i64 0,.slice none 0 0] 37)));(replace hg1:=hg1.call ((Below.refl _ _).alloc (Nat.le_refl _) (.cells #[.int .i64 0,.int .i64 0,.slice none 0 0] 37)));(replace hg3:=hg3.call ((Below.refl _ _).alloc (Nat.le_refl _) (.cells #[.int .i64 0,.int .i64 0,.slice none 0 0] 37)));(replace hvb:=hvb.call ((Below.refl _ _).alloc (Nat.le_refl _) (.cells #[.int .i64 0,.int .i64 0,.slice none 0 0] 37)));(replace hgo:=hgo.call ((Below.refl _ _).alloc (Nat.le_refl _) (.cells #[.int .i64 0,.int .i64 0,.slice none 0 0] 37)));(rw[←hC]);clear hC;(generalize wc11.alloc (.cells #[.int .i64 0,.int .i64 0,.slice none 0 0] 37)=W12 at *))
  have c10:=sreduced_ok (z:=2601) W12 (.agg #[.int .i64 n,.int .i64 n,.slice ra n rk]) (.slice a1 A k1) (.slice va n vk) n ii M (mEl qb) hvb hzb hS hg1 HGR.out (by omega) (by decide) HMZ.out (c_p5 _ (by rw[←HA.out];omega)) (fun _=>Nat.lt_trans (c_gz _ (by rw[←HA.out];omega)) (by decide))
  (have y0:=bSb.c0;have y1:=bSb.c1;have y2:=bSb.c2;have yl:=bSb.lt)
  (go_wp2_with fail;(((with_reducible refine(c10).mono ?_)));(rintro e wc13 ⟨hI,hb⟩);clear y0 y1 y2 yl c10;replace hin:=hin.call hb;replace hS:=hS.call hb;replace hd:=hd.call hb;replace hg1:=hg1.call hb;replace hg3:=hg3.call hb;replace hvb:=hvb.call hb;replace hgo:=hgo.call hb;replace bSb:=bSb.call hb;replace bMb:=bMb.call hb;replace bC:=bC.call hb;clear hb)
  obtain⟨_,rfl⟩:=hI.resolve_left (fun h=>hns h.1)
  go_upto_region 10 with fail
  ((obtain⟨D,hD⟩:∃ z,z=wc13.heap.size:=⟨_,rfl⟩);(have bD:=Bx.new_at wc13 #[.int .i64 0,.int .i64 0,.slice none 0 0] 37 hD);(replace hin:=hin.alloc (.cells #[.int .i64 0,.int .i64 0,.slice none 0 0] 37));(replace bSb:=bSb.alloc (.cells #[.int .i64 0,.int .i64 0,.slice none 0 0] 37));(replace bMb:=bMb.alloc (.cells #[.int .i64 0,.int .i64 0,.slice none 0 0] 37));(replace bC:=bC.alloc (.cells #[.int .i64 0,.int .i64 0,.slice none 0 0] 37));(replace hS:=hS.call ((Below.refl _ _).alloc (Nat.le_refl _) (.cells #[.int .i64 0,.int .i64 0,.slice none 0 0] 37)));(replace hd:=hd.call ((Below.refl _ _).alloc (Nat.le_refl _) (.cells #[.int .i64 0,.int .i64 0,.slice none 0 0] 37)));(replace hg1:=hg1.call ((Below.refl _ _).alloc (Nat.le_refl _) (.cells #[.int .i64 0,.int .i64 0,.slice none 0 0] 37)));(replace hg3:=hg3.call ((Below.refl _ _).alloc (Nat.le_refl _) (.cells #[.int .i64 0,.int .i64 0,.slice none 0 0] 37)));(replace hvb:=hvb.call ((Below.refl _ _).alloc (Nat.le_refl _) (.cells #[.int .i64 0,.int .i64 0,.slice none 0 0] 37)));(replace hgo:=hgo.call ((Below.refl _ _).alloc (Nat.le_refl _) (.cells #[.int .i64 0,.int .i64 0,.slice none 0 0] 37)));(rw[←hD]);clear hD;(generalize wc13.alloc (.cells #[.int .i64 0,.int .i64 0,.slice none 0 0] 37)=W14 at *))
  have c5:=lblock_any W14 (.agg #[.int .i64 n,.int .i64 n,.slice (some ⟨gM,0,none⟩) NM NM]) n M hd (by omega) (.slice a1 A k1) (.slice a1 A k1) ii ii hg1 hg1 HGR.out.2 HGR.out.2 (by rw[←HA.out];omega) (by rw[←HA.out];omega)
  (have m0:=bMb.c0;have m1:=bMb.c1;have m2:=bMb.c2;have ml:=bMb.lt)
  (go_wp2_with fail;(((with_reducible refine(c5).mono ?_)));(rintro e wc15 ⟨⟨db,rfl,hdb⟩,hb⟩);clear m0 m1 m2 ml c5;replace hin:=hin.call hb;replace hS:=hS.call hb;replace hd:=hd.call hb;replace hg1:=hg1.call hb;replace hg3:=hg3.call hb;replace hvb:=hvb.call hb;replace hgo:=hgo.call hb;replace bSb:=bSb.call hb;replace bMb:=bMb.call hb;replace bC:=bC.call hb;replace bD:=bD.call hb;clear hb)
  have c6:=einverse_any (z:=2601) wc15 db ii.length (sub M ii ii) hdb (by rw[←HA.out];omega) (by decide) (sub_szk HMZ.out HGR.out.2 HGR.out.2) (c_p5 _ (by rw[←HA.out];omega))
  (go_wp2_with fail;(((with_reducible refine(c6).mono ?_)));(rintro e wc16 ⟨hI,hb⟩);clear c6 hdb;replace hin:=hin.call hb;replace hS:=hS.call hb;replace hd:=hd.call hb;replace hg1:=hg1.call hb;replace hg3:=hg3.call hb;replace hvb:=hvb.call hb;replace hgo:=hgo.call hb;replace bSb:=bSb.call hb;replace bMb:=bMb.call hb;replace bC:=bC.call hb;replace bD:=bD.call hb;clear hb)
  obtain⟨_,rfl⟩:=hI.resolve_left (fun h=>hns h.1)
  go_upto_region 11 with fail
  ((obtain⟨I,hI⟩:∃ z,z=wc16.heap.size:=⟨_,rfl⟩);(have bI:=Bx.new_at wc16 #[.int .i64 0,.int .i64 0,.slice none 0 0] 37 hI);(replace hin:=hin.alloc (.cells #[.int .i64 0,.int .i64 0,.slice none 0 0] 37));(replace bSb:=bSb.alloc (.cells #[.int .i64 0,.int .i64 0,.slice none 0 0] 37));(replace bMb:=bMb.alloc (.cells #[.int .i64 0,.int .i64 0,.slice none 0 0] 37));(replace bC:=bC.alloc (.cells #[.int .i64 0,.int .i64 0,.slice none 0 0] 37));(replace bD:=bD.alloc (.cells #[.int .i64 0,.int .i64 0,.slice none 0 0] 37));(replace hS:=hS.call ((Below.refl _ _).alloc (Nat.le_refl _) (.cells #[.int .i64 0,.int .i64 0,.slice none 0 0] 37)));(replace hd:=hd.call ((Below.refl _ _).alloc (Nat.le_refl _) (.cells #[.int .i64 0,.int .i64 0,.slice none 0 0] 37)));(replace hg1:=hg1.call ((Below.refl _ _).alloc (Nat.le_refl _) (.cells #[.int .i64 0,.int .i64 0,.slice none 0 0] 37)));(replace hg3:=hg3.call ((Below.refl _ _).alloc (Nat.le_refl _) (.cells #[.int .i64 0,.int .i64 0,.slice none 0 0] 37)));(replace hvb:=hvb.call ((Below.refl _ _).alloc (Nat.le_refl _) (.cells #[.int .i64 0,.int .i64 0,.slice none 0 0] 37)));(replace hgo:=hgo.call ((Below.refl _ _).alloc (Nat.le_refl _) (.cells #[.int .i64 0,.int .i64 0,.slice none 0 0] 37)));(rw[←hI]);clear hI;(generalize wc16.alloc (.cells #[.int .i64 0,.int .i64 0,.slice none 0 0] 37)=W17 at *))
  have cs:=lsame_any W17 (.slice ao O ko) (.slice a3 O k3) (outer n ii) (outer n ii) hgo hg3 (by rw[←HO.out];omega) (by rw[←HO.out];omega)
  rw[decide_eq_true rfl] at cs
  clear hns hzb
  (go_wp2_with fail;(((with_reducible refine(cs).mono ?_)));rintro e wc18 ⟨rfl,hb⟩;clear cs;replace hin:=hin.call hb;replace hS:=hS.call hb;replace hd:=hd.call hb;replace hg1:=hg1.call hb;replace hg3:=hg3.call hb;replace hvb:=hvb.call hb;replace hgo:=hgo.call hb;replace bSb:=bSb.call hb;replace bMb:=bMb.call hb;replace bC:=bC.call hb;replace bD:=bD.call hb;replace bI:=bI.call hb;clear hb)
  (have c0:=bC.c0;have c1:=bC.c1;have c2:=bC.c2;have cl:=bC.lt)
  (have d0:=bD.c0;have d1:=bD.c1;have d2:=bD.c2;have dl:=bD.lt)
  (go_wp2_with fail;(((with_reducible refine(cz _).mono ?_)));rintro e wc19 ⟨rfl,hb⟩;clear c0 c1 c2 cl d0 d1 d2 dl;replace hin:=hin.call hb;replace hS:=hS.call hb;replace hd:=hd.call hb;replace hg1:=hg1.call hb;replace hg3:=hg3.call hb;replace hvb:=hvb.call hb;replace hgo:=hgo.call hb;replace bSb:=bSb.call hb;replace bMb:=bMb.call hb;replace bC:=bC.call hb;replace bD:=bD.call hb;replace bI:=bI.call hb;clear hb)
  go_wp2_with fail
  go_ret
  exact⟨rfl,hin.bel⟩
 ·skip
  replace hns:=Classical.not_not.1 hns
  have HNS:=Lib.hid hns
  (go_wp2_with fail;(((with_reducible refine(c9).mono ?_)));(rintro e wc11 ⟨hI,hb⟩);clear y0 y1 y2 yl c9;replace hin:=hin.call hb;replace hS:=hS.call hb;replace hd:=hd.call hb;replace hg1:=hg1.call hb;replace hg3:=hg3.call hb;replace hvb:=hvb.call hb;replace hgo:=hgo.call hb;replace bSb:=bSb.call hb;replace bMb:=bMb.call hb;clear hb)
  obtain⟨_,dc,rfl,hc⟩:=hI.resolve_right (fun h=>h.1 HNS.out)
  rw[←HO.out] at hc
  obtain⟨gC,NC,hNC,hce,hbC⟩:=id hc
  subst hce
  clear hNC hbC hI hns
  go_upto_region 9 with fail
  ((obtain⟨C,hC⟩:∃ z,z=wc11.heap.size:=⟨_,rfl⟩);(have bC:=Bx.new_at wc11 #[.int .i64 O,.int .i64 O,.slice (some ⟨gC,0,none⟩) NC NC] 37 hC);(replace hin:=hin.alloc (.cells #[.int .i64 O,.int .i64 O,.slice (some ⟨gC,0,none⟩) NC NC] 37));(replace bSb:=bSb.alloc (.cells #[.int .i64 O,.int .i64 O,.slice (some ⟨gC,0,none⟩) NC NC] 37));(replace bMb:=bMb.alloc (.cells #[.int .i64 O,.int .i64 O,.slice (some ⟨gC,0,none⟩) NC NC] 37));(replace hS:=hS.call ((Below.refl _ _).alloc (Nat.le_refl _) (.cells #[.int .i64 O,.int .i64 O,.slice (some ⟨gC,0,none⟩) NC NC] 37)));(replace hd:=hd.call ((Below.refl _ _).alloc (Nat.le_refl _) (.cells #[.int .i64 O,.int .i64 O,.slice (some ⟨gC,0,none⟩) NC NC] 37)));(replace hg1:=hg1.call ((Below.refl _ _).alloc (Nat.le_refl _) (.cells #[.int .i64 O,.int .i64 O,.slice (some ⟨gC,0,none⟩) NC NC] 37)));(replace hg3:=hg3.call ((Below.refl _ _).alloc (Nat.le_refl _) (.cells #[.int .i64 O,.int .i64 O,.slice (some ⟨gC,0,none⟩) NC NC] 37)));(replace hvb:=hvb.call ((Below.refl _ _).alloc (Nat.le_refl _) (.cells #[.int .i64 O,.int .i64 O,.slice (some ⟨gC,0,none⟩) NC NC] 37)));(replace hgo:=hgo.call ((Below.refl _ _).alloc (Nat.le_refl _) (.cells #[.int .i64 O,.int .i64 O,.slice (some ⟨gC,0,none⟩) NC NC] 37)));(replace hc:=hc.call ((Below.refl _ _).alloc (Nat.le_refl _) (.cells #[.int .i64 O,.int .i64 O,.slice (some ⟨gC,0,none⟩) NC NC] 37)));(rw[←hC]);clear hC;(generalize wc11.alloc (.cells #[.int .i64 O,.int .i64 O,.slice (some ⟨gC,0,none⟩) NC NC] 37)=W12 at *))
  have c10:=sreduced_ok (z:=2601) W12 (.agg #[.int .i64 n,.int .i64 n,.slice ra n rk]) (.slice a1 A k1) (.slice va n vk) n ii M (mEl qb) hvb hzb hS hg1 HGR.out (by omega) (by decide) HMZ.out (c_p5 _ (by rw[←HA.out];omega)) (fun _=>Nat.lt_trans (c_gz _ (by rw[←HA.out];omega)) (by decide))
  (have y0:=bSb.c0;have y1:=bSb.c1;have y2:=bSb.c2;have yl:=bSb.lt)
  (go_wp2_with fail;(((with_reducible refine(c10).mono ?_)));(rintro e wc13 ⟨hI,hb⟩);clear y0 y1 y2 yl c10;replace hin:=hin.call hb;replace hS:=hS.call hb;replace hd:=hd.call hb;replace hg1:=hg1.call hb;replace hg3:=hg3.call hb;replace hvb:=hvb.call hb;replace hgo:=hgo.call hb;replace hc:=hc.call hb;replace bSb:=bSb.call hb;replace bMb:=bMb.call hb;replace bC:=bC.call hb;clear hb)
  obtain⟨_,dr,vr,rfl,hr,hvr⟩:=hI.resolve_right (fun h=>h.1 HNS.out)
  rw[←HO.out] at hr hvr
  obtain⟨gD,ND,hND,hre,hbD⟩:=id hr
  subst hre
  obtain⟨ga,gk,hge⟩:=hvr.shape
  rw[vl_length] at hge
  subst hge
  clear hND hbD hI
  go_upto_region 10 with fail
  ((obtain⟨D,hD⟩:∃ z,z=wc13.heap.size:=⟨_,rfl⟩);(have bD:=Bx.new_at wc13 #[.int .i64 O,.int .i64 O,.slice (some ⟨gD,0,none⟩) ND ND] 37 hD);(replace hin:=hin.alloc (.cells #[.int .i64 O,.int .i64 O,.slice (some ⟨gD,0,none⟩) ND ND] 37));(replace bSb:=bSb.alloc (.cells #[.int .i64 O,.int .i64 O,.slice (some ⟨gD,0,none⟩) ND ND] 37));(replace bMb:=bMb.alloc (.cells #[.int .i64 O,.int .i64 O,.slice (some ⟨gD,0,none⟩) ND ND] 37));(replace bC:=bC.alloc (.cells #[.int .i64 O,.int .i64 O,.slice (some ⟨gD,0,none⟩) ND ND] 37));(replace hS:=hS.call ((Below.refl _ _).alloc (Nat.le_refl _) (.cells #[.int .i64 O,.int .i64 O,.slice (some ⟨gD,0,none⟩) ND ND] 37)));(replace hd:=hd.call ((Below.refl _ _).alloc (Nat.le_refl _) (.cells #[.int .i64 O,.int .i64 O,.slice (some ⟨gD,0,none⟩) ND ND] 37)));(replace hg1:=hg1.call ((Below.refl _ _).alloc (Nat.le_refl _) (.cells #[.int .i64 O,.int .i64 O,.slice (some ⟨gD,0,none⟩) ND ND] 37)));(replace hg3:=hg3.call ((Below.refl _ _).alloc (Nat.le_refl _) (.cells #[.int .i64 O,.int .i64 O,.slice (some ⟨gD,0,none⟩) ND ND] 37)));(replace hvb:=hvb.call ((Below.refl _ _).alloc (Nat.le_refl _) (.cells #[.int .i64 O,.int .i64 O,.slice (some ⟨gD,0,none⟩) ND ND] 37)));(replace hgo:=hgo.call ((Below.refl _ _).alloc (Nat.le_refl _) (.cells #[.int .i64 O,.int .i64 O,.slice (some ⟨gD,0,none⟩) ND ND] 37)));(replace hc:=hc.call ((Below.refl _ _).alloc (Nat.le_refl _) (.cells #[.int .i64 O,.int .i64 O,.slice (some ⟨gD,0,none⟩) ND ND] 37)));(replace hr:=hr.call ((Below.refl _ _).alloc (Nat.le_refl _) (.cells #[.int .i64 O,.int .i64 O,.slice (some ⟨gD,0,none⟩) ND ND] 37)));(replace hvr:=hvr.call ((Below.refl _ _).alloc (Nat.le_refl _) (.cells #[.int .i64 O,.int .i64 O,.slice (some ⟨gD,0,none⟩) ND ND] 37)));(rw[←hD]);clear hD;(generalize wc13.alloc (.cells #[.int .i64 O,.int .i64 O,.slice (some ⟨gD,0,none⟩) ND ND] 37)=W14 at *))
  clear hzb
  have c5:=lblock_any W14 (.agg #[.int .i64 n,.int .i64 n,.slice (some ⟨gM,0,none⟩) NM NM]) n M hd (by omega) (.slice a1 A k1) (.slice a1 A k1) ii ii hg1 hg1 HGR.out.2 HGR.out.2 (by rw[←HA.out];omega) (by rw[←HA.out];omega)
  (have m0:=bMb.c0;have m1:=bMb.c1;have m2:=bMb.c2;have ml:=bMb.lt)
  (go_wp2_with fail;(((with_reducible refine(c5).mono ?_)));(rintro e wc15 ⟨⟨db,rfl,hdb⟩,hb⟩);clear m0 m1 m2 ml c5;replace hin:=hin.call hb;replace hS:=hS.call hb;replace hd:=hd.call hb;replace hg1:=hg1.call hb;replace hg3:=hg3.call hb;replace hvb:=hvb.call hb;replace hgo:=hgo.call hb;replace hc:=hc.call hb;replace hr:=hr.call hb;replace hvr:=hvr.call hb;replace bSb:=bSb.call hb;replace bMb:=bMb.call hb;replace bC:=bC.call hb;replace bD:=bD.call hb;clear hb)
  have c6:=einverse_any (z:=2601) wc15 db ii.length (sub M ii ii) hdb (by rw[←HA.out];omega) (by decide) (sub_szk HMZ.out HGR.out.2 HGR.out.2) (c_p5 _ (by rw[←HA.out];omega))
  (go_wp2_with fail;(((with_reducible refine(c6).mono ?_)));(rintro e wc16 ⟨hI,hb⟩);clear c6 hdb;replace hin:=hin.call hb;replace hS:=hS.call hb;replace hd:=hd.call hb;replace hg1:=hg1.call hb;replace hg3:=hg3.call hb;replace hvb:=hvb.call hb;replace hgo:=hgo.call hb;replace hc:=hc.call hb;replace hr:=hr.call hb;replace hvr:=hvr.call hb;replace bSb:=bSb.call hb;replace bMb:=bMb.call hb;replace bC:=bC.call hb;replace bD:=bD.call hb;clear hb)
  obtain⟨_,di,rfl,hdi⟩:=hI.resolve_right (fun h=>h.1 HNS.out)
  obtain⟨IV,hIV⟩:∃ IV,IV=invM ii.length (sub M ii ii):=⟨_,rfl⟩
  rw[←hIV] at hdi hc hr hvr
  rw[←HA.out] at hdi
  obtain⟨gI,NI,hNI,hie,hbI⟩:=id hdi
  subst hie
  clear hNI hbI hI
  have HIV:=Lib.hid hIV
  clear hIV
  go_upto_region 11 with fail
  ((obtain⟨I,hI⟩:∃ z,z=wc16.heap.size:=⟨_,rfl⟩);(have bI:=Bx.new_at wc16 #[.int .i64 A,.int .i64 A,.slice (some ⟨gI,0,none⟩) NI NI] 37 hI);(replace hin:=hin.alloc (.cells #[.int .i64 A,.int .i64 A,.slice (some ⟨gI,0,none⟩) NI NI] 37));(replace bSb:=bSb.alloc (.cells #[.int .i64 A,.int .i64 A,.slice (some ⟨gI,0,none⟩) NI NI] 37));(replace bMb:=bMb.alloc (.cells #[.int .i64 A,.int .i64 A,.slice (some ⟨gI,0,none⟩) NI NI] 37));(replace bC:=bC.alloc (.cells #[.int .i64 A,.int .i64 A,.slice (some ⟨gI,0,none⟩) NI NI] 37));(replace bD:=bD.alloc (.cells #[.int .i64 A,.int .i64 A,.slice (some ⟨gI,0,none⟩) NI NI] 37));(replace hS:=hS.call ((Below.refl _ _).alloc (Nat.le_refl _) (.cells #[.int .i64 A,.int .i64 A,.slice (some ⟨gI,0,none⟩) NI NI] 37)));(replace hd:=hd.call ((Below.refl _ _).alloc (Nat.le_refl _) (.cells #[.int .i64 A,.int .i64 A,.slice (some ⟨gI,0,none⟩) NI NI] 37)));(replace hg1:=hg1.call ((Below.refl _ _).alloc (Nat.le_refl _) (.cells #[.int .i64 A,.int .i64 A,.slice (some ⟨gI,0,none⟩) NI NI] 37)));(replace hg3:=hg3.call ((Below.refl _ _).alloc (Nat.le_refl _) (.cells #[.int .i64 A,.int .i64 A,.slice (some ⟨gI,0,none⟩) NI NI] 37)));(replace hvb:=hvb.call ((Below.refl _ _).alloc (Nat.le_refl _) (.cells #[.int .i64 A,.int .i64 A,.slice (some ⟨gI,0,none⟩) NI NI] 37)));(replace hgo:=hgo.call ((Below.refl _ _).alloc (Nat.le_refl _) (.cells #[.int .i64 A,.int .i64 A,.slice (some ⟨gI,0,none⟩) NI NI] 37)));(replace hc:=hc.call ((Below.refl _ _).alloc (Nat.le_refl _) (.cells #[.int .i64 A,.int .i64 A,.slice (some ⟨gI,0,none⟩) NI NI] 37)));(replace hr:=hr.call ((Below.refl _ _).alloc (Nat.le_refl _) (.cells #[.int .i64 A,.int .i64 A,.slice (some ⟨gI,0,none⟩) NI NI] 37)));(replace hvr:=hvr.call ((Below.refl _ _).alloc (Nat.le_refl _) (.cells #[.int .i64 A,.int .i64 A,.slice (some ⟨gI,0,none⟩) NI NI] 37)));(replace hdi:=hdi.call ((Below.refl _ _).alloc (Nat.le_refl _) (.cells #[.int .i64 A,.int .i64 A,.slice (some ⟨gI,0,none⟩) NI NI] 37)));(rw[←hI]);clear hI;(generalize wc16.alloc (.cells #[.int .i64 A,.int .i64 A,.slice (some ⟨gI,0,none⟩) NI NI] 37)=W17 at *))
  rename_i yy50_ yy51_ yy52_ yy53_ yy54_ yy55_ yy56_
  revert w N la lc l ka kc ks ba bc qb hob cz a n hn6 yy10_ S0 W1 V W2 wc3 hbn M HMZ wc4 ra rk Sb wS wc6 gM NM Mb W7 t ii wc8 a2 k2 a1 k1 a3 k3 HLEN A O hlen HA HO HGR wc9 va vk wc10 ao ko HNS wc11 yy50_ gC NC C W12 wc13 yy51_ gD ND ga gk D W14 wc15 db wc16 yy52_ IV gI NI HIV yy53_ yy54_ yy55_ yy56_ I W17 bI hin bSb bMb bC bD hS hd hg1 hg3 hvb hgo hc hr hvr hdi
  exact Kcut.out
 ⟩
set_option maxRecDepth 100000 in
set_option maxHeartbeats 16000000 in
def complement21_any_q6:{P:Prop // P→complement21_any_q5.1}:=⟨_,fun Kcut=>by
 replace Kcut:Keep _:=⟨Kcut⟩
 intro w N la lc l ka kc ks ba bc qb hob cz a n hn6 yy10_ S0 W1 V W2 wc3 hbn M HMZ wc4 ra rk Sb wS wc6 gM NM Mb W7 t ii wc8 a2 k2 a1 k1 a3 k3 HLEN A O hlen HA HO HGR wc9 va vk wc10 ao ko HNS wc11 yy50_ gC NC C W12 wc13 yy51_ gD ND ga gk D W14 wc15 db wc16 yy52_ IV gI NI HIV yy53_ yy54_ yy55_ yy56_ I W17 bI hin bSb bMb bC bD hS hd hg1 hg3 hvb hgo hc hr hvr hdi
 have cs:=lsame_any W17 (.slice ao O ko) (.slice a3 O k3) (outer n ii) (outer n ii) hgo hg3 (by rw[←HO.out];omega) (by rw[←HO.out];omega)
 rw[decide_eq_true rfl] at cs
 (go_wp2_with fail;(((with_reducible refine(cs).mono ?_)));rintro e wc18 ⟨rfl,hb⟩;clear cs hgo;replace hin:=hin.call hb;replace hS:=hS.call hb;replace hd:=hd.call hb;replace hg1:=hg1.call hb;replace hg3:=hg3.call hb;replace hvb:=hvb.call hb;replace hc:=hc.call hb;replace hr:=hr.call hb;replace hvr:=hvr.call hb;replace hdi:=hdi.call hb;replace bSb:=bSb.call hb;replace bMb:=bMb.call hb;replace bC:=bC.call hb;replace bD:=bD.call hb;replace bI:=bI.call hb;clear hb)
 go_upto_region 15 with fail
 rename_i yy60_ yy61_
 revert w N la lc l ka kc ks ba bc qb hob cz a n hn6 yy10_ S0 W1 V W2 wc3 hbn M HMZ wc4 ra rk Sb wS wc6 gM NM Mb W7 t ii wc8 a2 k2 a1 k1 a3 k3 HLEN A O hlen HA HO HGR wc9 va vk wc10 ao ko HNS wc11 yy50_ gC NC C W12 wc13 yy51_ gD ND ga gk D W14 wc15 db wc16 yy52_ IV gI NI HIV I W17 wc18 hin hS hd hg1 hg3 hvb hc hr hvr hdi bSb bMb bC bD bI yy60_ yy61_
 exact Kcut.out
 ⟩
set_option maxRecDepth 100000 in
set_option maxHeartbeats 16000000 in
def complement21_any_q7:{P:Prop // P→complement21_any_q6.1}:=⟨_,fun Kcut=>by
 replace Kcut:Keep _:=⟨Kcut⟩
 intro w N la lc l ka kc ks ba bc qb hob cz a n hn6 yy10_ S0 W1 V W2 wc3 hbn M HMZ wc4 ra rk Sb wS wc6 gM NM Mb W7 t ii wc8 a2 k2 a1 k1 a3 k3 HLEN A O hlen HA HO HGR wc9 va vk wc10 ao ko HNS wc11 yy50_ gC NC C W12 wc13 yy51_ gD ND ga gk D W14 wc15 db wc16 yy52_ IV gI NI HIV I W17 wc18 hin hS hd hg1 hg3 hvb hc hr hvr hdi bSb bMb bC bD bI yy60_ yy61_
 have hA7:A<7:=by omega
 have hol:∀ i∈outer n ii,i<n:=fun i h=>HGR.out.split.lt (.inr h)
 have hoL:(outer n ii).length≤2048:=by rw[←HO.out];omega
 have hiL:ii.length≤2048:=by rw[←HA.out];omega
 have hzoo:=sub_szk HMZ.out hol hol
 have hzoi:=sub_szk HMZ.out hol HGR.out.2
 have hzio:=sub_szk HMZ.out HGR.out.2 hol
 have hzI:Mz A A (jz A 2601) IV:=by rw[HIV.out,HA.out];exact invM_szk (by decide) (sub_szk HMZ.out HGR.out.2 HGR.out.2)
 rw[←HO.out] at hzoo hzoi hzio
 rw[←HA.out] at hzoi hzio
 have hzP:Mz O A (lz A 2601) (mulM A (sub M (outer n ii) ii) IV):=mulM_szk (by decide) hzoi hzI
 have hzQ:Mz O O (pz A 2601) (mulM A (mulM A (sub M (outer n ii) ii) IV) (sub M ii (outer n ii))):=mulM_szk (by unfold lz;omega) hzP hzio
 have hpg:=pz_le (a:=A) (z:=2601) (by decide)
 have hgA:=c_gz A hA7
 have b1:=fun W (h:In wc18.heap.size wc18 W)=>lblock_any W (.agg #[.int .i64 n,.int .i64 n,.slice (some ⟨gM,0,none⟩) NM NM]) n M (hd.call h.bel) (by omega) (.slice a3 O k3) (.slice a3 O k3) (outer n ii) (outer n ii) (hg3.call h.bel) (hg3.call h.bel) hol hol hoL hoL
 have b2:=fun W (h:In wc18.heap.size wc18 W)=>lblock_any W (.agg #[.int .i64 n,.int .i64 n,.slice (some ⟨gM,0,none⟩) NM NM]) n M (hd.call h.bel) (by omega) (.slice a3 O k3) (.slice a1 A k1) (outer n ii) ii (hg3.call h.bel) (hg1.call h.bel) hol HGR.out.2 hoL hiL
 have b3:=fun W (h:In wc18.heap.size wc18 W)=>lblock_any W (.agg #[.int .i64 n,.int .i64 n,.slice (some ⟨gM,0,none⟩) NM NM]) n M (hd.call h.bel) (by omega) (.slice a1 A k1) (.slice a3 O k3) ii (outer n ii) (hg1.call h.bel) (hg3.call h.bel) HGR.out.2 hol hiL hoL
 simp only[←HO.out] at b1
 simp only[←HO.out,←HA.out] at b2 b3
 have t1:=fun W x (h:In wc18.heap.size wc18 W) (hx:MatS W x O A (sub M (outer n ii) ii))=>ltimes_any (j:=2601) (l:=jz A 2601) W x (.agg #[.int .i64 A,.int .i64 A,.slice (some ⟨gI,0,none⟩) NI NI]) O A A (sub M (outer n ii) ii) IV hx.mat (hdi.call h.bel).mat (by omega) (by omega) (by omega) hzoi hzI (by decide) (Nat.mul_pos (by decide) (Nat.pow_pos (by decide))) (c_lz A hA7)
 have t2:=fun W x y (hx:MatAt W x O A (dense O A (mulM A (sub M (outer n ii) ii) IV))) (hy:MatS W y A O (sub M ii (outer n ii)))=>ltimes_any (j:=lz A 2601) (l:=2601) W x y O A O (mulM A (sub M (outer n ii) ii) IV) (sub M ii (outer n ii)) hx hy.mat (by omega) (by omega) (by omega) hzP hzio (by unfold lz;omega) (by decide) (c_pz A hA7)
 have cmi:=fun W x y (hx:MatS W x O O (sub M (outer n ii) (outer n ii))) (hy:MatAt W y O O (dense O O (mulM A (mulM A (sub M (outer n ii) ii) IV) (sub M ii (outer n ii)))))=>lminus_any (j:=gz A 2601) W x y O O (sub M (outer n ii) (outer n ii)) (mulM A (mulM A (sub M (outer n ii) ii) IV) (sub M ii (outer n ii))) hx.mat hy (by omega) (by omega) (hzoo.mono (by omega)) (hzQ.mono (by omega)) (by omega) (by omega)
 have esc:(fun i k=>sub M (outer n ii) (outer n ii) i k - mulM A (mulM A (sub M (outer n ii) ii) IV) (sub M ii (outer n ii)) i k)=schur M ii (outer n ii) IV:=by
  funext i k
  unfold schur
  rw[←HA.out]
 simp only[esc] at cmi
 clear esc hzoo hzoi hzio hzI hzP hzQ hpg hgA hol hoL hiL hA7
 (have m0:=bMb.c0;have m1:=bMb.c1;have m2:=bMb.c2;have ml:=bMb.lt)
 (have i0:=bI.c0;have i1:=bI.c1;have i2:=bI.c2;have il:=bI.lt)
 have h:=In.self wc18;have hc:=h.cell;have hf:=h.frozen;refine tfw 17 ?_;refine tset ?_;(repeat (first | refine tfs ?_))
 (with_reducible refine flow_rel (Vi:=MsV O O (sub M (outer n ii) (outer n ii))) false ?_ ?_ ?_ ?_ ?_ ?_);(focus rfl);(focus rfl);(focus exact stable_msv _ _ _);(focus exact placed_false _);(focus (intro u w1 hw hd;replace hd:=thn hd;have hc':=hw.cell;go_simp;(try simp only[okUpon]);go_at_call 27;((with_reducible refine(b1 _ hw.ins).mono ?_));rintro e w'' ⟨⟨v,rfl,hv⟩,hb⟩;exact⟨v,rfl,⟨hv,fun h=>by cases h⟩,hb⟩))
 (repeat (first | refine tfs ?_))
 (with_reducible refine flow_rel (Vi:=MsV O A (sub M (outer n ii) ii)) false ?_ ?_ ?_ ?_ ?_ ?_);(focus rfl);(focus rfl);(focus exact stable_msv _ _ _);(focus exact placed_false _);(focus (intro u w1 hw hd;replace hd:=thn hd;have hc':=hw.cell;go_simp;(try simp only[okUpon]);go_at_call 27;((with_reducible refine(b2 _ hw.ins).mono ?_));rintro e w'' ⟨⟨v,rfl,hv⟩,hb⟩;exact⟨v,rfl,⟨hv,fun h=>by cases h⟩,hb⟩))
 (repeat (first | refine tfs ?_))
 (with_reducible refine flow_rel (Vi:=MaV O A (mulM A (sub M (outer n ii) ii) IV)) false ?_ ?_ ?_ ?_ ?_ ?_);(focus rfl);(focus rfl);(focus exact stable_mav _ _ _);(focus exact placed_false _);(focus (intro u w1 hw hd;replace hd:=thn hd;obtain⟨hd1,hd2⟩:=hd;have hc':=hw.cell;go_simp;(try simp only[okUpon]);go_at_call 35;((with_reducible refine(t1 _ _ hw.ins hd1.m).mono ?_));rintro e w'' ⟨⟨v,rfl,hv⟩,hb⟩;exact⟨v,rfl,⟨hv,fun h=>by cases h⟩,hb⟩))
 (repeat (first | refine tfs ?_))
 (with_reducible refine flow_rel (Vi:=MsV A O (sub M ii (outer n ii))) false ?_ ?_ ?_ ?_ ?_ ?_);(focus rfl);(focus rfl);(focus exact stable_msv _ _ _);(focus exact placed_false _);(focus (intro u w1 hw hd;replace hd:=thn hd;have hc':=hw.cell;go_simp;(try simp only[okUpon]);go_at_call 27;((with_reducible refine(b3 _ hw.ins).mono ?_));rintro e w'' ⟨⟨v,rfl,hv⟩,hb⟩;exact⟨v,rfl,⟨hv,fun h=>by cases h⟩,hb⟩))
 (with_reducible refine flow_rel (Vi:=MaV O O (mulM A (mulM A (sub M (outer n ii) ii) IV) (sub M ii (outer n ii)))) false ?_ ?_ ?_ ?_ ?_ ?_);(focus rfl);(focus rfl);(focus exact stable_mav _ _ _);(focus exact placed_false _);(focus (intro u w1 hw hd;replace hd:=thn hd;obtain⟨hd1,hd2⟩:=hd;have hc':=hw.cell;go_simp;(try simp only[okUpon]);go_at_call 35;((with_reducible refine(t2 _ _ _ hd1.m hd2.1.m).mono ?_));rintro e w'' ⟨⟨v,rfl,hv⟩,hb⟩;exact⟨v,rfl,⟨hv,fun h=>by cases h⟩,hb⟩))
 (with_reducible refine flow_rel (Vi:=MaV O O (schur M ii (outer n ii) IV)) false ?_ ?_ ?_ ?_ ?_ ?_);(focus rfl);(focus rfl);(focus exact stable_mav _ _ _);(focus exact placed_false _);(focus (intro u w1 hw hd;replace hd:=thn hd;obtain⟨hd1,hd2⟩:=hd;have hc':=hw.cell;go_simp;(try simp only[okUpon]);go_at_call 34;((with_reducible refine(cmi _ _ _ hd1.m hd2.1.m).mono ?_));rintro e w'' ⟨⟨v,rfl,hv⟩,hb⟩;exact⟨v,rfl,⟨hv,fun h=>by cases h⟩,hb⟩))
 (repeat (first | refine tfs ?_))
 (try clear hc hf h);intro u w' h ha hdi;replace h:=tsz h.ins;replace ha:=tah ha;have hc:=h.cell;have hf:=h.frozen;clear hdi hc hf;rename World=>wf
 (try simp only[ext,Nat.reduceEqDiff,reduceIte] at ha)
 obtain⟨⟨ha0,hW⟩,Wb,hu,hWb,bWb⟩:=ha
 clear ha0
 obtain⟨x9,hwe,_,hW9⟩:=hW.m
 obtain⟨aw,kw,rfl⟩:=hW9.shape
 obtain⟨NW,hNW⟩:∃ k,k=(dense O O (schur M ii (outer n ii) IV)).length:=⟨_,rfl⟩
 rw[←hNW] at hwe hW9
 clear hNW hW
 (try dsimp only)
 simp only[hwe,hu]
 clear hwe hu b1 b2 b3 t1 t2 cmi
 have KW:=Lib.hid (((hW9.apart (x:=.int .i64 (O:Nat)) bWb 0).apart (x:=.int .i64 (O:Nat)) (bWb.set 0 (.int .i64 (O:Nat))) 1).apart (x:=.slice aw NW kw) ((bWb.set 0 (.int .i64 (O:Nat))).set 1 (.int .i64 (O:Nat))) 2)
 clear hW9
 (have p0:=bWb.c0;have p1:=bWb.c1;have p2:=bWb.c2;(have pf0:=bWb.frozen 0);(have pf1:=bWb.frozen 1);(have pf2:=bWb.frozen 2);have pl:=bWb.lt;(have KS:=Lib.hid (((bWb.set 0 (.int .i64 O)).set 1 (.int .i64 O)).set 2 (.slice aw NW kw)));(have KH:=Lib.hid (((h.setCell (p:=⟨Wb,0,none⟩) (by first | exact hWb |(simp;omega)) (.int .i64 O)).setCell (p:=⟨Wb,1,none⟩) (by first | exact hWb |(simp;omega)) (.int .i64 O)).setCell (p:=⟨Wb,2,none⟩) (by first | exact hWb |(simp;omega)) (.slice aw NW kw)));clear h bWb;(go_upto_region 16 with fail);have hb:=KH.out.bel;have bWb:=KS.out;simp only[List.set] at bWb;clear m0 m1 m2 ml i0 i1 i2 il;replace hin:=hin.call hb;replace hS:=hS.call hb;replace hd:=hd.call hb;replace hg1:=hg1.call hb;replace hg3:=hg3.call hb;replace hvb:=hvb.call hb;replace hc:=hc.call hb;replace hr:=hr.call hb;replace hvr:=hvr.call hb;replace hdi:=hdi.call hb;replace bSb:=bSb.call hb;replace bMb:=bMb.call hb;replace bC:=bC.call hb;replace bD:=bD.call hb;replace bI:=bI.call hb;clear KS KH hb pl p0 p1 p2 pf0 pf1 pf2;(generalize ((wf.setCell ⟨Wb,0,none⟩ (.int .i64 O)).setCell ⟨Wb,1,none⟩ (.int .i64 O)).setCell ⟨Wb,2,none⟩ (.slice aw NW kw)=w15 at *))
 have hW:MatAt w15 (.agg #[.int .i64 O,.int .i64 O,.slice aw NW kw]) O O (dense O O (schur M ii (outer n ii) IV)):=⟨_,rfl,dense_length _ _ _,KW.out⟩
 clear KW
 rename_i yy70_ yy71_ yy72_
 revert w N la lc l ka kc ks ba bc qb hob cz a n hn6 yy10_ S0 W1 V W2 wc3 hbn M HMZ wc4 ra rk Sb wS wc6 gM NM Mb W7 t ii wc8 a2 k2 a1 k1 a3 k3 HLEN A O hlen HA HO HGR wc9 va vk wc10 ao ko HNS wc11 yy50_ gC NC C W12 wc13 yy51_ gD ND ga gk D W14 wc15 db wc16 yy52_ IV gI NI HIV I W17 wc18 u wf Wb hWb yy70_ aw kw NW yy71_ yy72_ w15 bWb hin hS hd hg1 hg3 hvb hc hr hvr hdi bSb bMb bC bD bI hW
 exact Kcut.out
 ⟩
set_option maxRecDepth 100000 in
set_option maxHeartbeats 16000000 in
def complement21_any_q8:{P:Prop // P→complement21_any_q7.1}:=⟨_,fun Kcut=>by
 replace Kcut:Keep _:=⟨Kcut⟩
 intro w N la lc l ka kc ks ba bc qb hob cz a n hn6 yy10_ S0 W1 V W2 wc3 hbn M HMZ wc4 ra rk Sb wS wc6 gM NM Mb W7 t ii wc8 a2 k2 a1 k1 a3 k3 HLEN A O hlen HA HO HGR wc9 va vk wc10 ao ko HNS wc11 yy50_ gC NC C W12 wc13 yy51_ gD ND ga gk D W14 wc15 db wc16 yy52_ IV gI NI HIV I W17 wc18 u wf Wb hWb yy70_ aw kw NW yy71_ yy72_ w15 bWb hin hS hd hg1 hg3 hvb hc hr hvr hdi bSb bMb bC bD bI hW
 have cp:=vpart_ok w15 (.slice va n vk) n (mEl qb) hvb a1 k1 ii hg1.ints HGR.out.2 (by omega) (by rw[←HA.out];omega)
 rw[←HA.out] at cp
 (go_wp2_with fail;(((with_reducible refine(cp).mono ?_)));(rintro e wc20 ⟨⟨d,rfl,hvi⟩,hb⟩);clear cp;replace hin:=hin.call hb;replace hS:=hS.call hb;replace hd:=hd.call hb;replace hg1:=hg1.call hb;replace hg3:=hg3.call hb;replace hvb:=hvb.call hb;replace hc:=hc.call hb;replace hr:=hr.call hb;replace hvr:=hvr.call hb;replace hdi:=hdi.call hb;replace hW:=hW.call hb;replace bSb:=bSb.call hb;replace bMb:=bMb.call hb;replace bC:=bC.call hb;replace bD:=bD.call hb;replace bI:=bI.call hb;replace bWb:=bWb.call hb;clear hb)
 obtain⟨ia,ik,hie⟩:=hvi.shape
 rw[vl_length] at hie
 subst hie
 have cp:=vpart_ok wc20 (.slice va n vk) n (mEl qb) hvb a3 k3 (outer n ii) hg3.ints (fun(i:Nat) (h:i∈outer n ii)=>HGR.out.split.lt (.inr h)) (by omega) (by rw[←HO.out];omega)
 rw[←HO.out] at cp
 (go_wp2_with fail;(((with_reducible refine(cp).mono ?_)));(rintro e wc21 ⟨⟨d,rfl,hvo⟩,hb⟩);clear cp;replace hin:=hin.call hb;replace hS:=hS.call hb;replace hd:=hd.call hb;replace hg1:=hg1.call hb;replace hg3:=hg3.call hb;replace hvb:=hvb.call hb;replace hc:=hc.call hb;replace hr:=hr.call hb;replace hvr:=hvr.call hb;replace hdi:=hdi.call hb;replace hW:=hW.call hb;replace hvi:=hvi.call hb;replace bSb:=bSb.call hb;replace bMb:=bMb.call hb;replace bC:=bC.call hb;replace bD:=bD.call hb;replace bI:=bI.call hb;replace bWb:=bWb.call hb;clear hb)
 obtain⟨oa,ok,hoe⟩:=hvo.shape
 rw[vl_length] at hoe
 subst hoe
 have hA7:A<7:=by omega
 have hzI:Mz A A (jz A 2601) IV:=by rw[HIV.out,HA.out];exact invM_szk (by decide) (sub_szk HMZ.out HGR.out.2 HGR.out.2)
 have hzi:Vz A 2601 (rs ii (mEl qb)):=fun i _=>(mEl_sz64 hob _).mono (by decide)
 have hzo:Vz O 2601 (rs (outer n ii) (mEl qb)):=fun i _=>(mEl_sz64 hob _).mono (by decide)
 have hjp:0<jz A 2601:=Nat.mul_pos (by decide) (Nat.pow_pos (by decide))
 have ca:=mapp_mv (j:=jz A 2601) (l:=2601) wc21 (.agg #[.int .i64 A,.int .i64 A,.slice (some ⟨gI,0,none⟩) NI NI]) (.slice ia A ik) A A IV (rs ii (mEl qb)) hdi hvi (by omega) (by omega) hzI hzi hjp (by decide) (Nat.lt_trans (c_ap A hA7) (by decide))
 have hzy:Vz A (1+A*(jz A 2601+2601+1)) (mv A IV (rs ii (mEl qb))):=mv_szk hjp hzI hzi
 (have i0:=bI.c0;have i1:=bI.c1;have i2:=bI.c2;have il:=bI.lt)
 (go_wp2_with fail;(((with_reducible refine(ca).mono ?_)));(rintro e wc22 ⟨⟨d,rfl,hvy⟩,hb⟩);clear i0 i1 i2 il ca;replace hin:=hin.call hb;replace hS:=hS.call hb;replace hd:=hd.call hb;replace hg1:=hg1.call hb;replace hg3:=hg3.call hb;replace hvb:=hvb.call hb;replace hc:=hc.call hb;replace hr:=hr.call hb;replace hvr:=hvr.call hb;replace hdi:=hdi.call hb;replace hW:=hW.call hb;replace hvi:=hvi.call hb;replace hvo:=hvo.call hb;replace bSb:=bSb.call hb;replace bMb:=bMb.call hb;replace bC:=bC.call hb;replace bD:=bD.call hb;replace bI:=bI.call hb;replace bWb:=bWb.call hb;clear hb)
 obtain⟨ua,uk,hue⟩:=hvy.shape
 rw[vl_length] at hue
 subst hue
 have b2:=lblock_any wc22 (.agg #[.int .i64 n,.int .i64 n,.slice (some ⟨gM,0,none⟩) NM NM]) n M hd (by omega) (.slice a3 O k3) (.slice a1 A k1) (outer n ii) ii hg3 hg1 (fun(i:Nat) (h:i∈outer n ii)=>HGR.out.split.lt (.inr h)) HGR.out.2 (by rw[←HO.out];omega) (by rw[←HA.out];omega)
 rw[←HO.out,←HA.out] at b2
 (have m0:=bMb.c0;have m1:=bMb.c1;have m2:=bMb.c2;have ml:=bMb.lt)
 (go_wp2_with fail;(((with_reducible refine(b2).mono ?_)));(rintro e wc23 ⟨⟨d3,rfl,hd3⟩,hb⟩);clear m0 m1 m2 ml b2;replace hin:=hin.call hb;replace hS:=hS.call hb;replace hd:=hd.call hb;replace hg1:=hg1.call hb;replace hg3:=hg3.call hb;replace hvb:=hvb.call hb;replace hc:=hc.call hb;replace hr:=hr.call hb;replace hvr:=hvr.call hb;replace hdi:=hdi.call hb;replace hW:=hW.call hb;replace hvi:=hvi.call hb;replace hvo:=hvo.call hb;replace hvy:=hvy.call hb;replace bSb:=bSb.call hb;replace bMb:=bMb.call hb;replace bC:=bC.call hb;replace bD:=bD.call hb;replace bI:=bI.call hb;replace bWb:=bWb.call hb;clear hb)
 have hzoi:=sub_szk HMZ.out (fun(i:Nat) (h:i∈outer n ii)=>HGR.out.split.lt (.inr h)) HGR.out.2
 rw[←HO.out,←HA.out] at hzoi
 have ca:=mapp_mv (j:=2601) (l:=1+A*(jz A 2601+2601+1)) wc23 d3 (.slice ua A uk) O A (sub M (outer n ii) ii) (mv A IV (rs ii (mEl qb))) hd3 hvy (by omega) (by omega) hzoi hzy (by decide) (by omega) (c_ap2 A hA7)
 have hzz:Vz O (1+A*(2601+(1+A*(jz A 2601+2601+1))+1)) (mv A (sub M (outer n ii) ii) (mv A IV (rs ii (mEl qb)))):=mv_szk (by decide) hzoi hzy
 (go_wp2_with fail;(((with_reducible refine(ca).mono ?_)));(rintro e wc24 ⟨⟨d,rfl,hvz⟩,hb⟩);clear ca hd3;replace hin:=hin.call hb;replace hS:=hS.call hb;replace hd:=hd.call hb;replace hg1:=hg1.call hb;replace hg3:=hg3.call hb;replace hvb:=hvb.call hb;replace hc:=hc.call hb;replace hr:=hr.call hb;replace hvr:=hvr.call hb;replace hdi:=hdi.call hb;replace hW:=hW.call hb;replace hvi:=hvi.call hb;replace hvo:=hvo.call hb;replace hvy:=hvy.call hb;replace bSb:=bSb.call hb;replace bMb:=bMb.call hb;replace bC:=bC.call hb;replace bD:=bD.call hb;replace bI:=bI.call hb;replace bWb:=bWb.call hb;clear hb)
 obtain⟨za,zk,hze⟩:=hvz.shape
 rw[vl_length] at hze
 subst hze
 have cs:=vsub_vl (j:=2601) (l:=1+A*(2601+(1+A*(jz A 2601+2601+1))+1)) wc24 (.slice oa O ok) (.slice za O zk) (rs (outer n ii) (mEl qb)) (mv A (sub M (outer n ii) ii) (mv A IV (rs ii (mEl qb)))) hvo hvz (by omega) hzo hzz (c_ap3 A hA7)
 have ecv:(fun i=>rs (outer n ii) (mEl qb) i - mv A (sub M (outer n ii) ii) (mv A IV (rs ii (mEl qb))) i)=condV M ii (outer n ii) IV (mEl qb):=by
  funext i
  unfold condV
  rw[←HA.out]
 rw[ecv] at cs
 clear hzz hzy hzo hzi hzI hzoi hjp hA7 ecv
 (go_wp2_with fail;(((with_reducible refine(cs).mono ?_)));(rintro e wc25 ⟨⟨d,rfl,hvs⟩,hb⟩);clear cs hvy hvz hvi hvo;replace hin:=hin.call hb;replace hS:=hS.call hb;replace hd:=hd.call hb;replace hg1:=hg1.call hb;replace hg3:=hg3.call hb;replace hvb:=hvb.call hb;replace hc:=hc.call hb;replace hr:=hr.call hb;replace hvr:=hvr.call hb;replace hdi:=hdi.call hb;replace hW:=hW.call hb;replace bSb:=bSb.call hb;replace bMb:=bMb.call hb;replace bC:=bC.call hb;replace bD:=bD.call hb;replace bI:=bI.call hb;replace bWb:=bWb.call hb;clear hb)
 obtain⟨sa,sk,hse⟩:=hvs.shape
 rw[vl_length] at hse
 subst hse
 go_upto_region 21 with fail
 rename_i yy80_ yy81_
 revert w N la lc l ka kc ks ba bc qb hob cz a n hn6 yy10_ S0 W1 V W2 wc3 hbn M HMZ wc4 ra rk Sb wS wc6 gM NM Mb W7 t ii wc8 a2 k2 a1 k1 a3 k3 HLEN A O hlen HA HO HGR wc9 va vk wc10 ao ko HNS wc11 yy50_ gC NC C W12 wc13 yy51_ gD ND ga gk D W14 wc15 db wc16 yy52_ IV gI NI HIV I W17 wc18 u wf Wb hWb yy70_ aw kw NW w15 wc20 ia ik wc21 oa ok wc22 ua uk wc23 d3 wc24 za zk wc25 hin hS hd hg1 hg3 hvb hc hr hvr hdi hW bSb bMb bC bD bI bWb sa sk hvs yy80_ yy81_
 exact Kcut.out
 ⟩
set_option maxRecDepth 100000 in
set_option maxHeartbeats 16000000 in
def complement21_any_q9:{P:Prop // P→complement21_any_q8.1}:=⟨_,fun Kcut=>by
 replace Kcut:Keep _:=⟨Kcut⟩
 intro w N la lc l ka kc ks ba bc qb hob cz a n hn6 yy10_ S0 W1 V W2 wc3 hbn M HMZ wc4 ra rk Sb wS wc6 gM NM Mb W7 t ii wc8 a2 k2 a1 k1 a3 k3 HLEN A O hlen HA HO HGR wc9 va vk wc10 ao ko HNS wc11 yy50_ gC NC C W12 wc13 yy51_ gD ND ga gk D W14 wc15 db wc16 yy52_ IV gI NI HIV I W17 wc18 u wf Wb hWb yy70_ aw kw NW w15 wc20 ia ik wc21 oa ok wc22 ua uk wc23 d3 wc24 za zk wc25 hin hS hd hg1 hg3 hvb hc hr hvr hdi hW bSb bMb bC bD bI bWb sa sk hvs yy80_ yy81_
 have cd:=edet_any (z:=2601) wc25 (.agg #[.int .i64 n,.int .i64 n,.slice (some ⟨gM,0,none⟩) NM NM]) n M hd (by omega) (by decide) HMZ.out (c_p5 _ (by omega))
 obtain⟨q1,hq1⟩:∃ q,q=detE n M:=⟨_,rfl⟩
 rw[←hq1] at cd
 have Hq1:=Lib.hid hq1
 obtain⟨P1,P2,P3,P4,P5,hP,hP'⟩:∃ A1 A2 A3 A4 A5,fracV q1=.agg #[.int .u64 A1,.string A2,.bool A3,.int .u64 A4,.string A5]∧fcs q1=[.int .u64 A1,.string A2,.bool A3,.int .u64 A4,.string A5]:=⟨_,_,_,_,_,rfl,rfl⟩
 rw[hP] at cd
 have HVP:=Lib.hid hP
 clear hP hP' hq1
 (have m0:=bMb.c0;have m1:=bMb.c1;have m2:=bMb.c2;have ml:=bMb.lt)
 (go_wp2_with fail;(((with_reducible refine(cd).mono ?_)));rintro e wc26 ⟨rfl,hb⟩;clear m0 m1 m2 ml cd;replace hin:=hin.call hb;replace hS:=hS.call hb;replace hd:=hd.call hb;replace hg1:=hg1.call hb;replace hg3:=hg3.call hb;replace hvb:=hvb.call hb;replace hc:=hc.call hb;replace hr:=hr.call hb;replace hvr:=hvr.call hb;replace hdi:=hdi.call hb;replace hW:=hW.call hb;replace hvs:=hvs.call hb;replace bSb:=bSb.call hb;replace bMb:=bMb.call hb;replace bC:=bC.call hb;replace bD:=bD.call hb;replace bI:=bI.call hb;replace bWb:=bWb.call hb;clear hb)
 go_upto_region 22 with fail
 ((obtain⟨D1,hD1⟩:∃ z,z=wc26.heap.size:=⟨_,rfl⟩);(have bD1:=Bx.new_at wc26 #[.int .u64 P1,.string P2,.bool P3,.int .u64 P4,.string P5] 72 hD1);(replace hin:=hin.alloc (.cells #[.int .u64 P1,.string P2,.bool P3,.int .u64 P4,.string P5] 72));(replace bSb:=bSb.alloc (.cells #[.int .u64 P1,.string P2,.bool P3,.int .u64 P4,.string P5] 72));(replace bMb:=bMb.alloc (.cells #[.int .u64 P1,.string P2,.bool P3,.int .u64 P4,.string P5] 72));(replace bC:=bC.alloc (.cells #[.int .u64 P1,.string P2,.bool P3,.int .u64 P4,.string P5] 72));(replace bD:=bD.alloc (.cells #[.int .u64 P1,.string P2,.bool P3,.int .u64 P4,.string P5] 72));(replace bI:=bI.alloc (.cells #[.int .u64 P1,.string P2,.bool P3,.int .u64 P4,.string P5] 72));(replace bWb:=bWb.alloc (.cells #[.int .u64 P1,.string P2,.bool P3,.int .u64 P4,.string P5] 72));(replace hS:=hS.call ((Below.refl _ _).alloc (Nat.le_refl _) (.cells #[.int .u64 P1,.string P2,.bool P3,.int .u64 P4,.string P5] 72)));(replace hd:=hd.call ((Below.refl _ _).alloc (Nat.le_refl _) (.cells #[.int .u64 P1,.string P2,.bool P3,.int .u64 P4,.string P5] 72)));(replace hg1:=hg1.call ((Below.refl _ _).alloc (Nat.le_refl _) (.cells #[.int .u64 P1,.string P2,.bool P3,.int .u64 P4,.string P5] 72)));(replace hg3:=hg3.call ((Below.refl _ _).alloc (Nat.le_refl _) (.cells #[.int .u64 P1,.string P2,.bool P3,.int .u64 P4,.string P5] 72)));(replace hvb:=hvb.call ((Below.refl _ _).alloc (Nat.le_refl _) (.cells #[.int .u64 P1,.string P2,.bool P3,.int .u64 P4,.string P5] 72)));(replace hc:=hc.call ((Below.refl _ _).alloc (Nat.le_refl _) (.cells #[.int .u64 P1,.string P2,.bool P3,.int .u64 P4,.string P5] 72)));(replace hr:=hr.call ((Below.refl _ _).alloc (Nat.le_refl _) (.cells #[.int .u64 P1,.string P2,.bool P3,.int .u64 P4,.string P5] 72)));(replace hvr:=hvr.call ((Below.refl _ _).alloc (Nat.le_refl _) (.cells #[.int .u64 P1,.string P2,.bool P3,.int .u64 P4,.string P5] 72)));(replace hdi:=hdi.call ((Below.refl _ _).alloc (Nat.le_refl _) (.cells #[.int .u64 P1,.string P2,.bool P3,.int .u64 P4,.string P5] 72)));(replace hW:=hW.call ((Below.refl _ _).alloc (Nat.le_refl _) (.cells #[.int .u64 P1,.string P2,.bool P3,.int .u64 P4,.string P5] 72)));(replace hvs:=hvs.call ((Below.refl _ _).alloc (Nat.le_refl _) (.cells #[.int .u64 P1,.string P2,.bool P3,.int .u64 P4,.string P5] 72)));(rw[←hD1]);clear hD1;(generalize wc26.alloc (.cells #[.int .u64 P1,.string P2,.bool P3,.int .u64 P4,.string P5] 72)=W27 at *))
 have c5:=lblock_any W27 (.agg #[.int .i64 n,.int .i64 n,.slice (some ⟨gM,0,none⟩) NM NM]) n M hd (by omega) (.slice a1 A k1) (.slice a1 A k1) ii ii hg1 hg1 HGR.out.2 HGR.out.2 (by rw[←HA.out];omega) (by rw[←HA.out];omega)
 (have m0:=bMb.c0;have m1:=bMb.c1;have m2:=bMb.c2;have ml:=bMb.lt)
 (go_wp2_with fail;(((with_reducible refine(c5).mono ?_)));(rintro e wc28 ⟨⟨db,rfl,hdb⟩,hb⟩);clear m0 m1 m2 ml c5;replace hin:=hin.call hb;replace hS:=hS.call hb;replace hd:=hd.call hb;replace hg1:=hg1.call hb;replace hg3:=hg3.call hb;replace hvb:=hvb.call hb;replace hc:=hc.call hb;replace hr:=hr.call hb;replace hvr:=hvr.call hb;replace hdi:=hdi.call hb;replace hW:=hW.call hb;replace hvs:=hvs.call hb;replace bSb:=bSb.call hb;replace bMb:=bMb.call hb;replace bC:=bC.call hb;replace bD:=bD.call hb;replace bI:=bI.call hb;replace bWb:=bWb.call hb;replace bD1:=bD1.call hb;clear hb)
 have cd:=edet_any (z:=2601) wc28 db ii.length (sub M ii ii) hdb (by rw[←HA.out];omega) (by decide) (sub_szk HMZ.out HGR.out.2 HGR.out.2) (c_p5 _ (by rw[←HA.out];omega))
 obtain⟨q2,hq2⟩:∃ q,q=detE ii.length (sub M ii ii):=⟨_,rfl⟩
 rw[←hq2] at cd
 have Hq2:=Lib.hid hq2
 obtain⟨Q1,Q2,Q3,Q4,Q5,hQ,hQ'⟩:∃ A1 A2 A3 A4 A5,fracV q2=.agg #[.int .u64 A1,.string A2,.bool A3,.int .u64 A4,.string A5]∧fcs q2=[.int .u64 A1,.string A2,.bool A3,.int .u64 A4,.string A5]:=⟨_,_,_,_,_,rfl,rfl⟩
 rw[hQ] at cd
 have HVQ:=Lib.hid hQ
 clear hQ hQ' hq2
 (go_wp2_with fail;(((with_reducible refine(cd).mono ?_)));rintro e wc29 ⟨rfl,hb⟩;clear cd hdb;replace hin:=hin.call hb;replace hS:=hS.call hb;replace hd:=hd.call hb;replace hg1:=hg1.call hb;replace hg3:=hg3.call hb;replace hvb:=hvb.call hb;replace hc:=hc.call hb;replace hr:=hr.call hb;replace hvr:=hvr.call hb;replace hdi:=hdi.call hb;replace hW:=hW.call hb;replace hvs:=hvs.call hb;replace bSb:=bSb.call hb;replace bMb:=bMb.call hb;replace bC:=bC.call hb;replace bD:=bD.call hb;replace bI:=bI.call hb;replace bWb:=bWb.call hb;replace bD1:=bD1.call hb;clear hb)
 go_upto_region 23 with fail
 ((obtain⟨D2,hD2⟩:∃ z,z=wc29.heap.size:=⟨_,rfl⟩);(have bD2:=Bx.new_at wc29 #[.int .u64 Q1,.string Q2,.bool Q3,.int .u64 Q4,.string Q5] 72 hD2);(replace hin:=hin.alloc (.cells #[.int .u64 Q1,.string Q2,.bool Q3,.int .u64 Q4,.string Q5] 72));(replace bSb:=bSb.alloc (.cells #[.int .u64 Q1,.string Q2,.bool Q3,.int .u64 Q4,.string Q5] 72));(replace bMb:=bMb.alloc (.cells #[.int .u64 Q1,.string Q2,.bool Q3,.int .u64 Q4,.string Q5] 72));(replace bC:=bC.alloc (.cells #[.int .u64 Q1,.string Q2,.bool Q3,.int .u64 Q4,.string Q5] 72));(replace bD:=bD.alloc (.cells #[.int .u64 Q1,.string Q2,.bool Q3,.int .u64 Q4,.string Q5] 72));(replace bI:=bI.alloc (.cells #[.int .u64 Q1,.string Q2,.bool Q3,.int .u64 Q4,.string Q5] 72));(replace bWb:=bWb.alloc (.cells #[.int .u64 Q1,.string Q2,.bool Q3,.int .u64 Q4,.string Q5] 72));(replace bD1:=bD1.alloc (.cells #[.int .u64 Q1,.string Q2,.bool Q3,.int .u64 Q4,.string Q5] 72));(replace hS:=hS.call ((Below.refl _ _).alloc (Nat.le_refl _) (.cells #[.int .u64 Q1,.string Q2,.bool Q3,.int .u64 Q4,.string Q5] 72)));(replace hd:=hd.call ((Below.refl _ _).alloc (Nat.le_refl _) (.cells #[.int .u64 Q1,.string Q2,.bool Q3,.int .u64 Q4,.string Q5] 72)));(replace hg1:=hg1.call ((Below.refl _ _).alloc (Nat.le_refl _) (.cells #[.int .u64 Q1,.string Q2,.bool Q3,.int .u64 Q4,.string Q5] 72)));(replace hg3:=hg3.call ((Below.refl _ _).alloc (Nat.le_refl _) (.cells #[.int .u64 Q1,.string Q2,.bool Q3,.int .u64 Q4,.string Q5] 72)));(replace hvb:=hvb.call ((Below.refl _ _).alloc (Nat.le_refl _) (.cells #[.int .u64 Q1,.string Q2,.bool Q3,.int .u64 Q4,.string Q5] 72)));(replace hc:=hc.call ((Below.refl _ _).alloc (Nat.le_refl _) (.cells #[.int .u64 Q1,.string Q2,.bool Q3,.int .u64 Q4,.string Q5] 72)));(replace hr:=hr.call ((Below.refl _ _).alloc (Nat.le_refl _) (.cells #[.int .u64 Q1,.string Q2,.bool Q3,.int .u64 Q4,.string Q5] 72)));(replace hvr:=hvr.call ((Below.refl _ _).alloc (Nat.le_refl _) (.cells #[.int .u64 Q1,.string Q2,.bool Q3,.int .u64 Q4,.string Q5] 72)));(replace hdi:=hdi.call ((Below.refl _ _).alloc (Nat.le_refl _) (.cells #[.int .u64 Q1,.string Q2,.bool Q3,.int .u64 Q4,.string Q5] 72)));(replace hW:=hW.call ((Below.refl _ _).alloc (Nat.le_refl _) (.cells #[.int .u64 Q1,.string Q2,.bool Q3,.int .u64 Q4,.string Q5] 72)));(replace hvs:=hvs.call ((Below.refl _ _).alloc (Nat.le_refl _) (.cells #[.int .u64 Q1,.string Q2,.bool Q3,.int .u64 Q4,.string Q5] 72)));(rw[←hD2]);clear hD2;(generalize wc29.alloc (.cells #[.int .u64 Q1,.string Q2,.bool Q3,.int .u64 Q4,.string Q5] 72)=W30 at *))
 have hzS:Mz O O (gz A 2601) (schur M ii (outer n ii) IV):=by rw[HO.out,HIV.out,HA.out];exact schur_mzg HGR.out HMZ.out
 have cd:=edet_any (z:=gz A 2601) W30 (.agg #[.int .i64 O,.int .i64 O,.slice (some ⟨gC,0,none⟩) NC NC]) O (schur M ii (outer n ii) IV) hc (by omega) (gz_pos A 2601 (by decide)) hzS (c_g5 A (by omega) O (by omega))
 obtain⟨q3,hq3⟩:∃ q,q=detE O (schur M ii (outer n ii) IV):=⟨_,rfl⟩
 rw[←hq3] at cd
 have Hq3:=Lib.hid hq3
 obtain⟨T1,T2,T3,T4,T5,hT,hT'⟩:∃ A1 A2 A3 A4 A5,fracV q3=.agg #[.int .u64 A1,.string A2,.bool A3,.int .u64 A4,.string A5]∧fcs q3=[.int .u64 A1,.string A2,.bool A3,.int .u64 A4,.string A5]:=⟨_,_,_,_,_,rfl,rfl⟩
 rw[hT] at cd
 have HVT:=Lib.hid hT
 clear hT hT' hq3
 (have c0:=bC.c0;have c1:=bC.c1;have c2:=bC.c2;have cl:=bC.lt)
 (go_wp2_with fail;(((with_reducible refine(cd).mono ?_)));rintro e wc31 ⟨rfl,hb⟩;clear c0 c1 c2 cl cd;replace hin:=hin.call hb;replace hS:=hS.call hb;replace hd:=hd.call hb;replace hg1:=hg1.call hb;replace hg3:=hg3.call hb;replace hvb:=hvb.call hb;replace hc:=hc.call hb;replace hr:=hr.call hb;replace hvr:=hvr.call hb;replace hdi:=hdi.call hb;replace hW:=hW.call hb;replace hvs:=hvs.call hb;replace bSb:=bSb.call hb;replace bMb:=bMb.call hb;replace bC:=bC.call hb;replace bD:=bD.call hb;replace bI:=bI.call hb;replace bWb:=bWb.call hb;replace bD1:=bD1.call hb;replace bD2:=bD2.call hb;clear hb)
 go_upto_region 24 with fail
 ((obtain⟨D3,hD3⟩:∃ z,z=wc31.heap.size:=⟨_,rfl⟩);(have bD3:=Bx.new_at wc31 #[.int .u64 T1,.string T2,.bool T3,.int .u64 T4,.string T5] 72 hD3);(replace hin:=hin.alloc (.cells #[.int .u64 T1,.string T2,.bool T3,.int .u64 T4,.string T5] 72));(replace bSb:=bSb.alloc (.cells #[.int .u64 T1,.string T2,.bool T3,.int .u64 T4,.string T5] 72));(replace bMb:=bMb.alloc (.cells #[.int .u64 T1,.string T2,.bool T3,.int .u64 T4,.string T5] 72));(replace bC:=bC.alloc (.cells #[.int .u64 T1,.string T2,.bool T3,.int .u64 T4,.string T5] 72));(replace bD:=bD.alloc (.cells #[.int .u64 T1,.string T2,.bool T3,.int .u64 T4,.string T5] 72));(replace bI:=bI.alloc (.cells #[.int .u64 T1,.string T2,.bool T3,.int .u64 T4,.string T5] 72));(replace bWb:=bWb.alloc (.cells #[.int .u64 T1,.string T2,.bool T3,.int .u64 T4,.string T5] 72));(replace bD1:=bD1.alloc (.cells #[.int .u64 T1,.string T2,.bool T3,.int .u64 T4,.string T5] 72));(replace bD2:=bD2.alloc (.cells #[.int .u64 T1,.string T2,.bool T3,.int .u64 T4,.string T5] 72));(replace hS:=hS.call ((Below.refl _ _).alloc (Nat.le_refl _) (.cells #[.int .u64 T1,.string T2,.bool T3,.int .u64 T4,.string T5] 72)));(replace hd:=hd.call ((Below.refl _ _).alloc (Nat.le_refl _) (.cells #[.int .u64 T1,.string T2,.bool T3,.int .u64 T4,.string T5] 72)));(replace hg1:=hg1.call ((Below.refl _ _).alloc (Nat.le_refl _) (.cells #[.int .u64 T1,.string T2,.bool T3,.int .u64 T4,.string T5] 72)));(replace hg3:=hg3.call ((Below.refl _ _).alloc (Nat.le_refl _) (.cells #[.int .u64 T1,.string T2,.bool T3,.int .u64 T4,.string T5] 72)));(replace hvb:=hvb.call ((Below.refl _ _).alloc (Nat.le_refl _) (.cells #[.int .u64 T1,.string T2,.bool T3,.int .u64 T4,.string T5] 72)));(replace hc:=hc.call ((Below.refl _ _).alloc (Nat.le_refl _) (.cells #[.int .u64 T1,.string T2,.bool T3,.int .u64 T4,.string T5] 72)));(replace hr:=hr.call ((Below.refl _ _).alloc (Nat.le_refl _) (.cells #[.int .u64 T1,.string T2,.bool T3,.int .u64 T4,.string T5] 72)));(replace hvr:=hvr.call ((Below.refl _ _).alloc (Nat.le_refl _) (.cells #[.int .u64 T1,.string T2,.bool T3,.int .u64 T4,.string T5] 72)));(replace hdi:=hdi.call ((Below.refl _ _).alloc (Nat.le_refl _) (.cells #[.int .u64 T1,.string T2,.bool T3,.int .u64 T4,.string T5] 72)));(replace hW:=hW.call ((Below.refl _ _).alloc (Nat.le_refl _) (.cells #[.int .u64 T1,.string T2,.bool T3,.int .u64 T4,.string T5] 72)));(replace hvs:=hvs.call ((Below.refl _ _).alloc (Nat.le_refl _) (.cells #[.int .u64 T1,.string T2,.bool T3,.int .u64 T4,.string T5] 72)));(rw[←hD3]);clear hD3;(generalize wc31.alloc (.cells #[.int .u64 T1,.string T2,.bool T3,.int .u64 T4,.string T5] 72)=W32 at *))
 have s2:SzK (2601*5 ^ A) q2:=by rw[Hq2.out,HA.out];exact detE_szk (by decide) (sub_szk HMZ.out HGR.out.2 HGR.out.2)
 have s3:SzK (gz A 2601*5 ^ O) q3:=by rw[Hq3.out];exact detE_szk (gz_pos A 2601 (by decide)) hzS
 have hdet:q2*q3=q1:=by rw[Hq1.out,Hq2.out,Hq3.out,HO.out,HIV.out];exact(compl_det HGR.out HNS.out).symm
 have cm:=fmul_any q2 q3 s2 s3 (c_dd A (by omega) O (by omega))
 rw[hdet,HVP.out,HVQ.out,HVT.out] at cm
 have heq:=fun W=>fracEq_run q1 q1 W
 rw[HVP.out,decide_eq_true rfl] at heq
 have cs1:=fun W (h:In W32.heap.size W32 W)=>msame_any W (.agg #[.int .i64 O,.int .i64 O,.slice (some ⟨gC,0,none⟩) NC NC]) (.agg #[.int .i64 O,.int .i64 O,.slice aw NW kw]) O O O O _ _ (hc.call h.bel).mat (hW.call h.bel) (by rw[dense_length];exact Nat.le_trans (Nat.mul_le_mul (show O≤6 by omega) (show O≤6 by omega)) (by decide))
 have cs2:=fun W (h:In W32.heap.size W32 W)=>msame_any W (.agg #[.int .i64 O,.int .i64 O,.slice (some ⟨gD,0,none⟩) ND ND]) (.agg #[.int .i64 O,.int .i64 O,.slice aw NW kw]) O O O O _ _ (hr.call h.bel).mat (hW.call h.bel) (by rw[dense_length];exact Nat.le_trans (Nat.mul_le_mul (show O≤6 by omega) (show O≤6 by omega)) (by decide))
 have cv:=fun W (h:In W32.heap.size W32 W)=>vsame_any W (.slice ga O gk) (.slice sa O sk) _ _ (hvr.call h.bel) (hvs.call h.bel) (by rw[vl_length];omega)
 simp only[sameD_self] at cs1 cs2
 simp only[decide_true] at cv
 clear hzS s2 s3 hdet
 (have c0:=bC.c0;have c1:=bC.c1;have c2:=bC.c2;have cl:=bC.lt)
 (have d0:=bD.c0;have d1:=bD.c1;have d2:=bD.c2;have dl:=bD.lt)
 (have v0:=bWb.c0;have v1:=bWb.c1;have v2:=bWb.c2;have vl:=bWb.lt)
 (have p0:=bD1.c0;have p1:=bD1.c1;have p2:=bD1.c2;have p3:=bD1.c3;have p4:=bD1.c4;have pl:=bD1.lt)
 (have q0:=bD2.c0;have q1:=bD2.c1;have q2:=bD2.c2;have q3:=bD2.c3;have q4:=bD2.c4;have ql:=bD2.lt)
 (have t0:=bD3.c0;have t1:=bD3.c1;have t2:=bD3.c2;have t3:=bD3.c3;have t4:=bD3.c4;have tl:=bD3.lt)
 rename_i yy90_ yy91_ yy92_ yy93_ yy94_ yy95_
 revert w N la lc l ka kc ks ba bc qb hob cz a n hn6 yy10_ S0 W1 V W2 wc3 hbn M HMZ wc4 ra rk Sb wS wc6 gM NM Mb W7 t ii wc8 a2 k2 a1 k1 a3 k3 HLEN A O hlen HA HO HGR wc9 va vk wc10 ao ko HNS wc11 yy50_ gC NC C W12 wc13 yy51_ gD ND ga gk D W14 wc15 yy90_ wc16 yy52_ IV gI NI HIV I W17 wc18 u wf Wb hWb yy70_ aw kw NW w15 wc20 ia ik wc21 oa ok wc22 ua uk wc23 d3 wc24 za zk wc25 sa sk yy91_ Hq1 P1 P2 P3 P4 P5 HVP wc26 D1 W27 wc28 db yy92_ Hq2 Q1 Q2 Q3 Q4 Q5 HVQ wc29 D2 W30 yy93_ Hq3 T1 T2 T3 T4 T5 HVT wc31 yy94_ yy95_ D3 W32 bD3 hin bSb bMb bC bD bI bWb bD1 bD2 hS hd hg1 hg3 hvb hc hr hvr hdi hW hvs cm heq cs1 cs2 cv c0 c1 c2 cl d0 d1 d2 dl v0 v1 v2 vl p0 p1 p2 p3 p4 pl q0 q1 q2 q3 q4 ql t0 t1 t2 t3 t4 tl
 exact Kcut.out
 ⟩
set_option maxRecDepth 100000 in
set_option maxHeartbeats 16000000 in
theorem complement21_any_q10:complement21_any_q9.1:=by
 intro w N la lc l ka kc ks ba bc qb hob cz a n hn6 yy10_ S0 W1 V W2 wc3 hbn M HMZ wc4 ra rk Sb wS wc6 gM NM Mb W7 t ii wc8 a2 k2 a1 k1 a3 k3 HLEN A O hlen HA HO HGR wc9 va vk wc10 ao ko HNS wc11 yy50_ gC NC C W12 wc13 yy51_ gD ND ga gk D W14 wc15 yy90_ wc16 yy52_ IV gI NI HIV I W17 wc18 u wf Wb hWb yy70_ aw kw NW w15 wc20 ia ik wc21 oa ok wc22 ua uk wc23 d3 wc24 za zk wc25 sa sk yy91_ Hq1 P1 P2 P3 P4 P5 HVP wc26 D1 W27 wc28 db yy92_ Hq2 Q1 Q2 Q3 Q4 Q5 HVQ wc29 D2 W30 yy93_ Hq3 T1 T2 T3 T4 T5 HVT wc31 yy94_ yy95_ D3 W32 bD3 hin bSb bMb bC bD bI bWb bD1 bD2 hS hd hg1 hg3 hvb hc hr hvr hdi hW hvs cm heq cs1 cs2 cv c0 c1 c2 cl d0 d1 d2 dl v0 v1 v2 vl p0 p1 p2 p3 p4 pl q0 q1 q2 q3 q4 ql t0 t1 t2 t3 t4 tl
 have h:=In.self W32;have hc:=h.cell;have hf:=h.frozen;refine tfwE 41 ?_;refine tset ?_;(repeat (first | refine tfs ?_ |((first |((with_reducible refine flow_pure0 (v:=?_) ?_ ?_ ?_ ?_);rotate_left 1;exact trr;exact trf)|((with_reducible refine flow_pureg (v:=?_) (j:=?_) (b:=?_) ?_ ?_ ?_ ?_);rotate_left 3;exact trr;(focus (intro u w1 hw hd;replace hd:=thn hd;simp[yielded,hd];done))));(focus (intro u w1 hw hd;replace hd:=thn hd;have hc':=hw.cell;go_simp;first |(go_at_call 24;((with_reducible refine(cs1 _ hw.ins).mono ?_));rintro e w'' ⟨rfl,hb⟩;refine⟨?_,hb⟩;exact rfl)|(go_at_call 24;((with_reducible refine(cs2 _ hw.ins).mono ?_));rintro e w'' ⟨rfl,hb⟩;refine⟨?_,hb⟩;exact rfl)|(go_at_call 32;((with_reducible refine(cv _ hw.ins).mono ?_));rintro e w'' ⟨rfl,hb⟩;refine⟨?_,hb⟩;exact rfl)|(go_at_call 39;((with_reducible refine(cm _).mono ?_));rintro e w'' ⟨rfl,hb⟩;refine⟨?_,hb⟩;exact rfl)|(go_at_call 8;((with_reducible refine(cz _).mono ?_));rintro e w'' ⟨rfl,hb⟩;refine⟨?_,hb⟩;exact rfl))))| fail))
 (try clear hc hf h);intro u w' h ha hdi;replace h:=tsz h.ins;replace ha:=tah ha;have hc:=h.cell;have hf:=h.frozen
 (try obtain ha:=ha);(try dsimp only);simp only[ha];clear ha hdi
 have hbel:=(hin.call h.bel).bel
 clear hc hf h hin
 go_wp2_with fail
 go_ret
 exact⟨rfl,hbel⟩
set_option maxRecDepth 100000 in
set_option maxHeartbeats 16000000 in
theorem complement21_any (w:World) (N:Nat) (hN:N<256) (la:Option Addr) (lc:Nat) (l:List TQ) (hl:TAt w la l) (hok:TOk l) (hL:l.length≤maxLen) (ka:Option Addr) (kc:Nat) (ks:List Nat) (hk:U8At w ka ks) (hk8:∀ i,ks.getD i 0<256) (hLk:ks.length≤maxLen) (z:Int) (hz:0≤z∧z<256) (ba:Option Addr) (bc:Nat) (qb:List (Int×Int)) (hqb:QAt w ba qb) (hob:QOk qb) (hLb:qb.length≤maxLen) :
  Calls Tryz.prog 7 #[.agg #[.int .u8 N,.slice la l.length lc],.slice ka ks.length kc,.int .u8 z,.slice ba qb.length bc] w fun e w'=>e=.returned (.bool true)∧Below w.heap.size w w':=(complement21_any_q1.2 (complement21_any_q2.2 (complement21_any_q3.2 (complement21_any_q4.2 (complement21_any_q5.2 (complement21_any_q6.2 (complement21_any_q7.2 (complement21_any_q8.2 (complement21_any_q9.2 complement21_any_q10))))))))) w N hN la lc l hl hok hL ka kc ks hk hk8 hLk z hz ba bc qb hqb hob hLb
end Gus
end
