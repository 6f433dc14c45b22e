/- Proved here: parts of the proof: KSrn. Conditions: those that each theorem states. -/
import Derived.Test.YthblojaeoiemmaaGreatDoorKSrlQ
section
namespace Gus
open Go Go.RowKit Go.Proofs
def bump (oo:List Nat) (y k:Nat):List Nat:=if oo.idxOf y<k then [oo.idxOf y] else []
theorem bump_zero (oo:List Nat) (y:Nat):bump oo y 0=[]:=if_neg (Nat.not_lt_zero _)
theorem bump_hit {oo:List Nat} {y k:Nat} (hn:oo.Nodup) (hk:k<oo.length) (h:oo.getD k 0=y):bump oo y k=[]∧bump oo y (k+1)=[k]:=by
 have e:oo.idxOf y=k:=by rw[←h];exact idx_getD hn hk
 unfold bump
 rw[e,if_neg (by omega),if_pos (by omega)]
 exact⟨rfl,rfl⟩
theorem bump_miss {oo:List Nat} {y k:Nat} (hy:y∈oo) (hn:oo.Nodup) (h:¬ oo.getD k 0=y):bump oo y (k+1)=bump oo y k:=by
 have e:oo.idxOf y≠k:=fun e=>h (by rw[←e];exact(getD_idx hn hy).2)
 unfold bump
 by_cases hl:oo.idxOf y<k
 ·rw[if_pos hl,if_pos (by omega)]
 ·rw[if_neg hl,if_neg (by omega)]
theorem bump_end {oo:List Nat} {y:Nat} (hy:y∈oo) (hn:oo.Nodup):bump oo y oo.length=[oo.idxOf y]:=if_pos (getD_idx hn hy).1
theorem places_take {oo l:List Nat} {i:Nat} (hi:i<l.length):(places oo l).take (i+1)=(places oo l).take i ++ [oo.idxOf (l.getD i 0)]:=by
 rw[←take_snoc0 (places oo l) (by rw[places_length];exact hi)]
 congr 2
 simp[places,List.getD_eq_getElem?_getD,List.getElem?_eq_getElem hi]
theorem join_ints {w:World} {lo A B:Nat} {v:Value} {ii tt:List Nat} (hA:A=ii.length) (hB:B=tt.length) (h:w.ownsRow lo 3 1 v (0+A+B) ([] ++ icl ii ++ icl tt)):GrpAt w v (ii ++ tt):=by
 have e:([] ++ icl ii ++ icl tt)=icl (ii ++ tt):=by simp[icl]
 rw[e,hA,hB,Nat.zero_add,←List.length_append] at h
 obtain⟨a,c,h1,h2⟩:=pivs_ints h
 exact⟨a,c,h1,h2⟩
def CRes (w:World) (ii oo:List Nat) (M:Mx) (r c:Nat) (a:Option Addr) (l k:Nat) (E:Int):Prop:=(NS ii.length (sub M ii ii)∧E=0∧r=oo.length∧c=oo.length∧MatS w (.agg #[.int .i64 r,.int .i64 c,.slice a l k]) oo.length oo.length (schur M ii oo (invM ii.length (sub M ii ii))))∨(¬ NS ii.length (sub M ii ii)∧E=6∧r=0∧c=0∧a=none∧l=0∧k=0)
theorem CRes.call {w w':World} {ii oo:List Nat} {M:Mx} {r c:Nat} {a:Option Addr} {l k:Nat} {E:Int} (h:CRes w ii oo M r c a l k E) (hb:Below w.heap.size w w'):CRes w' ii oo M r c a l k E:=h.imp (fun⟨h1,h2,h4,h5,h3⟩=>⟨h1,h2,h4,h5,h3.call hb⟩) id
theorem CRes.put3 {w:World} {ii oo:List Nat} {M:Mx} {r c:Nat} {a:Option Addr} {l k:Nat} {E:Int} (h:CRes w ii oo M r c a l k E) {S:Nat} {cs:List Value} (hS:Bx w S 37 cs) (x0 x1 x2:Value):CRes (((w.setCell ⟨S,0,none⟩ x0).setCell ⟨S,1,none⟩ x1).setCell ⟨S,2,none⟩ x2) ii oo M r c a l k E:=h.imp (fun⟨h1,h2,h4,h5,h3⟩=>⟨h1,h2,h4,h5,h3.put3' hS x0 x1 x2⟩) id
theorem scompl_gen {z:Nat} (w:World) (s gv:Value) (n:Nat) (ii:List Nat) (M:Mx) (hS:SpM w s n n M) (hG:GrpAt w gv ii) (hg:Grp n ii) (hn:n≤16) (hz:1≤z) (hzM:Mz n n z M) (hcap:5*(z*5 ^ ii.length)+2<17592186044416) (hcap2:NS ii.length (sub M ii ii)→gz ii.length z<17592186044416) :
  Calls Tryz.prog 14 #[s,gv] w fun e w'=>(∃ (r c:Nat) (a:Option Addr) (l k:Nat) (E:Int),e=.returned (.tuple #[.agg #[.int .i64 r,.int .i64 c,.slice a l k],.int .i64 E])∧CRes w' ii (outer n ii) M r c a l k E)∧Below w.heap.size w w':=
 (scomplement_ok w s gv n ii M hS hG hg hn hz hzM hcap hcap2).mono fun e w' ⟨h,hb⟩=>⟨by
  rcases h with ⟨h1,d,h2,h3⟩|⟨h1,h2⟩
  ·obtain⟨g,N,_,he,_⟩:=id h3
   subst he
   exact⟨_,_,_,_,_,_,h2,.inl ⟨h1,rfl,rfl,rfl,h3⟩⟩
  ·exact⟨0,0,none,0,0,6,h2,.inr ⟨h1,rfl,rfl,rfl,rfl,rfl,rfl⟩⟩,hb⟩
def QuoP (wt:World) (ii oo:List Nat) (M:Mx) (v22 v23:Value) (w:World):Prop:=∃ (E r c:Nat) (a:Option Addr) (l k:Nat) (e:Int),v22=.pointer (some ⟨E,0,none⟩)∧v23=.int .i64 e∧Bx w E 37 [.int .i64 r,.int .i64 c,.slice a l k]∧In wt.heap.size wt w∧CRes w ii oo M r c a l k e
theorem quot_ns {n:Nat} {ii tt:List Nat} {M:Mx} (ht:tt.Nodup) (h4:∀ x∈tt,x<n∧x ∉ ii) (hns:NS ii.length (sub M ii ii)):NS (places (outer n ii) tt).length (sub (schur M ii (outer n ii) (invM ii.length (sub M ii ii))) (places (outer n ii) tt) (places (outer n ii) tt))↔NS (ii ++ tt).length (sub M (ii ++ tt) (ii ++ tt)):=
 (sub2_places ht h4).ns (inv_elim hns)
theorem quot_eq {n:Nat} {ii tt:List Nat} {M:Mx} (hg:Grp n ii) (ht:tt.Nodup) (h4:∀ x∈tt,x<n∧x ∉ ii) (hns:NS ii.length (sub M ii ii)) (h12:NS (ii ++ tt).length (sub M (ii ++ tt) (ii ++ tt))) {r c:Nat} (hr:r<(outer n (ii ++ tt)).length) (hc:c<(outer n (ii ++ tt)).length) :
  schur (schur M ii (outer n ii) (invM ii.length (sub M ii ii))) (places (outer n ii) tt) (outer (outer n ii).length (places (outer n ii) tt)) (invM (places (outer n ii) tt).length (sub (schur M ii (outer n ii) (invM ii.length (sub M ii ii))) (places (outer n ii) tt) (places (outer n ii) tt))) r c=schur M (ii ++ tt) (outer n (ii ++ tt)) (invM (ii ++ tt).length (sub M (ii ++ tt) (ii ++ tt))) r c:=
 hg.split.quot (sub2_places ht h4) (inv_elim hns) (inv_elim ((quot_ns ht h4 hns).2 h12)) (inv_elim h12) r c hr hc
set_option maxRecDepth 100000 in
set_option maxHeartbeats 16000000 in
def quotient21_any_q1:{P:Prop // P→∀ (w:World) (N:Nat) (_:N<256) (la:Option Addr) (lc:Nat) (l:List TQ) (_:TAt w la l) (_:TOk l) (_:l.length≤maxLen) (ka:Option Addr) (kc:Nat) (ks:List Nat) (_:U8At w ka ks) (_:∀ i,ks.getD i 0<256) (_:ks.length≤maxLen) (z z2:Int) (_:0≤z∧z<256) (_:0≤z2∧z2<256),Calls Tryz.prog 4 #[.agg #[.int .u8 N,.slice la l.length lc],.slice ka ks.length kc,.int .u8 z,.int .u8 z2] w fun e w'=>e=.returned (.bool true)∧Below w.heap.size w w'}:=⟨_,fun Kcut=>by
 replace Kcut:Keep _:=⟨Kcut⟩
 intro w N hN la lc l hl hok hL ka kc ks hk hk8 hLk z z2 hz hz2
 have cz:=works21_any
 have hin:=In.self w
 obtain⟨a,rfl⟩:=Int.eq_ofNat_of_zero_le hz.1
 have ha8:a<256:=by omega
 obtain⟨b2,rfl⟩:=Int.eq_ofNat_of_zero_le hz2.1
 have hb8:b2<256:=by omega
 clear hz2
 clear hz
 obtain⟨sm,hsm⟩:∃ sm,sm=small21 l.length ks.length ([]:List Nat):=⟨_,rfl⟩
 obtain⟨n,hn⟩:∃ n,n=N % (6+1):=⟨_,rfl⟩
 have hn6:n≤6:=by omega
 have HN:=Lib.hid hn
 clear hn
 go_enter Tryz.func4,Tryz.ntmps4
 go_upto_region 1 with fail
 ((obtain⟨S0,hS0⟩:∃ z,z=w.heap.size:=⟨_,rfl⟩);(have bS0:=Bx.new_at w #[.int .u8 N,.slice la l.length lc] 51 hS0);(replace hin:=hin.alloc (.cells #[.int .u8 N,.slice la l.length lc] 51));(replace hl:=hl.call ((Below.refl _ _).alloc (Nat.le_refl _) (.cells #[.int .u8 N,.slice la l.length lc] 51)));(replace hk:=hk.call ((Below.refl _ _).alloc (Nat.le_refl _) (.cells #[.int .u8 N,.slice la l.length lc] 51)));(rw[←hS0]);clear hS0;(generalize w.alloc (.cells #[.int .u8 N,.slice la l.length lc] 51)=W1 at *))
 (have s0:=bS0.c0;have s1:=bS0.c1;have sl:=bS0.lt)
 have c0:=small21_any W1 N la l.length lc ka ks.length kc none 0 [] (fun i hi=>absurd hi (Nat.not_lt_zero _)) (by simp)
 rw[←hsm,show([]:List Nat).length=0 from rfl] at c0
 have HSM:=Lib.hid hsm
 clear hsm
 (go_wp2_with fail;(((with_reducible refine(c0).mono ?_)));rintro e wc2 ⟨rfl,hb⟩;clear s0 s1 sl c0;replace hin:=hin.call hb;replace hl:=hl.call hb;replace hk:=hk.call hb;replace bS0:=bS0.call hb;clear hb)
 rcases sm with _ | _
 ·clear Kcut
  (go_wp2_with fail;(((with_reducible refine(cz _).mono ?_)));rintro e wc3 ⟨rfl,hb⟩;replace hin:=hin.call hb;replace hl:=hl.call hb;replace hk:=hk.call hb;replace bS0:=bS0.call hb;clear hb)
  go_wp2_with fail
  go_ret
  exact⟨rfl,hin.bel⟩
 ·skip
  obtain⟨h40,h12⟩:=small21_0 HSM.out.symm
  clear HSM hL hLk
  rename_i yz10_ yz11_ yz12_ yz13_ yz14_ yz15_ yz16_
  revert w N hN la lc l hok ka kc ks hk8 cz a ha8 b2 hb8 n hn6 HN yz10_ yz11_ yz12_ yz13_ yz14_ S0 W1 yz15_ yz16_ wc2 hin hl hk bS0 h40 h12
  exact Kcut.out
 ⟩
set_option maxRecDepth 100000 in
set_option maxHeartbeats 16000000 in
def quotient21_any_q2:{P:Prop // P→quotient21_any_q1.1}:=⟨_,fun Kcut=>by
 replace Kcut:Keep _:=⟨Kcut⟩
 intro w N hN la lc l hok ka kc ks hk8 cz a ha8 b2 hb8 n hn6 HN yz10_ yz11_ yz12_ yz13_ yz14_ S0 W1 yz15_ yz16_ wc2 hin hl hk bS0 h40 h12
 have c1:=raw_any (j:=64) wc2 N n 6 la lc l hl hok (by omega) hN (by decide) HN.out (tok_sz64 hok) (by decide) (by decide)
 rw[show((6:Nat):Int)=6 from rfl] at c1
 have hMz:Mz n n 2601 (rawM n l):=raw_mz (tok_sz64 hok) h40
 obtain⟨M,hM⟩:∃ M,M=rawM n l:=⟨_,rfl⟩
 rw[←hM] at c1 hMz
 have HMZ:=Lib.hid hMz
 clear hM hMz h40 hok hN HN
 (have s0:=bS0.c0;have s1:=bS0.c1;have sl:=bS0.lt)
 (go_wp2_with fail;(((with_reducible refine(c1).mono ?_)));(rintro e wc3 ⟨⟨sv,rfl,hS⟩,hb⟩);clear s0 s1 sl c1 bS0 hl;replace hin:=hin.call hb;replace hk:=hk.call hb;clear hb)
 obtain⟨ra,rk,rfl⟩:=hS.shape
 go_upto_region 4 with fail
 ((obtain⟨Sb,hSb⟩:∃ z,z=wc3.heap.size:=⟨_,rfl⟩);(have bSb:=Bx.new_at wc3 #[.int .i64 n,.int .i64 n,.slice ra n rk] 27 hSb);(replace hin:=hin.alloc (.cells #[.int .i64 n,.int .i64 n,.slice ra n rk] 27));(replace hk:=hk.call ((Below.refl _ _).alloc (Nat.le_refl _) (.cells #[.int .i64 n,.int .i64 n,.slice ra n rk] 27)));(replace hS:=hS.call ((Below.refl _ _).alloc (Nat.le_refl _) (.cells #[.int .i64 n,.int .i64 n,.slice ra n rk] 27)));(rw[←hSb]);clear hSb;(generalize wc3.alloc (.cells #[.int .i64 n,.int .i64 n,.slice ra n rk] 27)=wS at *))
 rename_i yz20_ yz21_
 revert w N la lc l ka kc ks hk8 cz a ha8 b2 hb8 n hn6 yz10_ S0 W1 wc2 h12 M HMZ wc3 ra rk yz20_ yz21_ Sb wS bSb hin hk hS
 exact Kcut.out
 ⟩
set_option maxRecDepth 100000 in
set_option maxHeartbeats 16000000 in
def quotient21_any_q3:{P:Prop // P→quotient21_any_q2.1}:=⟨_,fun Kcut=>by
 replace Kcut:Keep _:=⟨Kcut⟩
 intro w N la lc l ka kc ks hk8 cz a ha8 b2 hb8 n hn6 yz10_ S0 W1 wc2 h12 M HMZ wc3 ra rk yz20_ yz21_ Sb wS bSb hin hk hS
 obtain⟨t,ht⟩:∃ t,t=a % (n+1):=⟨_,rfl⟩
 have htn:t≤n:=by have:=Nat.mod_lt a (show 0<n+1 by omega);omega
 obtain⟨k,hkk⟩:∃ k,k=t+b2 % (n - t+1):=⟨_,rfl⟩
 have htk:t≤k:=by omega
 have c2:=lcut_any wS n ka kc ks hk hk8 (by omega) a b2 ha8 hb8 t k ht hkk
 obtain⟨hp1,hp2,hp3,hp4,hp5⟩:=cut_groups ks n t k htk
 obtain⟨ii,hii⟩:∃ ii,ii=(permK ks n).take t:=⟨_,rfl⟩
 obtain⟨tt,htt⟩:∃ tt,tt=((permK ks n).take k).drop t:=⟨_,rfl⟩
 rw[←hii,←htt] at c2 hp5
 rw[←hii] at hp1 hp2 hp4
 rw[←htt] at hp3 hp4
 rw[←hp5] at c2
 have hgr:Grp n ii:=⟨hp1,hp2⟩
 have hgt:Grp n (ii ++ tt):=⟨List.nodup_append.2 ⟨hp1,hp3,fun x hx y hy e=>(hp4 y hy).2 (e ▸ hx)⟩,fun x hx=>(List.mem_append.1 hx).elim (hp2 x) fun h=>(hp4 x h).1⟩
 have HT4:=Lib.hid hp4
 have HT3:=Lib.hid hp3
 clear hp1 hp2 hp3 hp4 hp5 hii htt ht htn hkk htk hk8 ha8 hb8 h12
 (have y0:=bSb.c0;have y1:=bSb.c1;have y2:=bSb.c2;have yl:=bSb.lt)
 (go_wp2_with fail;(((with_reducible refine(c2).mono ?_)));(rintro e wc5 ⟨⟨v1,v2,v3,rfl,hg1,hg2,hg3⟩,hb⟩);clear y0 y1 y2 yl c2 hk;replace hin:=hin.call hb;replace hS:=hS.call hb;replace bSb:=bSb.call hb;clear hb)
 obtain⟨a1,k1,rfl⟩:=hg1.shape
 obtain⟨a2,k2,rfl⟩:=hg2.shape
 obtain⟨a3,k3,rfl⟩:=hg3.shape
 have hlen:=hgr.split.len
 have hlen2:=hgt.split.len
 rw[List.length_append] at hlen2
 have HLEN:=Lib.hid hlen
 obtain⟨A,hA⟩:∃ A,A=ii.length:=⟨_,rfl⟩
 obtain⟨B,hB⟩:∃ B,B=tt.length:=⟨_,rfl⟩
 obtain⟨O,hO⟩:∃ O,O=(outer n ii).length:=⟨_,rfl⟩
 obtain⟨R,hR⟩:∃ R,R=(outer n (ii ++ tt)).length:=⟨_,rfl⟩
 rw[←hA] at hg1 ⊢
 rw[←hB] at hg2 ⊢
 rw[←hR] at hg3 ⊢
 rw[←hA,←hO] at hlen
 rw[←hA,←hB,←hR] at hlen2
 have HA:=Lib.hid hA
 have HB:=Lib.hid hB
 have HO:=Lib.hid hO
 have HR:=Lib.hid hR
 have HGR:=Lib.hid hgr
 have HGT:=Lib.hid hgt
 clear hA hB hO hR hgr hgt
 rename_i yz30_ yz31_
 revert w N la lc l ka kc ks cz a b2 n hn6 yz10_ S0 W1 wc2 M HMZ wc3 ra rk yz20_ yz21_ Sb wS t k ii tt HT4 HT3 yz30_ yz31_ wc5 hin hS bSb a1 k1 a2 k2 a3 k3 HLEN A hg1 B hg2 O hlen R hlen2 hg3 HA HB HO HR HGR HGT
 exact Kcut.out
 ⟩
set_option maxRecDepth 100000 in
set_option maxHeartbeats 16000000 in
def quotient21_any_q4:{P:Prop // P→quotient21_any_q3.1}:=⟨_,fun Kcut=>by
 replace Kcut:Keep _:=⟨Kcut⟩
 intro w N la lc l ka kc ks cz a b2 n hn6 yz10_ S0 W1 wc2 M HMZ wc3 ra rk yz20_ yz21_ Sb wS t k ii tt HT4 HT3 yz30_ yz31_ wc5 hin hS bSb a1 k1 a2 k2 a3 k3 HLEN A hg1 B hg2 O hlen R hlen2 hg3 HA HB HO HR HGR HGT
 have c9:=scomplement_ok (z:=2601) wc5 (.agg #[.int .i64 n,.int .i64 n,.slice ra n rk]) (.slice a1 A k1) n ii M hS hg1 HGR.out (by omega) (by decide) HMZ.out (c_p5 _ (by rw[←HA.out];omega)) (fun _=>Nat.lt_trans (c_gz _ (by rw[←HA.out];omega)) (by decide))
 (have y0:=bSb.c0;have y1:=bSb.c1;have y2:=bSb.c2;have yl:=bSb.lt)
 (go_wp2_with fail;(((with_reducible refine(c9).mono ?_)));(rintro e wc6 ⟨hI,hb⟩);clear y0 y1 y2 yl c9;replace hin:=hin.call hb;replace hS:=hS.call hb;replace hg1:=hg1.call hb;replace hg2:=hg2.call hb;replace hg3:=hg3.call hb;replace bSb:=bSb.call hb;clear hb)
 replace hI:=hI.symm
 rcases hI with ⟨hns,rfl⟩|⟨hns,dc,rfl,hc⟩
 ·clear Kcut
  go_upto_region 6 with fail
  ((obtain⟨C,hC⟩:∃ z,z=wc6.heap.size:=⟨_,rfl⟩);(have bC:=Bx.new_at wc6 #[.int .i64 0,.int .i64 0,.slice none 0 0] 37 hC);(replace hin:=hin.alloc (.cells #[.int .i64 0,.int .i64 0,.slice none 0 0] 37));(replace bSb:=bSb.alloc (.cells #[.int .i64 0,.int .i64 0,.slice none 0 0] 37));(replace hS:=hS.call ((Below.refl _ _).alloc (Nat.le_refl _) (.cells #[.int .i64 0,.int .i64 0,.slice none 0 0] 37)));(replace hg1:=hg1.call ((Below.refl _ _).alloc (Nat.le_refl _) (.cells #[.int .i64 0,.int .i64 0,.slice none 0 0] 37)));(replace hg2:=hg2.call ((Below.refl _ _).alloc (Nat.le_refl _) (.cells #[.int .i64 0,.int .i64 0,.slice none 0 0] 37)));(replace hg3:=hg3.call ((Below.refl _ _).alloc (Nat.le_refl _) (.cells #[.int .i64 0,.int .i64 0,.slice none 0 0] 37)));(rw[←hC]);clear hC;(generalize wc6.alloc (.cells #[.int .i64 0,.int .i64 0,.slice none 0 0] 37)=W7 at *))
  clear hns
  (go_wp2_with fail;(((with_reducible refine(cz _).mono ?_)));rintro e wc8 ⟨rfl,hb⟩;replace hin:=hin.call hb;replace hS:=hS.call hb;replace hg1:=hg1.call hb;replace hg2:=hg2.call hb;replace hg3:=hg3.call hb;replace bSb:=bSb.call hb;replace bC:=bC.call hb;clear hb)
  go_wp2_with fail
  go_ret
  exact⟨rfl,hin.bel⟩
 ·skip
  rw[←HO.out] at hc
  obtain⟨gC,NC,hNC,hce,hbC⟩:=id hc
  subst hce
  have HNS:=Lib.hid hns
  clear hNC hbC hns
  go_upto_region 6 with fail
  ((obtain⟨C,hC⟩:∃ z,z=wc6.heap.size:=⟨_,rfl⟩);(have bC:=Bx.new_at wc6 #[.int .i64 O,.int .i64 O,.slice (some ⟨gC,0,none⟩) NC NC] 37 hC);(replace hin:=hin.alloc (.cells #[.int .i64 O,.int .i64 O,.slice (some ⟨gC,0,none⟩) NC NC] 37));(replace bSb:=bSb.alloc (.cells #[.int .i64 O,.int .i64 O,.slice (some ⟨gC,0,none⟩) NC NC] 37));(replace hS:=hS.call ((Below.refl _ _).alloc (Nat.le_refl _) (.cells #[.int .i64 O,.int .i64 O,.slice (some ⟨gC,0,none⟩) NC NC] 37)));(replace hg1:=hg1.call ((Below.refl _ _).alloc (Nat.le_refl _) (.cells #[.int .i64 O,.int .i64 O,.slice (some ⟨gC,0,none⟩) NC NC] 37)));(replace hg2:=hg2.call ((Below.refl _ _).alloc (Nat.le_refl _) (.cells #[.int .i64 O,.int .i64 O,.slice (some ⟨gC,0,none⟩) NC NC] 37)));(replace hg3:=hg3.call ((Below.refl _ _).alloc (Nat.le_refl _) (.cells #[.int .i64 O,.int .i64 O,.slice (some ⟨gC,0,none⟩) NC NC] 37)));(replace hc:=hc.call ((Below.refl _ _).alloc (Nat.le_refl _) (.cells #[.int .i64 O,.int .i64 O,.slice (some ⟨gC,0,none⟩) NC NC] 37)));(rw[←hC]);clear hC;(generalize wc6.alloc (.cells #[.int .i64 O,.int .i64 O,.slice (some ⟨gC,0,none⟩) NC NC] 37)=W7 at *))
  have c8:=souter_ok W7 n (.slice a1 A k1) ii hg1 HGR.out (by omega)
  (have y0:=bSb.c0;have y1:=bSb.c1;have y2:=bSb.c2;have yl:=bSb.lt)
  (go_wp2_with fail;(((with_reducible refine(c8).mono ?_)));(rintro e w7 ⟨⟨vo,rfl,hgo⟩,hb⟩);clear y0 y1 y2 yl c8;replace hin:=hin.call hb;replace hS:=hS.call hb;replace hg1:=hg1.call hb;replace hg2:=hg2.call hb;replace hg3:=hg3.call hb;replace hc:=hc.call hb;replace bSb:=bSb.call hb;replace bC:=bC.call hb;clear hb)
  obtain⟨ao,ko,rfl⟩:=hgo.shape
  rw[←HO.out] at hgo ⊢
  rename_i yz40_ yz41_ yz42_ yz43_
  revert w N la lc l ka kc ks cz a b2 n hn6 yz10_ S0 W1 wc2 M HMZ wc3 ra rk Sb wS t k ii tt HT4 HT3 wc5 a1 k1 a2 k2 a3 k3 HLEN A B O hlen R hlen2 HA HB HO HR HGR HGT wc6 gC NC HNS C W7 yz40_ yz41_ yz42_ yz43_ w7 hin hS hg1 hg2 hg3 hc bSb bC ao ko hgo
  exact Kcut.out
 ⟩
set_option maxRecDepth 100000 in
set_option maxHeartbeats 16000000 in
def quotient21_any_q5:{P:Prop // P→quotient21_any_q4.1}:=⟨_,fun Kcut=>by
 replace Kcut:Keep _:=⟨Kcut⟩
 intro w N la lc l ka kc ks cz a b2 n hn6 yz10_ S0 W1 wc2 M HMZ wc3 ra rk Sb wS t k ii tt HT4 HT3 wc5 a1 k1 a2 k2 a3 k3 HLEN A B O hlen R hlen2 HA HB HO HR HGR HGT wc6 gC NC HNS C W7 yz40_ yz41_ yz42_ yz43_ w7 hin hS hg1 hg2 hg3 hc bSb bC ao ko hgo
 have HGO:=Lib.hid hgo.ints
 have HG2:=Lib.hid hg2.ints
 obtain⟨oo,hoo⟩:∃ oo,oo=outer n ii:=⟨_,rfl⟩
 have HOO:=Lib.hid hoo
 have hon:oo.Nodup:=by rw[hoo];exact outer_nodup n ii
 have hto:∀ y∈tt,y∈oo:=fun y hy=>by rw[hoo];exact mem_outer.2 (HT4.out y hy)
 have HON:=Lib.hid hon
 have HTO:=Lib.hid hto
 have HOL:Hid (O=oo.length):=Lib.hid (by rw[hoo];exact HO.out)
 rw[←hoo] at HGO
 clear hon hto hoo
 obtain⟨i0,hi0,hi1,hi2,hi3⟩:=info_parts info_int8
 go_wp2_with fail
 go_loopw [17,18] (fun v17 v18 wr=>∃ i:Nat,i≤B∧v18=.int .i64 i∧In w7.heap.size w7 wr∧wr.ownsRow w7.heap.size 3 1 v17 i (icl ((places oo tt).take i))) (fun _ v18 _=>B - (RowKit.intOf v18).toNat)
 case atStart=>exact⟨0,Nat.zero_le _,rfl,In.self _,World.ownsRow_nil _ _ _ _⟩
 case round=>
  rename World=>wr
  obtain⟨i,hi,rfl,hr,hown⟩:=hrel
  by_cases hic:i<B
  ·clear Kcut
   have hicI:(i:Int)<B:=by omega
   have hi0':(0:Int)≤i:=by omega
   have hiw:IntKind.i64.wrap ((i:Int)+1)=((i+1:Nat):Int):=IntWalk.i64_in _ (by omega)
   have hil:i<tt.length:=by rw[←HB.out];exact hic
   have hpt:=places_take (oo:=oo) hil
   have hym:=HTO.out _ (getD_in hil)
   obtain⟨y,hy⟩:∃ y,y=tt.getD i 0:=⟨_,rfl⟩
   rw[←hy] at hpt hym
   have HY:=Lib.hid hy
   have HPT:=Lib.hid hpt
   have HYM:=Lib.hid hym
   have hown2:Hid (wr.ownsRow w7.heap.size 3 1 u17 (i+(bump oo y 0).length) (icl ((places oo tt).take i ++ bump oo y 0))):=Lib.hid (by rw[bump_zero,List.append_nil];exact hown)
   clear hy hpt hym hown hil
   go_wp2_with fail
   go_loopw [17,19] (fun v17 v19 wz=>∃ k:Nat,k≤O∧v19=.int .i64 k∧In w7.heap.size w7 wz∧wz.ownsRow w7.heap.size 3 1 v17 (i+(bump oo y k).length) (icl ((places oo tt).take i ++ bump oo y k))) (fun _ v19 _=>O - (RowKit.intOf v19).toNat)
   case atStart=>exact⟨0,Nat.zero_le _,rfl,hr,hown2.out⟩
   case round=>
    clear hr hown2
    rename World=>wz
    obtain⟨k,hk,rfl,hz,hown⟩:=hrel
    by_cases hkc:k<O
    ·have hkI:(k:Int)<O:=by omega
     have hk0':(0:Int)≤k:=by omega
     have hkw:IntKind.i64.wrap ((k:Int)+1)=((k+1:Nat):Int):=IntWalk.i64_in _ (by omega)
     have hkl:k<oo.length:=by rw[←HOL.out];exact hkc
     obtain⟨bi,oi,rfl,hbi,hci⟩:=(HG2.out.call hz.bel) i (by rw[zl_length,←HB.out];exact hic)
     rw[zl_getD (by rw[←HB.out];exact hic),←HY.out] at hci
     obtain⟨bk,ok,rfl,hbk,hck⟩:=(HGO.out.call hz.bel) k (by rw[zl_length];exact hkl)
     rw[zl_getD hkl] at hck
     obtain⟨x,hx⟩:∃ x,x=oo.getD k 0:=⟨_,rfl⟩
     rw[←hx] at hck
     have HXX:=Lib.hid hx
     have HKL:=Lib.hid hkl
     have HOWN:=Lib.hid hown
     clear hx hkl hown
     go_upto_region 16 with fail
     refine wp_region_mixT (In wz.heap.size wz) 8 (.quiet 0 (.quiet 1 (.quiet 2 (.quiet 3 (.quiet 4 (.quiet 5 (.quiet 6 (.quiet 7 (.one 8 .done))))))))) (by kernel_rfl) (by kernel_rfl) (by kernel_rfl) (by kernel_rfl) (by kernel_rfl) (by kernel_rfl) (by kernel_rfl) (by kernel_rfl) (fun _ _ d _ _ h=>by cases d <;> exact h) ?_ ?_
     ·exact(In.self wz).drew
     (repeat (apply mixT_take;(focus rfl);(focus rfl);(focus (intro w' hw';have hc':=hw'.cell;go_simp;exact rfl));refine tput ?_))
     have hind:=(In.self wz).drew
     have HOWN3:Hid (wz.drew.ownsRow w7.heap.size 3 1 u17 (i+(bump oo y k).length) (icl ((places oo tt).take i ++ bump oo y k))):=Lib.hid (ownsRow_bel HOWN.out hind.bel)
     replace hz:=hz.call hind.bel
     clear hci hck hbi hbk hind HOWN
     generalize wz.drew=w3 at *
     (apply mixT_run;(focus rfl);(focus rfl);intro K hK;go_simp)
     refine hK _ _ (fun h=>absurd h (by decide)) ?_
     clear hK K
     refine mixT_done ?_
     by_cases hxy:x=y
     ·have f1:((x:Int) == (y:Int))=true:=by simp[hxy]
      have HB2:=Lib.hid (bump_hit (y:=y) HON.out HKL.out (by rw[←HXX.out];exact hxy))
      have hown5:=HOWN3.out
      rw[HB2.out.1,List.append_nil] at hown5
      have HOWN:=Lib.hid (show w3.ownsRow w7.heap.size 3 1 u17 i (icl ((places oo tt).take i)) from hown5)
      have HIN:=Lib.hid hz
      have hsz:=hz.siz
      clear hxy hown5 HOWN3 hz
      ((go_wp2_with (at_builtin;go_loud (refine wpList_append_own _ rfl (.tmp 86) (.tmp 88) 22 rfl w7.heap.size 3 i0 (.int .i64 0) 1 8 Tryz.underlying22 hi0 hi1 hi2 hi3 rfl (by decide) u17 i (icl ((places oo tt).take i)) rfl (HOWN.out.alloc _) ⟨w3.heap.size,0,none⟩ 1 1 [.int .i64 ((k:Int))] rfl rfl ?p1 ?p2 ?p3 ?p4 ?p5 ?_)));(try (case p1=>(intro j u hj;rw[Addr.add_lit,Nat.zero_add,(Bx.new_at w3 #[.int .i64 ((k:Int))] 3 rfl).cell j];exact hj)));(try (case p2=>(first | rfl |(intro u hu;simp only[List.mem_cons,List.not_mem_nil,or_false] at hu;subst hu;rfl))));(try (case p3=>(simp only[maxLen];omega)));(try (case p4=>omega));(try (case p5=>(first | omega |(rw[World.size_alloc];omega))));(intro v' w4 hown4 hgr _);(have hin4:In w7.heap.size w7 w4:=by(have h5:=HIN.out.alloc (.cells #[.int .i64 ((k:Int))] 3);exact⟨h5.bel.grown hgr h5.siz (fun k h=>(World.ownsRow.lt HOWN.out k h).1),Nat.le_trans h5.siz hgr.size⟩));(have HR4:Hid (w4.ownsRow w7.heap.size 3 1 v' (i+1) (icl (((places oo tt).take i) ++ [k]))):=Lib.hid (by((have e1:(((k:Nat)):Int)=(k:Int):=(by first | rfl | omega));(have e:icl (((places oo tt).take i) ++ [k])=icl ((places oo tt).take i) ++ [.int .i64 ((k:Int))]:=(by rw[←e1];simp[icl]));rw[e];exact hown4)));(have HIN4:=Lib.hid hin4);(obtain⟨g9,c9,rfl⟩:∃ g9 c9,v'=.slice (some ⟨g9,0,none⟩) (i+1) c9:=by exact owns_cons hown4);clear hown4 hgr hin4 HOWN HIN)
      have HR5:=HR4.out
      have HR6:Hid (w4.ownsRow w7.heap.size 3 1 (.slice (some ⟨g9,0,none⟩) (i+1) c9) (i+(bump oo y (k+1)).length) (icl ((places oo tt).take i ++ bump oo y (k+1)))):=Lib.hid (by rw[HB2.out.2];exact HR5)
      clear HR5 hsz
      go_wp2_with fail
      exact⟨⟨k+1,by omega,by go_num,HIN4.out,HR6.out⟩,by simp[RowKit.intOf];omega⟩
     ·have f1:((x:Int) == (y:Int))=false:=by
       have:¬ (x:Int)=y:=by omega
       simpa using this
      have HB2:=Lib.hid (bump_miss (y:=y) HYM.out HON.out (k:=k) (by rw[←HXX.out];exact hxy))
      have HIN:=Lib.hid hz
      clear hxy hz
      go_wp2_with fail
      exact⟨⟨k+1,by omega,by go_num,HIN.out,by rw[HB2.out];exact HOWN3.out⟩,by simp[RowKit.intOf];omega⟩
    ·have hkI:¬ (k:Int)<O:=by omega
     have hkO:k=oo.length:=by rw[←HOL.out];omega
     rw[hkO,bump_end HYM.out HON.out,←HPT.out] at hown
     have HOWN:=Lib.hid hown
     have HIN:=Lib.hid hz
     clear hown hz hkO
     go_wp2_with fail
     exact⟨⟨i+1,by omega,by go_num,HIN.out,HOWN.out⟩,by simp[RowKit.intOf];omega⟩
  ·have hicI:¬ (i:Int)<B:=by omega
   obtain rfl:i=B:=by omega
   have hpl9:(places oo tt).length=i:=by rw[places_length];exact HB.out.symm
   rw[List.take_of_length_le (by omega)] at hown
   obtain⟨ma,mc,hme,hmi⟩:=pivs_ints (l:=places oo tt) (by rw[hpl9];exact hown)
   rw[hpl9] at hme
   subst hme
   have hgm:GrpAt wr (.slice ma i mc) (places oo tt):=⟨ma,mc,by rw[hpl9],hmi⟩
   have HGM:=Lib.hid hgm
   clear hown hmi hgm hi hicI hpl9
   rename_i yz50_ yz51_
   revert w N la lc l ka kc ks cz a b2 n hn6 yz10_ S0 W1 wc2 M HMZ wc3 ra rk Sb wS t k ii tt HT4 HT3 wc5 a1 k1 a2 k2 a3 k3 HLEN A O hlen R HA HO HR HGR HGT wc6 gC NC HNS C W7 w7 hin hS hg1 hg3 hc bSb bC ao ko hgo HG2 oo HGO HOO HON HTO HOL i0 hi0 hi1 hi2 hi3 yz50_ yz51_ wr u19 u65 u66 u67 u68 u69 u70 u71 u72 u73 u74 u75 u76 u77 u78 u79 u80 u81 u82 u83 u84 u85 u86 u87 u88 u89 i hr hlen2 HB hg2 hic ma mc HGM
   exact Kcut.out
 ⟩
set_option maxRecDepth 100000 in
set_option maxHeartbeats 16000000 in
def quotient21_any_q6:{P:Prop // P→quotient21_any_q5.1}:=⟨_,fun Kcut=>by
 replace Kcut:Keep _:=⟨Kcut⟩
 intro w N la lc l ka kc ks cz a b2 n hn6 yz10_ S0 W1 wc2 M HMZ wc3 ra rk Sb wS t k ii tt HT4 HT3 wc5 a1 k1 a2 k2 a3 k3 HLEN A O hlen R HA HO HR HGR HGT wc6 gC NC HNS C W7 w7 hin hS hg1 hg3 hc bSb bC ao ko hgo HG2 oo HGO HOO HON HTO HOL i0 hi0 hi1 hi2 hi3 yz50_ yz51_ wr u19 u65 u66 u67 u68 u69 u70 u71 u72 u73 u74 u75 u76 u77 u78 u79 u80 u81 u82 u83 u84 u85 u86 u87 u88 u89 i hr hlen2 HB hg2 hic ma mc HGM
 have hicI:¬ (i:Int)<i:=by omega
 have hb:=hr.bel
 clear hr
 (replace hin:=hin.call hb;replace hS:=hS.call hb;replace hg1:=hg1.call hb;replace hg2:=hg2.call hb;replace hg3:=hg3.call hb;replace hc:=hc.call hb;replace hgo:=hgo.call hb;replace bSb:=bSb.call hb;replace bC:=bC.call hb;clear hb)
 have hgm:=HGM.out
 have hpi:(places oo tt).length=i:=by rw[places_length];exact HB.out.symm
 have hpg:Grp O (places oo tt):=by rw[HOL.out];exact places_grp HON.out HT3.out HTO.out
 have hoo:=HOO.out
 subst hoo
 have HPI:=Lib.hid hpi
 have HPG:=Lib.hid hpg
 clear hpi hpg HG2 HGO HON HTO HOO HOL HGM hic
 (have c0:=bC.c0;have c1:=bC.c1;have c2:=bC.c2;have cl:=bC.lt)
 go_upto_region 20 with fail
 clear hicI
 rename_i yz60_ yz61_ yz62_ yz63_ yz64_
 revert w N la lc l ka kc ks cz a b2 n hn6 yz10_ S0 W1 wc2 M HMZ wc3 ra rk Sb wS t k ii tt HT4 HT3 wc5 a1 k1 a2 k2 a3 k3 HLEN A O hlen R HA HO HR HGR HGT wc6 gC NC HNS C W7 w7 ao ko i0 hi0 hi1 hi2 hi3 yz50_ wr u19 u65 u66 u67 u68 u69 u70 u71 u72 u73 u74 u75 u76 u77 u78 u79 u80 u81 u82 u83 u84 u85 u86 u87 u88 u89 i hlen2 HB ma mc hin hS hg1 hg2 hg3 hc hgo bSb bC hgm HPI HPG c0 c1 c2 cl yz60_ yz61_ yz62_ yz63_ yz64_
 exact Kcut.out
 ⟩
set_option maxRecDepth 100000 in
set_option maxHeartbeats 16000000 in
def quotient21_any_q7:{P:Prop // P→quotient21_any_q6.1}:=⟨_,fun Kcut=>by
 replace Kcut:Keep _:=⟨Kcut⟩
 intro w N la lc l ka kc ks cz a b2 n hn6 yz10_ S0 W1 wc2 M HMZ wc3 ra rk Sb wS t k ii tt HT4 HT3 wc5 a1 k1 a2 k2 a3 k3 HLEN A O hlen R HA HO HR HGR HGT wc6 gC NC HNS C W7 w7 ao ko i0 hi0 hi1 hi2 hi3 yz50_ wr u19 u65 u66 u67 u68 u69 u70 u71 u72 u73 u74 u75 u76 u77 u78 u79 u80 u81 u82 u83 u84 u85 u86 u87 u88 u89 i hlen2 HB ma mc hin hS hg1 hg2 hg3 hc hgo bSb bC hgm HPI HPG c0 c1 c2 cl yz60_ yz61_ yz62_ yz63_ yz64_
 have hz9:=schur_mz9 hn6 HGR.out HMZ.out
 have hzg:Mz O O (gz A 2601) (schur M ii (outer n ii) (invM ii.length (sub M ii ii))):=by rw[HO.out,HA.out];exact schur_mzg HGR.out HMZ.out
 rw[←HO.out] at hz9
 obtain⟨S,hS9⟩:∃ S,S=schur M ii (outer n ii) (invM ii.length (sub M ii ii)):=⟨_,rfl⟩
 rw[←hS9] at hz9 hzg hc
 have HS9:=Lib.hid hS9
 have HZG:=Lib.hid hzg
 clear hS9 hzg
 have clp:=lsparse_any (j:=1000000000) wr (.agg #[.int .i64 O,.int .i64 O,.slice (some ⟨gC,0,none⟩) NC NC]) O O S hc (by omega) (by omega) hz9 (by decide) (by decide)
 clear hz9
 (go_wp2_with fail;(((with_reducible refine(clp).mono ?_)));(rintro e wc9 ⟨⟨sv,rfl,hsv⟩,hb⟩);clear c0 c1 c2 cl clp;replace hin:=hin.call hb;replace hS:=hS.call hb;replace hg1:=hg1.call hb;replace hg2:=hg2.call hb;replace hg3:=hg3.call hb;replace hc:=hc.call hb;replace hgo:=hgo.call hb;replace hgm:=hgm.call hb;replace bSb:=bSb.call hb;replace bC:=bC.call hb;clear hb)
 have cc:=scompl_gen (z:=gz A 2601) wc9 sv (.slice ma i mc) O (places (outer n ii) tt) S hsv hgm HPG.out (by omega) (gz_pos A 2601 (by decide)) HZG.out (by rw[HPI.out];exact c_g5 A (by omega) i (by omega)) (fun _=>by rw[HPI.out];exact c_gg A (by omega) i (by omega))
 (go_wp2_with fail;(((with_reducible refine(cc).mono ?_)));(rintro e wc10 ⟨⟨tr,tc,ta,tl,tk,te,rfl,hth⟩,hb⟩);clear cc hsv;replace hin:=hin.call hb;replace hS:=hS.call hb;replace hg1:=hg1.call hb;replace hg2:=hg2.call hb;replace hg3:=hg3.call hb;replace hc:=hc.call hb;replace hgo:=hgo.call hb;replace hgm:=hgm.call hb;replace bSb:=bSb.call hb;replace bC:=bC.call hb;clear hb)
 go_upto_region 21 with fail
 ((obtain⟨Th,hTh⟩:∃ z,z=wc10.heap.size:=⟨_,rfl⟩);(have bTh:=Bx.new_at wc10 #[.int .i64 tr,.int .i64 tc,.slice ta tl tk] 37 hTh);(replace hin:=hin.alloc (.cells #[.int .i64 tr,.int .i64 tc,.slice ta tl tk] 37));(replace bSb:=bSb.alloc (.cells #[.int .i64 tr,.int .i64 tc,.slice ta tl tk] 37));(replace bC:=bC.alloc (.cells #[.int .i64 tr,.int .i64 tc,.slice ta tl tk] 37));(replace hS:=hS.call ((Below.refl _ _).alloc (Nat.le_refl _) (.cells #[.int .i64 tr,.int .i64 tc,.slice ta tl tk] 37)));(replace hg1:=hg1.call ((Below.refl _ _).alloc (Nat.le_refl _) (.cells #[.int .i64 tr,.int .i64 tc,.slice ta tl tk] 37)));(replace hg2:=hg2.call ((Below.refl _ _).alloc (Nat.le_refl _) (.cells #[.int .i64 tr,.int .i64 tc,.slice ta tl tk] 37)));(replace hg3:=hg3.call ((Below.refl _ _).alloc (Nat.le_refl _) (.cells #[.int .i64 tr,.int .i64 tc,.slice ta tl tk] 37)));(replace hc:=hc.call ((Below.refl _ _).alloc (Nat.le_refl _) (.cells #[.int .i64 tr,.int .i64 tc,.slice ta tl tk] 37)));(replace hgo:=hgo.call ((Below.refl _ _).alloc (Nat.le_refl _) (.cells #[.int .i64 tr,.int .i64 tc,.slice ta tl tk] 37)));(replace hgm:=hgm.call ((Below.refl _ _).alloc (Nat.le_refl _) (.cells #[.int .i64 tr,.int .i64 tc,.slice ta tl tk] 37)));(replace hth:=hth.call ((Below.refl _ _).alloc (Nat.le_refl _) (.cells #[.int .i64 tr,.int .i64 tc,.slice ta tl tk] 37)));(rw[←hTh]);clear hTh;(generalize wc10.alloc (.cells #[.int .i64 tr,.int .i64 tc,.slice ta tl tk] 37)=wt at *))
 rename_i yz70_ yz71_
 revert w N la lc l ka kc ks cz a b2 n hn6 yz10_ S0 W1 wc2 M HMZ wc3 ra rk Sb wS t k ii tt HT4 HT3 wc5 a1 k1 a2 k2 a3 k3 HLEN A O hlen R HA HO HR HGR HGT wc6 gC NC HNS C W7 w7 ao ko i0 hi0 hi1 hi2 hi3 yz50_ wr u19 u65 u66 u67 u68 u69 u70 u71 u72 u73 u74 u75 u76 u77 u78 u79 u80 u81 u82 u83 u84 u85 u86 u87 u88 u89 i hlen2 HB ma mc HPI HPG yz60_ yz61_ yz62_ S HS9 HZG wc9 sv wc10 tr tc ta tl tk te yz70_ yz71_ Th wt bTh hin bSb bC hS hg1 hg2 hg3 hc hgo hgm hth
 exact Kcut.out
 ⟩
set_option maxRecDepth 100000 in
set_option maxHeartbeats 16000000 in
def quotient21_any_q8:{P:Prop // P→quotient21_any_q7.1}:=⟨_,fun Kcut=>by
 replace Kcut:Keep _:=⟨Kcut⟩
 intro w N la lc l ka kc ks cz a b2 n hn6 yz10_ S0 W1 wc2 M HMZ wc3 ra rk Sb wS t k ii tt HT4 HT3 wc5 a1 k1 a2 k2 a3 k3 HLEN A O hlen R HA HO HR HGR HGT wc6 gC NC HNS C W7 w7 ao ko i0 hi0 hi1 hi2 hi3 yz50_ wr u19 u65 u66 u67 u68 u69 u70 u71 u72 u73 u74 u75 u76 u77 u78 u79 u80 u81 u82 u83 u84 u85 u86 u87 u88 u89 i hlen2 HB ma mc HPI HPG yz60_ yz61_ yz62_ S HS9 HZG wc9 sv wc10 tr tc ta tl tk te yz70_ yz71_ Th wt bTh hin bSb bC hS hg1 hg2 hg3 hc hgo hgm hth
 have HG1:=Lib.hid hg1.ints
 have HG2:=Lib.hid hg2.ints
 (have y0:=bSb.c0;have y1:=bSb.c1;have y2:=bSb.c2;have yl:=bSb.lt)
 go_cut [22,23] from 113 to 122 (fun v22 v23 wx=>QuoP wt (ii ++ tt) (outer n (ii ++ tt)) M v22 v23 wx)
 case first=>
  clear Kcut
  refine wp_region_mixT (In wt.heap.size wt) 12 (.quiet 0 (.quiet 2 (.quiet 4 (.two 1 10 (.two 3 10 (.two 5 10 (.two 6 10 (.quiet 7 (.quiet 8 (.quiet 9 (.one 10 (.one 11 (.one 12 .done)))))) (.one 6 (.quiet 7 (.quiet 8 (.quiet 9 (.one 11 (.one 12 .done))))))) (.one 5 (.one 6 (.quiet 7 (.quiet 8 (.quiet 9 (.one 11 (.one 12 .done)))))))) (.one 3 (.one 5 (.one 6 (.quiet 7 (.quiet 8 (.quiet 9 (.one 11 (.one 12 .done))))))))) (.one 1 (.one 3 (.one 5 (.one 6 (.quiet 7 (.quiet 8 (.quiet 9 (.one 11 (.one 12 .done))))))))))))) (by kernel_rfl) (by kernel_rfl) (by kernel_rfl) (by kernel_rfl) (by kernel_rfl) (by kernel_rfl) (by kernel_rfl) (by kernel_rfl) (fun _ _ d _ _ h=>by cases d <;> exact h) ?_ ?_
  ·exact(In.self wt).drew
  (repeat (apply mixT_take;(focus rfl);(focus rfl);(focus (intro w' hw';have hc':=hw'.cell;go_simp;exact rfl));refine tput ?_))
  have hz:=(In.self wt).drew
  generalize wt.drew=w70 at *
  (apply mixT_both;(focus rfl);(focus rfl);(focus rfl);(focus rfl))
  ·intro K hK
   go_simp
   refine hK _ _ (fun _=>hz.alloc _) ?_
   clear hK K
   have hown2:=World.ownsRow_made (e:=3) (size:=1) w70 #[] 0 hz.siz (by decide) rfl
   have hz3:=hz.alloc (.cells #[] 3)
   clear hz
   obtain⟨g0,hg0⟩:∃ z,z=w70.heap.size:=⟨_,rfl⟩
   rw[←hg0] at hown2 ⊢
   clear hg0
   generalize w70.alloc (.cells #[] 3)=w1 at *
   refine mixT_lr rfl rfl rfl ?_ ?_
   ·refine wpList_append_ints rfl (.tmp 115) (.tmp 116) 22 rfl wt.heap.size i0 Tryz.underlying22 hi0 hi1 hi2 hi3 (.slice (some ⟨g0,0,none⟩) 0 0) 0 _ rfl hown2 _ _ _ ii rfl ?b4p ?b4q ?b4r ?b4s ?_
    case b4p=>exact HA.out
    case b4q=>exact HG1.out.call hz3.bel
    case b4r=>omega
    case b4s=>exact hz3.siz
    intro v5 w6 hown7 hgr8
    have hz9:=own_in (T:=3) (s:=1) hz3 hown2 hgr8
    clear hgr8 hown2 hz3
    refine⟨fun _=>hz9, ?_⟩
    refine mixT_lr rfl rfl rfl ?_ ?_
    ·refine wpList_append_ints rfl (.tmp 117) (.tmp 118) 22 rfl wt.heap.size i0 Tryz.underlying22 hi0 hi1 hi2 hi3 v5 (0+A) _ rfl hown7 _ _ _ tt rfl ?b10p ?b10q ?b10r ?b10s ?_
     case b10p=>exact HB.out
     case b10q=>exact HG2.out.call hz9.bel
     case b10r=>omega
     case b10s=>exact hz9.siz
     intro v11 w12 hown13 hgr14
     have hz15:=own_in (T:=3) (s:=1) hz9 hown7 hgr14
     clear hgr14 hown7 hz9
     refine⟨fun _=>hz15, ?_⟩
     (apply mixT_both;(focus rfl);(focus rfl);(focus rfl);(focus rfl))
     ·intro K hK
      go_simp
      have hgj:=join_ints HA.out HB.out hown13
      have cc:=scompl_gen (z:=2601) w12 (.agg #[.int .i64 n,.int .i64 n,.slice ra n rk]) v11 n (ii ++ tt) M (hS.call hz15.bel) hgj HGT.out (by omega) (by decide) HMZ.out (c_p5 _ (by have:=HGT.out.le;omega)) (fun _=>Nat.lt_trans (c_gz _ (by have:=HGT.out.le;omega)) (by decide))
      (with_reducible refine cc.mono ?_)
      rintro e w16 ⟨⟨mr,mcc,mp,ml,mk,me,rfl,hres18⟩,hb⟩
      have hz17:=hz15.call hb
      clear hb cc hgj hown13 hz15
      refine hK _ _ (fun _=>hz17) ?_
      clear hK K
      (repeat (apply mixT_take;(focus rfl);(focus rfl);(focus (intro w' hw';have hc':=hw'.cell;go_simp;exact rfl));refine tput ?_))
      (apply mixT_run;(focus rfl);(focus rfl);intro K hK;go_simp)
      refine hK _ _ (fun _=>hz17.alloc _) ?_
      clear hK K
      obtain⟨E,hE⟩:∃ z,z=w16.heap.size:=⟨_,rfl⟩
      have bE21:=Bx.new_at w16 #[.int .i64 0,.int .i64 0,.slice none 0 0] 37 hE
      have hlo:wt.heap.size≤E:=by rw[hE];exact hz17.siz
      have hres22:=hres18.call ((Below.refl _ _).alloc (Nat.le_refl _) (.cells #[.int .i64 0,.int .i64 0,.slice none 0 0] 37))
      clear hres18
      have hz20:=hz17.alloc (.cells #[.int .i64 0,.int .i64 0,.slice none 0 0] 37)
      clear hz17
      rw[←hE]
      clear hE
      generalize w16.alloc (.cells #[.int .i64 0,.int .i64 0,.slice none 0 0] 37)=w19 at *
      have x0:=bE21.c0;have x1:=bE21.c1;have x2:=bE21.c2;have xl:=bE21.lt
      have xf0:=bE21.frozen 0;have xf1:=bE21.frozen 1;have xf2:=bE21.frozen 2
      have K1:=Lib.hid (((bE21.set 0 (.int .i64 (mr:Nat))).set 1 (.int .i64 (mcc:Nat))).set 2 (.slice mp ml mk))
      have K2:=Lib.hid (hres22.put3 bE21 (.int .i64 (mr:Nat)) (.int .i64 (mcc:Nat)) (.slice mp ml mk))
      have K3:=Lib.hid (((hz20.setCell (p:=⟨E,0,none⟩) hlo (.int .i64 (mr:Nat))).setCell (p:=⟨E,1,none⟩) hlo (.int .i64 (mcc:Nat))).setCell (p:=⟨E,2,none⟩) hlo (.slice mp ml mk))
      clear bE21 hz20 hres22
      (apply mixT_run;(focus rfl);(focus rfl);intro K hK;go_simp)
      refine hK _ _ (fun _=>K3.out) ?_
      clear hK K x0 x1 x2 xl xf0 xf1 xf2
      have bE:=K1.out
      have hres:=K2.out
      have hz:=K3.out
      simp only[List.set] at bE
      clear K1 K2 K3
      generalize ((w19.setCell ⟨E,0,none⟩ (.int .i64 (mr:Nat))).setCell ⟨E,1,none⟩ (.int .i64 (mcc:Nat))).setCell ⟨E,2,none⟩ (.slice mp ml mk)=w77 at *
      (apply mixT_run;(focus rfl);(focus rfl);intro K hK;go_simp)
      refine hK _ _ (fun h=>absurd h (by decide)) ?_
      clear hK K
      refine mixT_done ?_
      go_wp2_with fail
      go_meet
      exact⟨E,mr,mcc,mp,ml,mk,me,rfl,rfl,bE,hz,hres⟩
     ·intro K hK
      go_simp
      refine hK _ _ (fun _=>hz15.alloc _) ?_
      clear hK K
      obtain⟨E,hE⟩:∃ z,z=w12.heap.size:=⟨_,rfl⟩
      have bE25:=Bx.new_at w12 #[.int .i64 0,.int .i64 0,.slice none 0 0] 37 hE
      have hlo:wt.heap.size≤E:=by rw[hE];exact hz15.siz
      have hown26:=hown13.alloc (.cells #[.int .i64 0,.int .i64 0,.slice none 0 0] 37)
      clear hown13
      have hz24:=hz15.alloc (.cells #[.int .i64 0,.int .i64 0,.slice none 0 0] 37)
      clear hz15
      rw[←hE]
      clear hE
      generalize w12.alloc (.cells #[.int .i64 0,.int .i64 0,.slice none 0 0] 37)=w23 at *
      (apply mixT_run;(focus rfl);(focus rfl);intro K hK;go_simp)
      have hgj:=join_ints HA.out HB.out hown26
      have cc:=scompl_gen (z:=2601) w23 (.agg #[.int .i64 n,.int .i64 n,.slice ra n rk]) v11 n (ii ++ tt) M (hS.call hz24.bel) hgj HGT.out (by omega) (by decide) HMZ.out (c_p5 _ (by have:=HGT.out.le;omega)) (fun _=>Nat.lt_trans (c_gz _ (by have:=HGT.out.le;omega)) (by decide))
      (with_reducible refine cc.mono ?_)
      rintro e w27 ⟨⟨mr,mcc,mp,ml,mk,me,rfl,hres29⟩,hb⟩
      have hz28:=hz24.call hb
      have bE30:=bE25.call hb
      clear bE25
      clear hb cc hgj hown26 hz24
      refine hK _ _ (fun _=>hz28) ?_
      clear hK K
      (repeat (apply mixT_take;(focus rfl);(focus rfl);(focus (intro w' hw';have hc':=hw'.cell;go_simp;exact rfl));refine tput ?_))
      have x0:=bE30.c0;have x1:=bE30.c1;have x2:=bE30.c2;have xl:=bE30.lt
      have xf0:=bE30.frozen 0;have xf1:=bE30.frozen 1;have xf2:=bE30.frozen 2
      have K1:=Lib.hid (((bE30.set 0 (.int .i64 (mr:Nat))).set 1 (.int .i64 (mcc:Nat))).set 2 (.slice mp ml mk))
      have K2:=Lib.hid (hres29.put3 bE30 (.int .i64 (mr:Nat)) (.int .i64 (mcc:Nat)) (.slice mp ml mk))
      have K3:=Lib.hid (((hz28.setCell (p:=⟨E,0,none⟩) hlo (.int .i64 (mr:Nat))).setCell (p:=⟨E,1,none⟩) hlo (.int .i64 (mcc:Nat))).setCell (p:=⟨E,2,none⟩) hlo (.slice mp ml mk))
      clear bE30 hz28 hres29
      (apply mixT_run;(focus rfl);(focus rfl);intro K hK;go_simp)
      refine hK _ _ (fun _=>K3.out) ?_
      clear hK K x0 x1 x2 xl xf0 xf1 xf2
      have bE:=K1.out
      have hres:=K2.out
      have hz:=K3.out
      simp only[List.set] at bE
      clear K1 K2 K3
      generalize ((w27.setCell ⟨E,0,none⟩ (.int .i64 (mr:Nat))).setCell ⟨E,1,none⟩ (.int .i64 (mcc:Nat))).setCell ⟨E,2,none⟩ (.slice mp ml mk)=w77 at *
      (apply mixT_run;(focus rfl);(focus rfl);intro K hK;go_simp)
      refine hK _ _ (fun h=>absurd h (by decide)) ?_
      clear hK K
      refine mixT_done ?_
      go_wp2_with fail
      go_meet
      exact⟨E,mr,mcc,mp,ml,mk,me,rfl,rfl,bE,hz,hres⟩
    ·intro K hK
     go_simp
     refine hK _ _ (fun _=>hz9.alloc _) ?_
     clear hK K
     obtain⟨E,hE⟩:∃ z,z=w6.heap.size:=⟨_,rfl⟩
     have bE33:=Bx.new_at w6 #[.int .i64 0,.int .i64 0,.slice none 0 0] 37 hE
     have hlo:wt.heap.size≤E:=by rw[hE];exact hz9.siz
     have hown34:=hown7.alloc (.cells #[.int .i64 0,.int .i64 0,.slice none 0 0] 37)
     clear hown7
     have hz32:=hz9.alloc (.cells #[.int .i64 0,.int .i64 0,.slice none 0 0] 37)
     clear hz9
     rw[←hE]
     clear hE
     generalize w6.alloc (.cells #[.int .i64 0,.int .i64 0,.slice none 0 0] 37)=w31 at *
     refine mixT_list rfl (wpList_append_ints rfl (.tmp 117) (.tmp 118) 22 rfl wt.heap.size i0 Tryz.underlying22 hi0 hi1 hi2 hi3 v5 (0+A) _ rfl hown34 _ _ _ tt rfl ?b35p ?b35q ?b35r ?b35s ?_)
     case b35p=>exact HB.out
     case b35q=>exact HG2.out.call hz32.bel
     case b35r=>omega
     case b35s=>exact hz32.siz
     intro v36 w37 hown38 hgr39
     have bE41:=bx_grown_own bE33 hown34 (by decide) hgr39
     have hz40:=own_in (T:=3) (s:=1) hz32 hown34 hgr39
     clear hgr39 hown34 hz32 bE33
     refine⟨fun _=>hz40, ?_⟩
     (apply mixT_run;(focus rfl);(focus rfl);intro K hK;go_simp)
     have hgj:=join_ints HA.out HB.out hown38
     have cc:=scompl_gen (z:=2601) w37 (.agg #[.int .i64 n,.int .i64 n,.slice ra n rk]) v36 n (ii ++ tt) M (hS.call hz40.bel) hgj HGT.out (by omega) (by decide) HMZ.out (c_p5 _ (by have:=HGT.out.le;omega)) (fun _=>Nat.lt_trans (c_gz _ (by have:=HGT.out.le;omega)) (by decide))
     (with_reducible refine cc.mono ?_)
     rintro e w42 ⟨⟨mr,mcc,mp,ml,mk,me,rfl,hres44⟩,hb⟩
     have hz43:=hz40.call hb
     have bE45:=bE41.call hb
     clear bE41
     clear hb cc hgj hown38 hz40
     refine hK _ _ (fun _=>hz43) ?_
     clear hK K
     (repeat (apply mixT_take;(focus rfl);(focus rfl);(focus (intro w' hw';have hc':=hw'.cell;go_simp;exact rfl));refine tput ?_))
     have x0:=bE45.c0;have x1:=bE45.c1;have x2:=bE45.c2;have xl:=bE45.lt
     have xf0:=bE45.frozen 0;have xf1:=bE45.frozen 1;have xf2:=bE45.frozen 2
     have K1:=Lib.hid (((bE45.set 0 (.int .i64 (mr:Nat))).set 1 (.int .i64 (mcc:Nat))).set 2 (.slice mp ml mk))
     have K2:=Lib.hid (hres44.put3 bE45 (.int .i64 (mr:Nat)) (.int .i64 (mcc:Nat)) (.slice mp ml mk))
     have K3:=Lib.hid (((hz43.setCell (p:=⟨E,0,none⟩) hlo (.int .i64 (mr:Nat))).setCell (p:=⟨E,1,none⟩) hlo (.int .i64 (mcc:Nat))).setCell (p:=⟨E,2,none⟩) hlo (.slice mp ml mk))
     clear bE45 hz43 hres44
     (apply mixT_run;(focus rfl);(focus rfl);intro K hK;go_simp)
     refine hK _ _ (fun _=>K3.out) ?_
     clear hK K x0 x1 x2 xl xf0 xf1 xf2
     have bE:=K1.out
     have hres:=K2.out
     have hz:=K3.out
     simp only[List.set] at bE
     clear K1 K2 K3
     generalize ((w42.setCell ⟨E,0,none⟩ (.int .i64 (mr:Nat))).setCell ⟨E,1,none⟩ (.int .i64 (mcc:Nat))).setCell ⟨E,2,none⟩ (.slice mp ml mk)=w77 at *
     (apply mixT_run;(focus rfl);(focus rfl);intro K hK;go_simp)
     refine hK _ _ (fun h=>absurd h (by decide)) ?_
     clear hK K
     refine mixT_done ?_
     go_wp2_with fail
     go_meet
     exact⟨E,mr,mcc,mp,ml,mk,me,rfl,rfl,bE,hz,hres⟩
   ·intro K hK
    go_simp
    refine hK _ _ (fun _=>hz3.alloc _) ?_
    clear hK K
    obtain⟨E,hE⟩:∃ z,z=w1.heap.size:=⟨_,rfl⟩
    have bE48:=Bx.new_at w1 #[.int .i64 0,.int .i64 0,.slice none 0 0] 37 hE
    have hlo:wt.heap.size≤E:=by rw[hE];exact hz3.siz
    have hown49:=hown2.alloc (.cells #[.int .i64 0,.int .i64 0,.slice none 0 0] 37)
    clear hown2
    have hz47:=hz3.alloc (.cells #[.int .i64 0,.int .i64 0,.slice none 0 0] 37)
    clear hz3
    rw[←hE]
    clear hE
    generalize w1.alloc (.cells #[.int .i64 0,.int .i64 0,.slice none 0 0] 37)=w46 at *
    refine mixT_list rfl (wpList_append_ints rfl (.tmp 115) (.tmp 116) 22 rfl wt.heap.size i0 Tryz.underlying22 hi0 hi1 hi2 hi3 (.slice (some ⟨g0,0,none⟩) 0 0) 0 _ rfl hown49 _ _ _ ii rfl ?b50p ?b50q ?b50r ?b50s ?_)
    case b50p=>exact HA.out
    case b50q=>exact HG1.out.call hz47.bel
    case b50r=>omega
    case b50s=>exact hz47.siz
    intro v51 w52 hown53 hgr54
    have bE56:=bx_grown_own bE48 hown49 (by decide) hgr54
    have hz55:=own_in (T:=3) (s:=1) hz47 hown49 hgr54
    clear hgr54 hown49 hz47 bE48
    refine⟨fun _=>hz55, ?_⟩
    refine mixT_list rfl (wpList_append_ints rfl (.tmp 117) (.tmp 118) 22 rfl wt.heap.size i0 Tryz.underlying22 hi0 hi1 hi2 hi3 v51 (0+A) _ rfl hown53 _ _ _ tt rfl ?b57p ?b57q ?b57r ?b57s ?_)
    case b57p=>exact HB.out
    case b57q=>exact HG2.out.call hz55.bel
    case b57r=>omega
    case b57s=>exact hz55.siz
    intro v58 w59 hown60 hgr61
    have bE63:=bx_grown_own bE56 hown53 (by decide) hgr61
    have hz62:=own_in (T:=3) (s:=1) hz55 hown53 hgr61
    clear hgr61 hown53 hz55 bE56
    refine⟨fun _=>hz62, ?_⟩
    (apply mixT_run;(focus rfl);(focus rfl);intro K hK;go_simp)
    have hgj:=join_ints HA.out HB.out hown60
    have cc:=scompl_gen (z:=2601) w59 (.agg #[.int .i64 n,.int .i64 n,.slice ra n rk]) v58 n (ii ++ tt) M (hS.call hz62.bel) hgj HGT.out (by omega) (by decide) HMZ.out (c_p5 _ (by have:=HGT.out.le;omega)) (fun _=>Nat.lt_trans (c_gz _ (by have:=HGT.out.le;omega)) (by decide))
    (with_reducible refine cc.mono ?_)
    rintro e w64 ⟨⟨mr,mcc,mp,ml,mk,me,rfl,hres66⟩,hb⟩
    have hz65:=hz62.call hb
    have bE67:=bE63.call hb
    clear bE63
    clear hb cc hgj hown60 hz62
    refine hK _ _ (fun _=>hz65) ?_
    clear hK K
    (repeat (apply mixT_take;(focus rfl);(focus rfl);(focus (intro w' hw';have hc':=hw'.cell;go_simp;exact rfl));refine tput ?_))
    have x0:=bE67.c0;have x1:=bE67.c1;have x2:=bE67.c2;have xl:=bE67.lt
    have xf0:=bE67.frozen 0;have xf1:=bE67.frozen 1;have xf2:=bE67.frozen 2
    have K1:=Lib.hid (((bE67.set 0 (.int .i64 (mr:Nat))).set 1 (.int .i64 (mcc:Nat))).set 2 (.slice mp ml mk))
    have K2:=Lib.hid (hres66.put3 bE67 (.int .i64 (mr:Nat)) (.int .i64 (mcc:Nat)) (.slice mp ml mk))
    have K3:=Lib.hid (((hz65.setCell (p:=⟨E,0,none⟩) hlo (.int .i64 (mr:Nat))).setCell (p:=⟨E,1,none⟩) hlo (.int .i64 (mcc:Nat))).setCell (p:=⟨E,2,none⟩) hlo (.slice mp ml mk))
    clear bE67 hz65 hres66
    (apply mixT_run;(focus rfl);(focus rfl);intro K hK;go_simp)
    refine hK _ _ (fun _=>K3.out) ?_
    clear hK K x0 x1 x2 xl xf0 xf1 xf2
    have bE:=K1.out
    have hres:=K2.out
    have hz:=K3.out
    simp only[List.set] at bE
    clear K1 K2 K3
    generalize ((w64.setCell ⟨E,0,none⟩ (.int .i64 (mr:Nat))).setCell ⟨E,1,none⟩ (.int .i64 (mcc:Nat))).setCell ⟨E,2,none⟩ (.slice mp ml mk)=w77 at *
    (apply mixT_run;(focus rfl);(focus rfl);intro K hK;go_simp)
    refine hK _ _ (fun h=>absurd h (by decide)) ?_
    clear hK K
    refine mixT_done ?_
    go_wp2_with fail
    go_meet
    exact⟨E,mr,mcc,mp,ml,mk,me,rfl,rfl,bE,hz,hres⟩
  ·intro K hK
   go_simp
   refine hK _ _ (fun _=>hz.alloc _) ?_
   clear hK K
   obtain⟨E,hE⟩:∃ z,z=w70.heap.size:=⟨_,rfl⟩
   have bE70:=Bx.new_at w70 #[.int .i64 0,.int .i64 0,.slice none 0 0] 37 hE
   have hlo:wt.heap.size≤E:=by rw[hE];exact hz.siz
   have hz69:=hz.alloc (.cells #[.int .i64 0,.int .i64 0,.slice none 0 0] 37)
   clear hz
   rw[←hE]
   clear hE
   generalize w70.alloc (.cells #[.int .i64 0,.int .i64 0,.slice none 0 0] 37)=w68 at *
   (apply mixT_run;(focus rfl);(focus rfl);intro K hK;go_simp)
   refine hK _ _ (fun _=>hz69.alloc _) ?_
   clear hK K
   have hown72:=World.ownsRow_made (e:=3) (size:=1) w68 #[] 0 hz69.siz (by decide) rfl
   have bE74:=bE70.alloc (.cells #[] 3)
   clear bE70
   have hz73:=hz69.alloc (.cells #[] 3)
   clear hz69
   obtain⟨g0,hg0⟩:∃ z,z=w68.heap.size:=⟨_,rfl⟩
   rw[←hg0] at hown72 ⊢
   clear hg0
   generalize w68.alloc (.cells #[] 3)=w71 at *
   refine mixT_list rfl (wpList_append_ints rfl (.tmp 115) (.tmp 116) 22 rfl wt.heap.size i0 Tryz.underlying22 hi0 hi1 hi2 hi3 (.slice (some ⟨g0,0,none⟩) 0 0) 0 _ rfl hown72 _ _ _ ii rfl ?b75p ?b75q ?b75r ?b75s ?_)
   case b75p=>exact HA.out
   case b75q=>exact HG1.out.call hz73.bel
   case b75r=>omega
   case b75s=>exact hz73.siz
   intro v76 w77 hown78 hgr79
   have bE81:=bx_grown_own bE74 hown72 (by decide) hgr79
   have hz80:=own_in (T:=3) (s:=1) hz73 hown72 hgr79
   clear hgr79 hown72 hz73 bE74
   refine⟨fun _=>hz80, ?_⟩
   refine mixT_list rfl (wpList_append_ints rfl (.tmp 117) (.tmp 118) 22 rfl wt.heap.size i0 Tryz.underlying22 hi0 hi1 hi2 hi3 v76 (0+A) _ rfl hown78 _ _ _ tt rfl ?b82p ?b82q ?b82r ?b82s ?_)
   case b82p=>exact HB.out
   case b82q=>exact HG2.out.call hz80.bel
   case b82r=>omega
   case b82s=>exact hz80.siz
   intro v83 w84 hown85 hgr86
   have bE88:=bx_grown_own bE81 hown78 (by decide) hgr86
   have hz87:=own_in (T:=3) (s:=1) hz80 hown78 hgr86
   clear hgr86 hown78 hz80 bE81
   refine⟨fun _=>hz87, ?_⟩
   (apply mixT_run;(focus rfl);(focus rfl);intro K hK;go_simp)
   have hgj:=join_ints HA.out HB.out hown85
   have cc:=scompl_gen (z:=2601) w84 (.agg #[.int .i64 n,.int .i64 n,.slice ra n rk]) v83 n (ii ++ tt) M (hS.call hz87.bel) hgj HGT.out (by omega) (by decide) HMZ.out (c_p5 _ (by have:=HGT.out.le;omega)) (fun _=>Nat.lt_trans (c_gz _ (by have:=HGT.out.le;omega)) (by decide))
   (with_reducible refine cc.mono ?_)
   rintro e w89 ⟨⟨mr,mcc,mp,ml,mk,me,rfl,hres91⟩,hb⟩
   have hz90:=hz87.call hb
   have bE92:=bE88.call hb
   clear bE88
   clear hb cc hgj hown85 hz87
   refine hK _ _ (fun _=>hz90) ?_
   clear hK K
   (repeat (apply mixT_take;(focus rfl);(focus rfl);(focus (intro w' hw';have hc':=hw'.cell;go_simp;exact rfl));refine tput ?_))
   have x0:=bE92.c0;have x1:=bE92.c1;have x2:=bE92.c2;have xl:=bE92.lt
   have xf0:=bE92.frozen 0;have xf1:=bE92.frozen 1;have xf2:=bE92.frozen 2
   have K1:=Lib.hid (((bE92.set 0 (.int .i64 (mr:Nat))).set 1 (.int .i64 (mcc:Nat))).set 2 (.slice mp ml mk))
   have K2:=Lib.hid (hres91.put3 bE92 (.int .i64 (mr:Nat)) (.int .i64 (mcc:Nat)) (.slice mp ml mk))
   have K3:=Lib.hid (((hz90.setCell (p:=⟨E,0,none⟩) hlo (.int .i64 (mr:Nat))).setCell (p:=⟨E,1,none⟩) hlo (.int .i64 (mcc:Nat))).setCell (p:=⟨E,2,none⟩) hlo (.slice mp ml mk))
   clear bE92 hz90 hres91
   (apply mixT_run;(focus rfl);(focus rfl);intro K hK;go_simp)
   refine hK _ _ (fun _=>K3.out) ?_
   clear hK K x0 x1 x2 xl xf0 xf1 xf2
   have bE:=K1.out
   have hres:=K2.out
   have hz:=K3.out
   simp only[List.set] at bE
   clear K1 K2 K3
   generalize ((w89.setCell ⟨E,0,none⟩ (.int .i64 (mr:Nat))).setCell ⟨E,1,none⟩ (.int .i64 (mcc:Nat))).setCell ⟨E,2,none⟩ (.slice mp ml mk)=w77 at *
   (apply mixT_run;(focus rfl);(focus rfl);intro K hK;go_simp)
   refine hK _ _ (fun h=>absurd h (by decide)) ?_
   clear hK K
   refine mixT_done ?_
   go_wp2_with fail
   go_meet
   exact⟨E,mr,mcc,mp,ml,mk,me,rfl,rfl,bE,hz,hres⟩
 case rest=>
  obtain⟨Bo,mr,mcc,mp,ml,mk,me,rfl,rfl,bBo,hx,hres⟩:=hcut
  have hb:=hx.bel
  clear hx HG1 HG2 hi0 hi1 hi2 hi3
  rename World=>w21
  (clear y0 y1 y2 yl;replace hin:=hin.call hb;replace hS:=hS.call hb;replace hg1:=hg1.call hb;replace hg2:=hg2.call hb;replace hg3:=hg3.call hb;replace hc:=hc.call hb;replace hgo:=hgo.call hb;replace hgm:=hgm.call hb;replace hth:=hth.call hb;replace bSb:=bSb.call hb;replace bC:=bC.call hb;replace bTh:=bTh.call hb;clear hb)
  revert w N la lc l ka kc ks cz a b2 n hn6 yz10_ S0 W1 wc2 M HMZ wc3 ra rk Sb wS t k ii tt HT4 HT3 wc5 a1 k1 a2 k2 a3 k3 HLEN A O hlen R HA HO HR HGR HGT wc6 gC NC HNS C W7 w7 ao ko i0 yz50_ wr u19 u65 u66 u67 u68 u69 u70 u71 u72 u73 u74 u75 u76 u77 u78 u79 u80 u81 u82 u83 u84 u85 u86 u87 u88 u89 i hlen2 HB ma mc HPI HPG yz60_ yz61_ yz62_ S HS9 HZG wc9 sv wc10 tr tc ta tl tk te yz70_ yz71_ Th wt w21 u113 u114 u115 u116 u117 u118 u119 u120 u121 u122 Bo mr mcc mp ml mk me bBo hres hin hS hg1 hg2 hg3 hc hgo hgm hth bSb bC bTh
  exact Kcut.out
 ⟩
set_option maxRecDepth 100000 in
set_option maxHeartbeats 16000000 in
def quotient21_any_q9:{P:Prop // P→quotient21_any_q8.1}:=⟨_,fun Kcut=>by
 replace Kcut:Keep _:=⟨Kcut⟩
 intro w N la lc l ka kc ks cz a b2 n hn6 yz10_ S0 W1 wc2 M HMZ wc3 ra rk Sb wS t k ii tt HT4 HT3 wc5 a1 k1 a2 k2 a3 k3 HLEN A O hlen R HA HO HR HGR HGT wc6 gC NC HNS C W7 w7 ao ko i0 yz50_ wr u19 u65 u66 u67 u68 u69 u70 u71 u72 u73 u74 u75 u76 u77 u78 u79 u80 u81 u82 u83 u84 u85 u86 u87 u88 u89 i hlen2 HB ma mc HPI HPG yz60_ yz61_ yz62_ S HS9 HZG wc9 sv wc10 tr tc ta tl tk te yz70_ yz71_ Th wt w21 u113 u114 u115 u116 u117 u118 u119 u120 u121 u122 Bo mr mcc mp ml mk me bBo hres hin hS hg1 hg2 hg3 hc hgo hgm hth bSb bC bTh
 have hSM:NS O S↔NS n M:=by rw[HO.out,HS9.out];exact schur_ns HGR.out HNS.out
 have HSM:=Lib.hid hSM
 clear hSM
 have hqq:NS (places (outer n ii) tt).length (sub S (places (outer n ii) tt) (places (outer n ii) tt))↔NS (ii ++ tt).length (sub M (ii ++ tt) (ii ++ tt)):=by rw[HS9.out];exact quot_ns HT3.out HT4.out HNS.out
 by_cases hq:¬ NS (ii ++ tt).length (sub M (ii ++ tt) (ii ++ tt))
 ·clear Kcut
  obtain⟨_,rfl,rfl,rfl,rfl,rfl,rfl⟩:=hres.resolve_left (fun h=>hq h.1)
  obtain⟨_,rfl,rfl,rfl,rfl,rfl,rfl⟩:=hth.resolve_left (fun h=>hq (hqq.1 h.1))
  clear hqq hq
  go_upto_region 24 with fail
  by_cases hM:¬ NS n M
  ·have HM:=Lib.hid hM
   clear hM
   have c4:=ldense_any w21 (.agg #[.int .i64 n,.int .i64 n,.slice ra n rk]) n M hS (by omega)
   (have y0:=bSb.c0;have y1:=bSb.c1;have y2:=bSb.c2;have yl:=bSb.lt)
   (go_wp2_with fail;(((with_reducible refine(c4).mono ?_)));(rintro e wc12 ⟨⟨dd,rfl,hd⟩,hb⟩);clear y0 y1 y2 yl c4;replace hin:=hin.call hb;replace hS:=hS.call hb;replace hg1:=hg1.call hb;replace hg2:=hg2.call hb;replace hg3:=hg3.call hb;replace hc:=hc.call hb;replace hgo:=hgo.call hb;replace hgm:=hgm.call hb;replace hth:=hth.call hb;replace hres:=hres.call hb;replace bSb:=bSb.call hb;replace bC:=bC.call hb;replace bTh:=bTh.call hb;replace bBo:=bBo.call hb;clear hb)
   have ci:=einverse_any (z:=2601) wc12 dd n M hd (by omega) (by decide) HMZ.out (c_p5 _ (by omega))
   (go_wp2_with fail;(((with_reducible refine(ci).mono ?_)));(rintro e wc13 ⟨hI,hb⟩);clear ci hd;replace hin:=hin.call hb;replace hS:=hS.call hb;replace hg1:=hg1.call hb;replace hg2:=hg2.call hb;replace hg3:=hg3.call hb;replace hc:=hc.call hb;replace hgo:=hgo.call hb;replace hgm:=hgm.call hb;replace hth:=hth.call hb;replace hres:=hres.call hb;replace bSb:=bSb.call hb;replace bC:=bC.call hb;replace bTh:=bTh.call hb;replace bBo:=bBo.call hb;clear hb)
   obtain⟨_,rfl⟩:=hI.resolve_left (fun h=>HM.out h.1)
   clear hI
   go_upto_region 25 with fail
   ((obtain⟨I1,hI1⟩:∃ z,z=wc13.heap.size:=⟨_,rfl⟩);(have bI1:=Bx.new_at wc13 #[.int .i64 0,.int .i64 0,.slice none 0 0] 37 hI1);(replace hin:=hin.alloc (.cells #[.int .i64 0,.int .i64 0,.slice none 0 0] 37));(replace bSb:=bSb.alloc (.cells #[.int .i64 0,.int .i64 0,.slice none 0 0] 37));(replace bC:=bC.alloc (.cells #[.int .i64 0,.int .i64 0,.slice none 0 0] 37));(replace bTh:=bTh.alloc (.cells #[.int .i64 0,.int .i64 0,.slice none 0 0] 37));(replace bBo:=bBo.alloc (.cells #[.int .i64 0,.int .i64 0,.slice none 0 0] 37));(replace hS:=hS.call ((Below.refl _ _).alloc (Nat.le_refl _) (.cells #[.int .i64 0,.int .i64 0,.slice none 0 0] 37)));(replace hg1:=hg1.call ((Below.refl _ _).alloc (Nat.le_refl _) (.cells #[.int .i64 0,.int .i64 0,.slice none 0 0] 37)));(replace hg2:=hg2.call ((Below.refl _ _).alloc (Nat.le_refl _) (.cells #[.int .i64 0,.int .i64 0,.slice none 0 0] 37)));(replace hg3:=hg3.call ((Below.refl _ _).alloc (Nat.le_refl _) (.cells #[.int .i64 0,.int .i64 0,.slice none 0 0] 37)));(replace hc:=hc.call ((Below.refl _ _).alloc (Nat.le_refl _) (.cells #[.int .i64 0,.int .i64 0,.slice none 0 0] 37)));(replace hgo:=hgo.call ((Below.refl _ _).alloc (Nat.le_refl _) (.cells #[.int .i64 0,.int .i64 0,.slice none 0 0] 37)));(replace hgm:=hgm.call ((Below.refl _ _).alloc (Nat.le_refl _) (.cells #[.int .i64 0,.int .i64 0,.slice none 0 0] 37)));(replace hth:=hth.call ((Below.refl _ _).alloc (Nat.le_refl _) (.cells #[.int .i64 0,.int .i64 0,.slice none 0 0] 37)));(replace hres:=hres.call ((Below.refl _ _).alloc (Nat.le_refl _) (.cells #[.int .i64 0,.int .i64 0,.slice none 0 0] 37)));(rw[←hI1]);clear hI1;(generalize wc13.alloc (.cells #[.int .i64 0,.int .i64 0,.slice none 0 0] 37)=W14 at *))
   have ci:=einverse_any (z:=gz A 2601) W14 (.agg #[.int .i64 O,.int .i64 O,.slice (some ⟨gC,0,none⟩) NC NC]) O S hc (by omega) (gz_pos A 2601 (by decide)) HZG.out (c_g5 A (by omega) O (by omega))
   (have c0:=bC.c0;have c1:=bC.c1;have c2:=bC.c2;have cl:=bC.lt)
   (go_wp2_with fail;(((with_reducible refine(ci).mono ?_)));(rintro e wc15 ⟨hI,hb⟩);clear c0 c1 c2 cl ci;replace hin:=hin.call hb;replace hS:=hS.call hb;replace hg1:=hg1.call hb;replace hg2:=hg2.call hb;replace hg3:=hg3.call hb;replace hc:=hc.call hb;replace hgo:=hgo.call hb;replace hgm:=hgm.call hb;replace hth:=hth.call hb;replace hres:=hres.call hb;replace bSb:=bSb.call hb;replace bC:=bC.call hb;replace bTh:=bTh.call hb;replace bBo:=bBo.call hb;replace bI1:=bI1.call hb;clear hb)
   obtain⟨_,rfl⟩:=hI.resolve_left (fun h=>HM.out (HSM.out.1 h.1))
   clear hI
   go_upto_region 26 with fail
   ((obtain⟨I2,hI2⟩:∃ z,z=wc15.heap.size:=⟨_,rfl⟩);(have bI2:=Bx.new_at wc15 #[.int .i64 0,.int .i64 0,.slice none 0 0] 37 hI2);(replace hin:=hin.alloc (.cells #[.int .i64 0,.int .i64 0,.slice none 0 0] 37));(replace bSb:=bSb.alloc (.cells #[.int .i64 0,.int .i64 0,.slice none 0 0] 37));(replace bC:=bC.alloc (.cells #[.int .i64 0,.int .i64 0,.slice none 0 0] 37));(replace bTh:=bTh.alloc (.cells #[.int .i64 0,.int .i64 0,.slice none 0 0] 37));(replace bBo:=bBo.alloc (.cells #[.int .i64 0,.int .i64 0,.slice none 0 0] 37));(replace bI1:=bI1.alloc (.cells #[.int .i64 0,.int .i64 0,.slice none 0 0] 37));(replace hS:=hS.call ((Below.refl _ _).alloc (Nat.le_refl _) (.cells #[.int .i64 0,.int .i64 0,.slice none 0 0] 37)));(replace hg1:=hg1.call ((Below.refl _ _).alloc (Nat.le_refl _) (.cells #[.int .i64 0,.int .i64 0,.slice none 0 0] 37)));(replace hg2:=hg2.call ((Below.refl _ _).alloc (Nat.le_refl _) (.cells #[.int .i64 0,.int .i64 0,.slice none 0 0] 37)));(replace hg3:=hg3.call ((Below.refl _ _).alloc (Nat.le_refl _) (.cells #[.int .i64 0,.int .i64 0,.slice none 0 0] 37)));(replace hc:=hc.call ((Below.refl _ _).alloc (Nat.le_refl _) (.cells #[.int .i64 0,.int .i64 0,.slice none 0 0] 37)));(replace hgo:=hgo.call ((Below.refl _ _).alloc (Nat.le_refl _) (.cells #[.int .i64 0,.int .i64 0,.slice none 0 0] 37)));(replace hgm:=hgm.call ((Below.refl _ _).alloc (Nat.le_refl _) (.cells #[.int .i64 0,.int .i64 0,.slice none 0 0] 37)));(replace hth:=hth.call ((Below.refl _ _).alloc (Nat.le_refl _) (.cells #[.int .i64 0,.int .i64 0,.slice none 0 0] 37)));(replace hres:=hres.call ((Below.refl _ _).alloc (Nat.le_refl _) (.cells #[.int .i64 0,.int .i64 0,.slice none 0 0] 37)));(rw[←hI2]);clear hI2;(generalize wc15.alloc (.cells #[.int .i64 0,.int .i64 0,.slice none 0 0] 37)=W16 at *))
   (have i0:=bI1.c0;have i1:=bI1.c1;have i2:=bI1.c2;have il:=bI1.lt)
   (have j0:=bI2.c0;have j1:=bI2.c1;have j2:=bI2.c2;have jl:=bI2.lt)
   have h:=In.self W16;have hc:=h.cell;have hf:=h.frozen;refine tfwE 18 ?_;refine tset ?_;(repeat (first | refine tfs ?_ |((first |((with_reducible refine flow_pure0 (v:=?_) ?_ ?_ ?_ ?_);rotate_left 1;exact trr;exact trf)|((with_reducible refine flow_pureg (v:=?_) (j:=?_) (b:=?_) ?_ ?_ ?_ ?_);rotate_left 3;exact trr;(focus (intro u w1 hw hd;replace hd:=thn hd;simp[yielded,hd];done))));(focus (intro u w1 hw hd;replace hd:=thn hd;have hc':=hw.cell;go_simp;go_at_call 8;((with_reducible refine(cz _).mono ?_));rintro e w'' ⟨rfl,hb⟩;refine⟨?_,hb⟩;exact rfl)))| fail))
   (try clear hc hf h);intro u w' h ha hdi;replace h:=tsz h.ins;replace ha:=tah ha;have hc:=h.cell;have hf:=h.frozen
   (try obtain ha:=ha);(try dsimp only);simp only[ha];clear ha hdi
   have hbel:=(hin.call h.bel).bel
   clear hc hf h hin
   go_wp2_with fail
   go_ret
   exact⟨rfl,hbel⟩
  ·skip
   have HM:=Lib.hid (Classical.not_not.1 hM)
   clear hM
   have c4:=ldense_any w21 (.agg #[.int .i64 n,.int .i64 n,.slice ra n rk]) n M hS (by omega)
   (have y0:=bSb.c0;have y1:=bSb.c1;have y2:=bSb.c2;have yl:=bSb.lt)
   (go_wp2_with fail;(((with_reducible refine(c4).mono ?_)));(rintro e wc12 ⟨⟨dd,rfl,hd⟩,hb⟩);clear y0 y1 y2 yl c4;replace hin:=hin.call hb;replace hS:=hS.call hb;replace hg1:=hg1.call hb;replace hg2:=hg2.call hb;replace hg3:=hg3.call hb;replace hc:=hc.call hb;replace hgo:=hgo.call hb;replace hgm:=hgm.call hb;replace hth:=hth.call hb;replace hres:=hres.call hb;replace bSb:=bSb.call hb;replace bC:=bC.call hb;replace bTh:=bTh.call hb;replace bBo:=bBo.call hb;clear hb)
   have ci:=einverse_any (z:=2601) wc12 dd n M hd (by omega) (by decide) HMZ.out (c_p5 _ (by omega))
   (go_wp2_with fail;(((with_reducible refine(ci).mono ?_)));(rintro e wc13 ⟨hI,hb⟩);clear ci hd;replace hin:=hin.call hb;replace hS:=hS.call hb;replace hg1:=hg1.call hb;replace hg2:=hg2.call hb;replace hg3:=hg3.call hb;replace hc:=hc.call hb;replace hgo:=hgo.call hb;replace hgm:=hgm.call hb;replace hth:=hth.call hb;replace hres:=hres.call hb;replace bSb:=bSb.call hb;replace bC:=bC.call hb;replace bTh:=bTh.call hb;replace bBo:=bBo.call hb;clear hb)
   obtain⟨_,di,rfl,hdi⟩:=hI.resolve_right (fun h=>h.1 HM.out)
   obtain⟨gI,NI,hNI,hie,hbI⟩:=id hdi
   subst hie
   clear hNI hbI hI
   go_upto_region 25 with fail
   ((obtain⟨I1,hI1⟩:∃ z,z=wc13.heap.size:=⟨_,rfl⟩);(have bI1:=Bx.new_at wc13 #[.int .i64 n,.int .i64 n,.slice (some ⟨gI,0,none⟩) NI NI] 37 hI1);(replace hin:=hin.alloc (.cells #[.int .i64 n,.int .i64 n,.slice (some ⟨gI,0,none⟩) NI NI] 37));(replace bSb:=bSb.alloc (.cells #[.int .i64 n,.int .i64 n,.slice (some ⟨gI,0,none⟩) NI NI] 37));(replace bC:=bC.alloc (.cells #[.int .i64 n,.int .i64 n,.slice (some ⟨gI,0,none⟩) NI NI] 37));(replace bTh:=bTh.alloc (.cells #[.int .i64 n,.int .i64 n,.slice (some ⟨gI,0,none⟩) NI NI] 37));(replace bBo:=bBo.alloc (.cells #[.int .i64 n,.int .i64 n,.slice (some ⟨gI,0,none⟩) NI NI] 37));(replace hS:=hS.call ((Below.refl _ _).alloc (Nat.le_refl _) (.cells #[.int .i64 n,.int .i64 n,.slice (some ⟨gI,0,none⟩) NI NI] 37)));(replace hg1:=hg1.call ((Below.refl _ _).alloc (Nat.le_refl _) (.cells #[.int .i64 n,.int .i64 n,.slice (some ⟨gI,0,none⟩) NI NI] 37)));(replace hg2:=hg2.call ((Below.refl _ _).alloc (Nat.le_refl _) (.cells #[.int .i64 n,.int .i64 n,.slice (some ⟨gI,0,none⟩) NI NI] 37)));(replace hg3:=hg3.call ((Below.refl _ _).alloc (Nat.le_refl _) (.cells #[.int .i64 n,.int .i64 n,.slice (some ⟨gI,0,none⟩) NI NI] 37)));(replace hc:=hc.call ((Below.refl _ _).alloc (Nat.le_refl _) (.cells #[.int .i64 n,.int .i64 n,.slice (some ⟨gI,0,none⟩) NI NI] 37)));(replace hgo:=hgo.call ((Below.refl _ _).alloc (Nat.le_refl _) (.cells #[.int .i64 n,.int .i64 n,.slice (some ⟨gI,0,none⟩) NI NI] 37)));(replace hgm:=hgm.call ((Below.refl _ _).alloc (Nat.le_refl _) (.cells #[.int .i64 n,.int .i64 n,.slice (some ⟨gI,0,none⟩) NI NI] 37)));(replace hth:=hth.call ((Below.refl _ _).alloc (Nat.le_refl _) (.cells #[.int .i64 n,.int .i64 n,.slice (some ⟨gI,0,none⟩) NI NI] 37)));(replace hres:=hres.call ((Below.refl _ _).alloc (Nat.le_refl _) (.cells #[.int .i64 n,.int .i64 n,.slice (some ⟨gI,0,none⟩) NI NI] 37)));(replace hdi:=hdi.call ((Below.refl _ _).alloc (Nat.le_refl _) (.cells #[.int .i64 n,.int .i64 n,.slice (some ⟨gI,0,none⟩) NI NI] 37)));(rw[←hI1]);clear hI1;(generalize wc13.alloc (.cells #[.int .i64 n,.int .i64 n,.slice (some ⟨gI,0,none⟩) NI NI] 37)=W14 at *))
   have ci:=einverse_any (z:=gz A 2601) W14 (.agg #[.int .i64 O,.int .i64 O,.slice (some ⟨gC,0,none⟩) NC NC]) O S hc (by omega) (gz_pos A 2601 (by decide)) HZG.out (c_g5 A (by omega) O (by omega))
   (have c0:=bC.c0;have c1:=bC.c1;have c2:=bC.c2;have cl:=bC.lt)
   (go_wp2_with fail;(((with_reducible refine(ci).mono ?_)));(rintro e wc15 ⟨hI,hb⟩);clear c0 c1 c2 cl ci;replace hin:=hin.call hb;replace hS:=hS.call hb;replace hg1:=hg1.call hb;replace hg2:=hg2.call hb;replace hg3:=hg3.call hb;replace hc:=hc.call hb;replace hgo:=hgo.call hb;replace hgm:=hgm.call hb;replace hth:=hth.call hb;replace hres:=hres.call hb;replace hdi:=hdi.call hb;replace bSb:=bSb.call hb;replace bC:=bC.call hb;replace bTh:=bTh.call hb;replace bBo:=bBo.call hb;replace bI1:=bI1.call hb;clear hb)
   obtain⟨_,dj,rfl,hdj⟩:=hI.resolve_right (fun h=>h.1 (HSM.out.2 HM.out))
   obtain⟨gJ,NJ,hNJ,hje,hbJ⟩:=id hdj
   subst hje
   clear hNJ hbJ hI
   go_upto_region 26 with fail
   ((obtain⟨I2,hI2⟩:∃ z,z=wc15.heap.size:=⟨_,rfl⟩);(have bI2:=Bx.new_at wc15 #[.int .i64 O,.int .i64 O,.slice (some ⟨gJ,0,none⟩) NJ NJ] 37 hI2);(replace hin:=hin.alloc (.cells #[.int .i64 O,.int .i64 O,.slice (some ⟨gJ,0,none⟩) NJ NJ] 37));(replace bSb:=bSb.alloc (.cells #[.int .i64 O,.int .i64 O,.slice (some ⟨gJ,0,none⟩) NJ NJ] 37));(replace bC:=bC.alloc (.cells #[.int .i64 O,.int .i64 O,.slice (some ⟨gJ,0,none⟩) NJ NJ] 37));(replace bTh:=bTh.alloc (.cells #[.int .i64 O,.int .i64 O,.slice (some ⟨gJ,0,none⟩) NJ NJ] 37));(replace bBo:=bBo.alloc (.cells #[.int .i64 O,.int .i64 O,.slice (some ⟨gJ,0,none⟩) NJ NJ] 37));(replace bI1:=bI1.alloc (.cells #[.int .i64 O,.int .i64 O,.slice (some ⟨gJ,0,none⟩) NJ NJ] 37));(replace hS:=hS.call ((Below.refl _ _).alloc (Nat.le_refl _) (.cells #[.int .i64 O,.int .i64 O,.slice (some ⟨gJ,0,none⟩) NJ NJ] 37)));(replace hg1:=hg1.call ((Below.refl _ _).alloc (Nat.le_refl _) (.cells #[.int .i64 O,.int .i64 O,.slice (some ⟨gJ,0,none⟩) NJ NJ] 37)));(replace hg2:=hg2.call ((Below.refl _ _).alloc (Nat.le_refl _) (.cells #[.int .i64 O,.int .i64 O,.slice (some ⟨gJ,0,none⟩) NJ NJ] 37)));(replace hg3:=hg3.call ((Below.refl _ _).alloc (Nat.le_refl _) (.cells #[.int .i64 O,.int .i64 O,.slice (some ⟨gJ,0,none⟩) NJ NJ] 37)));(replace hc:=hc.call ((Below.refl _ _).alloc (Nat.le_refl _) (.cells #[.int .i64 O,.int .i64 O,.slice (some ⟨gJ,0,none⟩) NJ NJ] 37)));(replace hgo:=hgo.call ((Below.refl _ _).alloc (Nat.le_refl _) (.cells #[.int .i64 O,.int .i64 O,.slice (some ⟨gJ,0,none⟩) NJ NJ] 37)));(replace hgm:=hgm.call ((Below.refl _ _).alloc (Nat.le_refl _) (.cells #[.int .i64 O,.int .i64 O,.slice (some ⟨gJ,0,none⟩) NJ NJ] 37)));(replace hth:=hth.call ((Below.refl _ _).alloc (Nat.le_refl _) (.cells #[.int .i64 O,.int .i64 O,.slice (some ⟨gJ,0,none⟩) NJ NJ] 37)));(replace hres:=hres.call ((Below.refl _ _).alloc (Nat.le_refl _) (.cells #[.int .i64 O,.int .i64 O,.slice (some ⟨gJ,0,none⟩) NJ NJ] 37)));(replace hdi:=hdi.call ((Below.refl _ _).alloc (Nat.le_refl _) (.cells #[.int .i64 O,.int .i64 O,.slice (some ⟨gJ,0,none⟩) NJ NJ] 37)));(replace hdj:=hdj.call ((Below.refl _ _).alloc (Nat.le_refl _) (.cells #[.int .i64 O,.int .i64 O,.slice (some ⟨gJ,0,none⟩) NJ NJ] 37)));(rw[←hI2]);clear hI2;(generalize wc15.alloc (.cells #[.int .i64 O,.int .i64 O,.slice (some ⟨gJ,0,none⟩) NJ NJ] 37)=W16 at *))
   have hdk:MatS W16 (.agg #[.int .i64 O,.int .i64 O,.slice (some ⟨gJ,0,none⟩) NJ NJ]) O O (sub (invM n M) (outer n ii) (outer n ii)):=hdj.congr fun i k hi hk=>by
    rw[HO.out] at hi hk
    rw[HO.out,HS9.out]
    exact schur_inv HGR.out HNS.out HM.out hi hk
   have b1:=fun W (h:In W16.heap.size W16 W)=>lblock_any W (.agg #[.int .i64 n,.int .i64 n,.slice (some ⟨gI,0,none⟩) NI NI]) n (invM n M) (hdi.call h.bel) (by omega) (.slice ao O ko) (.slice ao O ko) (outer n ii) (outer n ii) (hgo.call h.bel) (hgo.call h.bel) (fun i h=>HGR.out.split.lt (.inr h)) (fun i h=>HGR.out.split.lt (.inr h)) (by rw[←HO.out];omega) (by rw[←HO.out];omega)
   simp only[←HO.out] at b1
   have cs:=fun W x (h:In W16.heap.size W16 W) (hx:MatS W x O O (sub (invM n M) (outer n ii) (outer n ii)))=>msame_any W (.agg #[.int .i64 O,.int .i64 O,.slice (some ⟨gJ,0,none⟩) NJ NJ]) x O O O O _ _ (hdk.call h.bel).mat hx.mat (by rw[dense_length];exact Nat.le_trans (Nat.mul_le_mul (show O≤6 by omega) (show O≤6 by omega)) (by decide))
   simp only[sameD_self] at cs
   (have i0:=bI1.c0;have i1:=bI1.c1;have i2:=bI1.c2;have il:=bI1.lt)
   (have j0:=bI2.c0;have j1:=bI2.c1;have j2:=bI2.c2;have jl:=bI2.lt)
   have h:=In.self W16;have hc:=h.cell;have hf:=h.frozen;refine tfwE 18 ?_;refine tset ?_;(repeat (first | refine tfs ?_))
   (with_reducible refine flow_relg (Vi:=MsV O O (sub (invM n M) (outer n ii) (outer n ii))) (j:=?_) (b:=?_) ?_ ?_ ?_ ?_ ?_);rotate_left 2;(focus (with_reducible rfl));(focus (intro u w1 hw hd;replace hd:=thn hd;simp[yielded,hd];done));(focus exact stable_msv _ _ _);(focus (intro u w1 hw hd;replace hd:=thn hd;have hc':=hw.cell;go_simp;(try simp only[okUpon]);go_at_call 27;((with_reducible refine(b1 _ hw.ins).mono ?_));rintro e w'' ⟨⟨v,rfl,hv⟩,hb⟩;exact⟨v,rfl,⟨hv,fun h=>by cases h⟩,hb⟩))
   ((with_reducible refine flow_pureg (v:=.bool true) (j:=?_) (b:=?_) ?_ ?_ ?_ ?_);rotate_left 2;(focus (with_reducible rfl));(focus (intro u w1 hw hd;replace hd:=thn hd;simp[yielded,hd];done));(focus (intro u w1 hw hd;replace hd:=thn hd;obtain⟨hd1,hd2,_⟩:=hd;have hc':=hw.cell;go_simp;go_at_call 24;((with_reducible refine(cs _ _ hw.ins hd2.m).mono ?_));rintro e w'' ⟨rfl,hb⟩;exact⟨rfl,hb⟩)))
   (repeat (first | refine tfs ?_ |((first |((with_reducible refine flow_pure0 (v:=?_) ?_ ?_ ?_ ?_);rotate_left 1;exact trr;exact trf)|((with_reducible refine flow_pureg (v:=?_) (j:=?_) (b:=?_) ?_ ?_ ?_ ?_);rotate_left 3;exact trr;(focus (intro u w1 hw hd;replace hd:=thn hd;simp[yielded,hd];done))));(focus (intro u w1 hw hd;replace hd:=thn hd;have hc':=hw.cell;go_simp;go_at_call 8;((with_reducible refine(cz _).mono ?_));rintro e w'' ⟨rfl,hb⟩;refine⟨?_,hb⟩;exact rfl)))| fail))
   (try clear hc hf h);intro u w' h ha hdi;replace h:=tsz h.ins;replace ha:=tah ha;have hc:=h.cell;have hf:=h.frozen
   (try obtain ha:=ha);(try dsimp only);simp only[ha];clear ha hdi
   have hbel:=(hin.call h.bel).bel
   clear hc hf h hin
   go_wp2_with fail
   go_ret
   exact⟨rfl,hbel⟩
 ·skip
  replace hq:=Classical.not_not.1 hq
  obtain⟨_,rfl,hmr,hmc,hB2⟩:=hres.resolve_right (fun h=>h.1 hq)
  obtain⟨_,rfl,htr,htc,hT2⟩:=hth.resolve_right (fun h=>h.1 (hqq.2 hq))
  have hRe:(outer O (places (outer n ii) tt)).length=R:=by rw[HO.out,HR.out];exact(sub2_places HT3.out HT4.out).len.2.symm
  rw[hRe] at hT2 htr htc
  rw[←HR.out] at hB2 hmr hmc
  replace hmr:=hmr.symm
  subst hmr
  replace hmc:=hmc.symm
  subst hmc
  replace htr:=htr.symm
  subst htr
  replace htc:=htc.symm
  subst htc
  have hT3:=hT2.congr (G:=schur M (ii ++ tt) (outer n (ii ++ tt)) (invM (ii ++ tt).length (sub M (ii ++ tt) (ii ++ tt)))) fun i k hi hk=>by
   rw[HR.out] at hi hk
   rw[HS9.out,HO.out]
   exact quot_eq HGR.out HT3.out HT4.out HNS.out hq hi hk
  have cs:=msame_any w21 (.agg #[.int .i64 R,.int .i64 R,.slice ta tl tk]) (.agg #[.int .i64 R,.int .i64 R,.slice mp ml mk]) _ _ _ _ _ _ hT3.mat hB2.mat (by rw[dense_length];exact Nat.le_trans (Nat.mul_le_mul (show R≤6 by omega) (show R≤6 by omega)) (by decide))
  rw[sameD_self] at cs
  clear hres hth hqq hq hRe hT2 hT3 hB2
  (have t0:=bTh.c0;have t1:=bTh.c1;have t2:=bTh.c2;have tl:=bTh.lt)
  (have o0:=bBo.c0;have o1:=bBo.c1;have o2:=bBo.c2;have ol:=bBo.lt)
  (go_wp2_with fail;(((with_reducible refine(cs).mono ?_)));rintro e wc12 ⟨rfl,hb⟩;clear t0 t1 t2 tl o0 o1 o2 ol cs;replace hin:=hin.call hb;replace hS:=hS.call hb;replace hg1:=hg1.call hb;replace hg2:=hg2.call hb;replace hg3:=hg3.call hb;replace hc:=hc.call hb;replace hgo:=hgo.call hb;replace hgm:=hgm.call hb;replace bSb:=bSb.call hb;replace bC:=bC.call hb;replace bTh:=bTh.call hb;replace bBo:=bBo.call hb;clear hb)
  (have t0:=bTh.c0;have t1:=bTh.c1;have t2:=bTh.c2;have tl:=bTh.lt)
  (have o0:=bBo.c0;have o1:=bBo.c1;have o2:=bBo.c2;have ol:=bBo.lt)
  go_upto_region 24 with fail
  rename_i yz90_ yz91_ yz92_ yz93_ yz94_
  revert w N la lc l ka kc ks cz a b2 n hn6 yz10_ S0 W1 wc2 M HMZ wc3 ra rk Sb wS t k ii tt HT4 HT3 wc5 a1 k1 a2 k2 a3 k3 HLEN A O hlen R HA HO HR HGR HGT wc6 gC NC HNS C W7 w7 ao ko i0 yz50_ wr u19 u65 u66 u67 u68 u69 u70 u71 u72 u73 u74 u75 u76 u77 u78 u79 u80 u81 u82 u83 u84 u85 u86 u87 u88 u89 i hlen2 HB ma mc HPI HPG yz60_ yz61_ yz62_ S HS9 HZG wc9 sv wc10 ta yz90_ tk Th wt w21 u113 u114 u115 u116 u117 u118 u119 u120 u121 u122 Bo mp ml mk HSM yz91_ yz92_ wc12 hin hS hg1 hg2 hg3 hc hgo hgm bSb bC bTh bBo t0 t1 t2 tl o0 o1 o2 ol yz93_ yz94_
  exact Kcut.out
 ⟩
set_option maxRecDepth 100000 in
set_option maxHeartbeats 16000000 in
theorem quotient21_any_q10:quotient21_any_q9.1:=by
 intro w N la lc l ka kc ks cz a b2 n hn6 yz10_ S0 W1 wc2 M HMZ wc3 ra rk Sb wS t k ii tt HT4 HT3 wc5 a1 k1 a2 k2 a3 k3 HLEN A O hlen R HA HO HR HGR HGT wc6 gC NC HNS C W7 w7 ao ko i0 yz50_ wr u19 u65 u66 u67 u68 u69 u70 u71 u72 u73 u74 u75 u76 u77 u78 u79 u80 u81 u82 u83 u84 u85 u86 u87 u88 u89 i hlen2 HB ma mc HPI HPG yz60_ yz61_ yz62_ S HS9 HZG wc9 sv wc10 ta yz90_ tk Th wt w21 u113 u114 u115 u116 u117 u118 u119 u120 u121 u122 Bo mp ml mk HSM yz91_ yz92_ wc12 hin hS hg1 hg2 hg3 hc hgo hgm bSb bC bTh bBo t0 t1 t2 tl o0 o1 o2 ol yz93_ yz94_
 by_cases hM:¬ NS n M
 ·have HM:=Lib.hid hM
  clear hM
  have c4:=ldense_any wc12 (.agg #[.int .i64 n,.int .i64 n,.slice ra n rk]) n M hS (by omega)
  (have y0:=bSb.c0;have y1:=bSb.c1;have y2:=bSb.c2;have yl:=bSb.lt)
  (go_wp2_with fail;(((with_reducible refine(c4).mono ?_)));(rintro e wc13 ⟨⟨dd,rfl,hd⟩,hb⟩);clear t0 t1 t2 tl o0 o1 o2 ol y0 y1 y2 yl c4;replace hin:=hin.call hb;replace hS:=hS.call hb;replace hg1:=hg1.call hb;replace hg2:=hg2.call hb;replace hg3:=hg3.call hb;replace hc:=hc.call hb;replace hgo:=hgo.call hb;replace hgm:=hgm.call hb;replace bSb:=bSb.call hb;replace bC:=bC.call hb;replace bTh:=bTh.call hb;replace bBo:=bBo.call hb;clear hb)
  have ci:=einverse_any (z:=2601) wc13 dd n M hd (by omega) (by decide) HMZ.out (c_p5 _ (by omega))
  (go_wp2_with fail;(((with_reducible refine(ci).mono ?_)));(rintro e wc14 ⟨hI,hb⟩);clear ci hd;replace hin:=hin.call hb;replace hS:=hS.call hb;replace hg1:=hg1.call hb;replace hg2:=hg2.call hb;replace hg3:=hg3.call hb;replace hc:=hc.call hb;replace hgo:=hgo.call hb;replace hgm:=hgm.call hb;replace bSb:=bSb.call hb;replace bC:=bC.call hb;replace bTh:=bTh.call hb;replace bBo:=bBo.call hb;clear hb)
  obtain⟨_,rfl⟩:=hI.resolve_left (fun h=>HM.out h.1)
  clear hI
  go_upto_region 25 with fail
  ((obtain⟨I1,hI1⟩:∃ z,z=wc14.heap.size:=⟨_,rfl⟩);(have bI1:=Bx.new_at wc14 #[.int .i64 0,.int .i64 0,.slice none 0 0] 37 hI1);(replace hin:=hin.alloc (.cells #[.int .i64 0,.int .i64 0,.slice none 0 0] 37));(replace bSb:=bSb.alloc (.cells #[.int .i64 0,.int .i64 0,.slice none 0 0] 37));(replace bC:=bC.alloc (.cells #[.int .i64 0,.int .i64 0,.slice none 0 0] 37));(replace bTh:=bTh.alloc (.cells #[.int .i64 0,.int .i64 0,.slice none 0 0] 37));(replace bBo:=bBo.alloc (.cells #[.int .i64 0,.int .i64 0,.slice none 0 0] 37));(replace hS:=hS.call ((Below.refl _ _).alloc (Nat.le_refl _) (.cells #[.int .i64 0,.int .i64 0,.slice none 0 0] 37)));(replace hg1:=hg1.call ((Below.refl _ _).alloc (Nat.le_refl _) (.cells #[.int .i64 0,.int .i64 0,.slice none 0 0] 37)));(replace hg2:=hg2.call ((Below.refl _ _).alloc (Nat.le_refl _) (.cells #[.int .i64 0,.int .i64 0,.slice none 0 0] 37)));(replace hg3:=hg3.call ((Below.refl _ _).alloc (Nat.le_refl _) (.cells #[.int .i64 0,.int .i64 0,.slice none 0 0] 37)));(replace hc:=hc.call ((Below.refl _ _).alloc (Nat.le_refl _) (.cells #[.int .i64 0,.int .i64 0,.slice none 0 0] 37)));(replace hgo:=hgo.call ((Below.refl _ _).alloc (Nat.le_refl _) (.cells #[.int .i64 0,.int .i64 0,.slice none 0 0] 37)));(replace hgm:=hgm.call ((Below.refl _ _).alloc (Nat.le_refl _) (.cells #[.int .i64 0,.int .i64 0,.slice none 0 0] 37)));(rw[←hI1]);clear hI1;(generalize wc14.alloc (.cells #[.int .i64 0,.int .i64 0,.slice none 0 0] 37)=W15 at *))
  have ci:=einverse_any (z:=gz A 2601) W15 (.agg #[.int .i64 O,.int .i64 O,.slice (some ⟨gC,0,none⟩) NC NC]) O S hc (by omega) (gz_pos A 2601 (by decide)) HZG.out (c_g5 A (by omega) O (by omega))
  (have c0:=bC.c0;have c1:=bC.c1;have c2:=bC.c2;have cl:=bC.lt)
  (go_wp2_with fail;(((with_reducible refine(ci).mono ?_)));(rintro e wc16 ⟨hI,hb⟩);clear c0 c1 c2 cl ci;replace hin:=hin.call hb;replace hS:=hS.call hb;replace hg1:=hg1.call hb;replace hg2:=hg2.call hb;replace hg3:=hg3.call hb;replace hc:=hc.call hb;replace hgo:=hgo.call hb;replace hgm:=hgm.call hb;replace bSb:=bSb.call hb;replace bC:=bC.call hb;replace bTh:=bTh.call hb;replace bBo:=bBo.call hb;replace bI1:=bI1.call hb;clear hb)
  obtain⟨_,rfl⟩:=hI.resolve_left (fun h=>HM.out (HSM.out.1 h.1))
  clear hI
  go_upto_region 26 with fail
  ((obtain⟨I2,hI2⟩:∃ z,z=wc16.heap.size:=⟨_,rfl⟩);(have bI2:=Bx.new_at wc16 #[.int .i64 0,.int .i64 0,.slice none 0 0] 37 hI2);(replace hin:=hin.alloc (.cells #[.int .i64 0,.int .i64 0,.slice none 0 0] 37));(replace bSb:=bSb.alloc (.cells #[.int .i64 0,.int .i64 0,.slice none 0 0] 37));(replace bC:=bC.alloc (.cells #[.int .i64 0,.int .i64 0,.slice none 0 0] 37));(replace bTh:=bTh.alloc (.cells #[.int .i64 0,.int .i64 0,.slice none 0 0] 37));(replace bBo:=bBo.alloc (.cells #[.int .i64 0,.int .i64 0,.slice none 0 0] 37));(replace bI1:=bI1.alloc (.cells #[.int .i64 0,.int .i64 0,.slice none 0 0] 37));(replace hS:=hS.call ((Below.refl _ _).alloc (Nat.le_refl _) (.cells #[.int .i64 0,.int .i64 0,.slice none 0 0] 37)));(replace hg1:=hg1.call ((Below.refl _ _).alloc (Nat.le_refl _) (.cells #[.int .i64 0,.int .i64 0,.slice none 0 0] 37)));(replace hg2:=hg2.call ((Below.refl _ _).alloc (Nat.le_refl _) (.cells #[.int .i64 0,.int .i64 0,.slice none 0 0] 37)));(replace hg3:=hg3.call ((Below.refl _ _).alloc (Nat.le_refl _) (.cells #[.int .i64 0,.int .i64 0,.slice none 0 0] 37)));(replace hc:=hc.call ((Below.refl _ _).alloc (Nat.le_refl _) (.cells #[.int .i64 0,.int .i64 0,.slice none 0 0] 37)));(replace hgo:=hgo.call ((Below.refl _ _).alloc (Nat.le_refl _) (.cells #[.int .i64 0,.int .i64 0,.slice none 0 0] 37)));(replace hgm:=hgm.call ((Below.refl _ _).alloc (Nat.le_refl _) (.cells #[.int .i64 0,.int .i64 0,.slice none 0 0] 37)));(rw[←hI2]);clear hI2;(generalize wc16.alloc (.cells #[.int .i64 0,.int .i64 0,.slice none 0 0] 37)=W17 at *))
  (have i0:=bI1.c0;have i1:=bI1.c1;have i2:=bI1.c2;have il:=bI1.lt)
  (have j0:=bI2.c0;have j1:=bI2.c1;have j2:=bI2.c2;have jl:=bI2.lt)
  have h:=In.self W17;have hc:=h.cell;have hf:=h.frozen;refine tfwE 18 ?_;refine tset ?_;(repeat (first | refine tfs ?_ |((first |((with_reducible refine flow_pure0 (v:=?_) ?_ ?_ ?_ ?_);rotate_left 1;exact trr;exact trf)|((with_reducible refine flow_pureg (v:=?_) (j:=?_) (b:=?_) ?_ ?_ ?_ ?_);rotate_left 3;exact trr;(focus (intro u w1 hw hd;replace hd:=thn hd;simp[yielded,hd];done))));(focus (intro u w1 hw hd;replace hd:=thn hd;have hc':=hw.cell;go_simp;go_at_call 8;((with_reducible refine(cz _).mono ?_));rintro e w'' ⟨rfl,hb⟩;refine⟨?_,hb⟩;exact rfl)))| fail))
  (try clear hc hf h);intro u w' h ha hdi;replace h:=tsz h.ins;replace ha:=tah ha;have hc:=h.cell;have hf:=h.frozen
  (try obtain ha:=ha);(try dsimp only);simp only[ha];clear ha hdi
  have hbel:=(hin.call h.bel).bel
  clear hc hf h hin
  go_wp2_with fail
  go_ret
  exact⟨rfl,hbel⟩
 ·skip
  have HM:=Lib.hid (Classical.not_not.1 hM)
  clear hM
  have c4:=ldense_any wc12 (.agg #[.int .i64 n,.int .i64 n,.slice ra n rk]) n M hS (by omega)
  (have y0:=bSb.c0;have y1:=bSb.c1;have y2:=bSb.c2;have yl:=bSb.lt)
  (go_wp2_with fail;(((with_reducible refine(c4).mono ?_)));(rintro e wc13 ⟨⟨dd,rfl,hd⟩,hb⟩);clear t0 t1 t2 tl o0 o1 o2 ol y0 y1 y2 yl c4;replace hin:=hin.call hb;replace hS:=hS.call hb;replace hg1:=hg1.call hb;replace hg2:=hg2.call hb;replace hg3:=hg3.call hb;replace hc:=hc.call hb;replace hgo:=hgo.call hb;replace hgm:=hgm.call hb;replace bSb:=bSb.call hb;replace bC:=bC.call hb;replace bTh:=bTh.call hb;replace bBo:=bBo.call hb;clear hb)
  have ci:=einverse_any (z:=2601) wc13 dd n M hd (by omega) (by decide) HMZ.out (c_p5 _ (by omega))
  (go_wp2_with fail;(((with_reducible refine(ci).mono ?_)));(rintro e wc14 ⟨hI,hb⟩);clear ci hd;replace hin:=hin.call hb;replace hS:=hS.call hb;replace hg1:=hg1.call hb;replace hg2:=hg2.call hb;replace hg3:=hg3.call hb;replace hc:=hc.call hb;replace hgo:=hgo.call hb;replace hgm:=hgm.call hb;replace bSb:=bSb.call hb;replace bC:=bC.call hb;replace bTh:=bTh.call hb;replace bBo:=bBo.call hb;clear hb)
  obtain⟨_,di,rfl,hdi⟩:=hI.resolve_right (fun h=>h.1 HM.out)
  obtain⟨gI,NI,hNI,hie,hbI⟩:=id hdi
  subst hie
  clear hNI hbI hI
  go_upto_region 25 with fail
  ((obtain⟨I1,hI1⟩:∃ z,z=wc14.heap.size:=⟨_,rfl⟩);(have bI1:=Bx.new_at wc14 #[.int .i64 n,.int .i64 n,.slice (some ⟨gI,0,none⟩) NI NI] 37 hI1);(replace hin:=hin.alloc (.cells #[.int .i64 n,.int .i64 n,.slice (some ⟨gI,0,none⟩) NI NI] 37));(replace bSb:=bSb.alloc (.cells #[.int .i64 n,.int .i64 n,.slice (some ⟨gI,0,none⟩) NI NI] 37));(replace bC:=bC.alloc (.cells #[.int .i64 n,.int .i64 n,.slice (some ⟨gI,0,none⟩) NI NI] 37));(replace bTh:=bTh.alloc (.cells #[.int .i64 n,.int .i64 n,.slice (some ⟨gI,0,none⟩) NI NI] 37));(replace bBo:=bBo.alloc (.cells #[.int .i64 n,.int .i64 n,.slice (some ⟨gI,0,none⟩) NI NI] 37));(replace hS:=hS.call ((Below.refl _ _).alloc (Nat.le_refl _) (.cells #[.int .i64 n,.int .i64 n,.slice (some ⟨gI,0,none⟩) NI NI] 37)));(replace hg1:=hg1.call ((Below.refl _ _).alloc (Nat.le_refl _) (.cells #[.int .i64 n,.int .i64 n,.slice (some ⟨gI,0,none⟩) NI NI] 37)));(replace hg2:=hg2.call ((Below.refl _ _).alloc (Nat.le_refl _) (.cells #[.int .i64 n,.int .i64 n,.slice (some ⟨gI,0,none⟩) NI NI] 37)));(replace hg3:=hg3.call ((Below.refl _ _).alloc (Nat.le_refl _) (.cells #[.int .i64 n,.int .i64 n,.slice (some ⟨gI,0,none⟩) NI NI] 37)));(replace hc:=hc.call ((Below.refl _ _).alloc (Nat.le_refl _) (.cells #[.int .i64 n,.int .i64 n,.slice (some ⟨gI,0,none⟩) NI NI] 37)));(replace hgo:=hgo.call ((Below.refl _ _).alloc (Nat.le_refl _) (.cells #[.int .i64 n,.int .i64 n,.slice (some ⟨gI,0,none⟩) NI NI] 37)));(replace hgm:=hgm.call ((Below.refl _ _).alloc (Nat.le_refl _) (.cells #[.int .i64 n,.int .i64 n,.slice (some ⟨gI,0,none⟩) NI NI] 37)));(replace hdi:=hdi.call ((Below.refl _ _).alloc (Nat.le_refl _) (.cells #[.int .i64 n,.int .i64 n,.slice (some ⟨gI,0,none⟩) NI NI] 37)));(rw[←hI1]);clear hI1;(generalize wc14.alloc (.cells #[.int .i64 n,.int .i64 n,.slice (some ⟨gI,0,none⟩) NI NI] 37)=W15 at *))
  have ci:=einverse_any (z:=gz A 2601) W15 (.agg #[.int .i64 O,.int .i64 O,.slice (some ⟨gC,0,none⟩) NC NC]) O S hc (by omega) (gz_pos A 2601 (by decide)) HZG.out (c_g5 A (by omega) O (by omega))
  (have c0:=bC.c0;have c1:=bC.c1;have c2:=bC.c2;have cl:=bC.lt)
  (go_wp2_with fail;(((with_reducible refine(ci).mono ?_)));(rintro e wc16 ⟨hI,hb⟩);clear c0 c1 c2 cl ci;replace hin:=hin.call hb;replace hS:=hS.call hb;replace hg1:=hg1.call hb;replace hg2:=hg2.call hb;replace hg3:=hg3.call hb;replace hc:=hc.call hb;replace hgo:=hgo.call hb;replace hgm:=hgm.call hb;replace hdi:=hdi.call hb;replace bSb:=bSb.call hb;replace bC:=bC.call hb;replace bTh:=bTh.call hb;replace bBo:=bBo.call hb;replace bI1:=bI1.call hb;clear hb)
  obtain⟨_,dj,rfl,hdj⟩:=hI.resolve_right (fun h=>h.1 (HSM.out.2 HM.out))
  obtain⟨gJ,NJ,hNJ,hje,hbJ⟩:=id hdj
  subst hje
  clear hNJ hbJ hI
  go_upto_region 26 with fail
  ((obtain⟨I2,hI2⟩:∃ z,z=wc16.heap.size:=⟨_,rfl⟩);(have bI2:=Bx.new_at wc16 #[.int .i64 O,.int .i64 O,.slice (some ⟨gJ,0,none⟩) NJ NJ] 37 hI2);(replace hin:=hin.alloc (.cells #[.int .i64 O,.int .i64 O,.slice (some ⟨gJ,0,none⟩) NJ NJ] 37));(replace bSb:=bSb.alloc (.cells #[.int .i64 O,.int .i64 O,.slice (some ⟨gJ,0,none⟩) NJ NJ] 37));(replace bC:=bC.alloc (.cells #[.int .i64 O,.int .i64 O,.slice (some ⟨gJ,0,none⟩) NJ NJ] 37));(replace bTh:=bTh.alloc (.cells #[.int .i64 O,.int .i64 O,.slice (some ⟨gJ,0,none⟩) NJ NJ] 37));(replace bBo:=bBo.alloc (.cells #[.int .i64 O,.int .i64 O,.slice (some ⟨gJ,0,none⟩) NJ NJ] 37));(replace bI1:=bI1.alloc (.cells #[.int .i64 O,.int .i64 O,.slice (some ⟨gJ,0,none⟩) NJ NJ] 37));(replace hS:=hS.call ((Below.refl _ _).alloc (Nat.le_refl _) (.cells #[.int .i64 O,.int .i64 O,.slice (some ⟨gJ,0,none⟩) NJ NJ] 37)));(replace hg1:=hg1.call ((Below.refl _ _).alloc (Nat.le_refl _) (.cells #[.int .i64 O,.int .i64 O,.slice (some ⟨gJ,0,none⟩) NJ NJ] 37)));(replace hg2:=hg2.call ((Below.refl _ _).alloc (Nat.le_refl _) (.cells #[.int .i64 O,.int .i64 O,.slice (some ⟨gJ,0,none⟩) NJ NJ] 37)));(replace hg3:=hg3.call ((Below.refl _ _).alloc (Nat.le_refl _) (.cells #[.int .i64 O,.int .i64 O,.slice (some ⟨gJ,0,none⟩) NJ NJ] 37)));(replace hc:=hc.call ((Below.refl _ _).alloc (Nat.le_refl _) (.cells #[.int .i64 O,.int .i64 O,.slice (some ⟨gJ,0,none⟩) NJ NJ] 37)));(replace hgo:=hgo.call ((Below.refl _ _).alloc (Nat.le_refl _) (.cells #[.int .i64 O,.int .i64 O,.slice (some ⟨gJ,0,none⟩) NJ NJ] 37)));(replace hgm:=hgm.call ((Below.refl _ _).alloc (Nat.le_refl _) (.cells #[.int .i64 O,.int .i64 O,.slice (some ⟨gJ,0,none⟩) NJ NJ] 37)));(replace hdi:=hdi.call ((Below.refl _ _).alloc (Nat.le_refl _) (.cells #[.int .i64 O,.int .i64 O,.slice (some ⟨gJ,0,none⟩) NJ NJ] 37)));(replace hdj:=hdj.call ((Below.refl _ _).alloc (Nat.le_refl _) (.cells #[.int .i64 O,.int .i64 O,.slice (some ⟨gJ,0,none⟩) NJ NJ] 37)));(rw[←hI2]);clear hI2;(generalize wc16.alloc (.cells #[.int .i64 O,.int .i64 O,.slice (some ⟨gJ,0,none⟩) NJ NJ] 37)=W17 at *))
  have hdk:MatS W17 (.agg #[.int .i64 O,.int .i64 O,.slice (some ⟨gJ,0,none⟩) NJ NJ]) O O (sub (invM n M) (outer n ii) (outer n ii)):=hdj.congr fun i k hi hk=>by
   rw[HO.out] at hi hk
   rw[HO.out,HS9.out]
   exact schur_inv HGR.out HNS.out HM.out hi hk
  have b1:=fun W (h:In W17.heap.size W17 W)=>lblock_any W (.agg #[.int .i64 n,.int .i64 n,.slice (some ⟨gI,0,none⟩) NI NI]) n (invM n M) (hdi.call h.bel) (by omega) (.slice ao O ko) (.slice ao O ko) (outer n ii) (outer n ii) (hgo.call h.bel) (hgo.call h.bel) (fun i h=>HGR.out.split.lt (.inr h)) (fun i h=>HGR.out.split.lt (.inr h)) (by rw[←HO.out];omega) (by rw[←HO.out];omega)
  simp only[←HO.out] at b1
  have cs:=fun W x (h:In W17.heap.size W17 W) (hx:MatS W x O O (sub (invM n M) (outer n ii) (outer n ii)))=>msame_any W (.agg #[.int .i64 O,.int .i64 O,.slice (some ⟨gJ,0,none⟩) NJ NJ]) x O O O O _ _ (hdk.call h.bel).mat hx.mat (by rw[dense_length];exact Nat.le_trans (Nat.mul_le_mul (show O≤6 by omega) (show O≤6 by omega)) (by decide))
  simp only[sameD_self] at cs
  (have i0:=bI1.c0;have i1:=bI1.c1;have i2:=bI1.c2;have il:=bI1.lt)
  (have j0:=bI2.c0;have j1:=bI2.c1;have j2:=bI2.c2;have jl:=bI2.lt)
  have h:=In.self W17;have hc:=h.cell;have hf:=h.frozen;refine tfwE 18 ?_;refine tset ?_;(repeat (first | refine tfs ?_))
  (with_reducible refine flow_relg (Vi:=MsV O O (sub (invM n M) (outer n ii) (outer n ii))) (j:=?_) (b:=?_) ?_ ?_ ?_ ?_ ?_);rotate_left 2;(focus (with_reducible rfl));(focus (intro u w1 hw hd;replace hd:=thn hd;simp[yielded,hd];done));(focus exact stable_msv _ _ _);(focus (intro u w1 hw hd;replace hd:=thn hd;have hc':=hw.cell;go_simp;(try simp only[okUpon]);go_at_call 27;((with_reducible refine(b1 _ hw.ins).mono ?_));rintro e w'' ⟨⟨v,rfl,hv⟩,hb⟩;exact⟨v,rfl,⟨hv,fun h=>by cases h⟩,hb⟩))
  ((with_reducible refine flow_pureg (v:=.bool true) (j:=?_) (b:=?_) ?_ ?_ ?_ ?_);rotate_left 2;(focus (with_reducible rfl));(focus (intro u w1 hw hd;replace hd:=thn hd;simp[yielded,hd];done));(focus (intro u w1 hw hd;replace hd:=thn hd;obtain⟨hd1,hd2,_⟩:=hd;have hc':=hw.cell;go_simp;go_at_call 24;((with_reducible refine(cs _ _ hw.ins hd2.m).mono ?_));rintro e w'' ⟨rfl,hb⟩;exact⟨rfl,hb⟩)))
  (repeat (first | refine tfs ?_ |((first |((with_reducible refine flow_pure0 (v:=?_) ?_ ?_ ?_ ?_);rotate_left 1;exact trr;exact trf)|((with_reducible refine flow_pureg (v:=?_) (j:=?_) (b:=?_) ?_ ?_ ?_ ?_);rotate_left 3;exact trr;(focus (intro u w1 hw hd;replace hd:=thn hd;simp[yielded,hd];done))));(focus (intro u w1 hw hd;replace hd:=thn hd;have hc':=hw.cell;go_simp;go_at_call 8;((with_reducible refine(cz _).mono ?_));rintro e w'' ⟨rfl,hb⟩;refine⟨?_,hb⟩;exact rfl)))| fail))
  (try clear hc hf h);intro u w' h ha hdi;replace h:=tsz h.ins;replace ha:=tah ha;have hc:=h.cell;have hf:=h.frozen
  (try obtain ha:=ha);(try dsimp only);simp only[ha];clear ha hdi
  have hbel:=(hin.call h.bel).bel
  clear hc hf h hin
  go_wp2_with fail
  go_ret
  exact⟨rfl,hbel⟩
set_option maxRecDepth 100000 in
set_option maxHeartbeats 16000000 in
theorem quotient21_any (w:World) (N:Nat) (hN:N<256) (la:Option Addr) (lc:Nat) (l:List TQ) (hl:TAt w la l) (hok:TOk l) (hL:l.length≤maxLen) (ka:Option Addr) (kc:Nat) (ks:List Nat) (hk:U8At w ka ks) (hk8:∀ i,ks.getD i 0<256) (hLk:ks.length≤maxLen) (z z2:Int) (hz:0≤z∧z<256) (hz2:0≤z2∧z2<256) :
  Calls Tryz.prog 4 #[.agg #[.int .u8 N,.slice la l.length lc],.slice ka ks.length kc,.int .u8 z,.int .u8 z2] w fun e w'=>e=.returned (.bool true)∧Below w.heap.size w w':=(quotient21_any_q1.2 (quotient21_any_q2.2 (quotient21_any_q3.2 (quotient21_any_q4.2 (quotient21_any_q5.2 (quotient21_any_q6.2 (quotient21_any_q7.2 (quotient21_any_q8.2 (quotient21_any_q9.2 quotient21_any_q10))))))))) w N hN la lc l hl hok hL ka kc ks hk hk8 hLk z z2 hz hz2
end Gus
end
