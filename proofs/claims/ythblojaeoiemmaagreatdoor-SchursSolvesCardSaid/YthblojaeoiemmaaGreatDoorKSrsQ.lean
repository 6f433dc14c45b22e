/- Proved here: parts of the proof: KSrs KSro. Conditions: those that each theorem states. -/
import Derived.Test.YthblojaeoiemmaaGreatDoorKSrlQ
section
namespace Gus
open Go Go.RowKit Go.Proofs
theorem c_n1:∀ a,a<7→∀ o,o<7 - a→5*(gz a 2601*5 ^ o)+2<17592186044416∧ez a o 2601 (nestZ [] o (gz a 2601))<17592186044416∧2601+(1+o*(2601+nestZ [] o (gz a 2601)+1))+1<17592186044416:=by decide +kernel
theorem c_n2:∀ a,a<7→∀ b,b<7 - a→∀ o,o<7 - a - b→5*(gz a 2601*5 ^ b)+2<17592186044416∧gz b (gz a 2601)<17592186044416∧5*(gz b (gz a 2601)*5 ^ o)+2<17592186044416∧ez b o (gz a 2601) (nestZ [] o (gz b (gz a 2601)))<17592186044416 ∧
  gz a 2601+(1+o*(gz a 2601+nestZ [] o (gz b (gz a 2601))+1))+1<17592186044416∧ez a (b+o) 2601 (nestZ [b] (b+o) (gz a 2601))<17592186044416∧2601+(1+(b+o)*(2601+nestZ [b] (b+o) (gz a 2601)+1))+1<17592186044416:=by decide +kernel
theorem nestC0r {n:Nat} {M:Mx} (hn:n≤6):NestC 0 [] n M 2601:=c_p5 n (by omega)
theorem nestC1r {n:Nat} {M:Mx} {g:List Nat} (hn:n≤6) (hg:Grp n g):NestC 1 [g] n M 2601:=by
 have hl:=hg.split.len
 obtain⟨o,ho⟩:∃ o,o=(outer n g).length:=⟨_,rfl⟩
 have hno:n - g.length=o:=by omega
 have h:=c_n1 g.length (by omega) o (by omega)
 refine⟨c_p5 _ (by omega),fun _=>⟨Nat.lt_trans (c_gz _ (by omega)) (by decide), ?_,fun _=>⟨?_, ?_⟩⟩⟩
 ·show 5*(gz g.length 2601*5 ^ (outer n g).length)+2<_
  rw[←ho];exact h.1
 ·show ez g.length (outer n g).length 2601 (nestZ [] (n - g.length) (gz g.length 2601))<_
  rw[hno,←ho];exact h.2.1
 ·show 2601+(1+(outer n g).length*(2601+nestZ [] (n - g.length) (gz g.length 2601)+1))+1<_
  rw[hno,←ho];exact h.2.2
theorem nestC2r {n:Nat} {M:Mx} {g t:List Nat} (hn:n≤6) (hg:Grp n ([g,t]:List (List Nat)).flatten):NestC 2 [g,t] n M 2601:=by
 obtain⟨h1,h2,h3⟩:=hg.cons
 have hl:=h1.split.len
 have hpb:Grp (outer n g).length (places (outer n g) t):=by simpa using h3
 have hl2:=hpb.split.len
 rw[places_length] at hl2
 obtain⟨o,ho⟩:∃ o,o=(outer (outer n g).length (places (outer n g) t)).length:=⟨_,rfl⟩
 rw[←ho] at hl2
 have hno:n - g.length=t.length+o:=by omega
 have hno2:(outer n g).length - t.length=o:=by omega
 obtain⟨h4,h5,h6,h7,h8,h9,h10⟩:=c_n2 g.length (by omega) t.length (by omega) o (by omega)
 have e1:([t].map (places (outer n g)))=[places (outer n g) t]:=rfl
 refine⟨c_p5 _ (by omega),fun _=>⟨Nat.lt_trans (c_gz _ (by omega)) (by decide),⟨?_,fun _=>⟨?_, ?_,fun _=>⟨?_, ?_⟩⟩⟩,fun _=>⟨?_, ?_⟩⟩⟩
 ·rw[places_length];exact h4
 ·rw[places_length];exact h5
 ·show 5*(gz (places (outer n g) t).length (gz g.length 2601)*5 ^ (outer (outer n g).length (places (outer n g) t)).length)+2<_
  rw[places_length,←ho];exact h6
 ·show ez (places (outer n g) t).length (outer (outer n g).length (places (outer n g) t)).length (gz g.length 2601) (nestZ [] ((outer n g).length - (places (outer n g) t).length) (gz (places (outer n g) t).length (gz g.length 2601)))<_
  rw[places_length,hno2,←ho];exact h7
 ·show gz g.length 2601+(1+(outer (outer n g).length (places (outer n g) t)).length*(gz g.length 2601+nestZ [] ((outer n g).length - (places (outer n g) t).length) (gz (places (outer n g) t).length (gz g.length 2601))+1))+1<_
  rw[places_length,hno2,←ho];exact h8
 ·show ez g.length (outer n g).length 2601 (nestZ [t.length] (n - g.length) (gz g.length 2601))<_
  rw[hno,show(outer n g).length=t.length+o by omega];exact h9
 ·show 2601+(1+(outer n g).length*(2601+nestZ [t.length] (n - g.length) (gz g.length 2601)+1))+1<_
  rw[hno,show(outer n g).length=t.length+o by omega];exact h10
theorem solve_iff {n:Nat} {M:Mx} {g:List Nat} (hg:Grp n g):nestOk 1 [g] n M↔NS g.length (sub M g g)∧NS n M:=by
 constructor
 ·intro h
  exact⟨h.1,nest_ns 1 [g] n M rfl (by simpa using hg) h⟩
 ·rintro⟨h1,h2⟩
  exact⟨h1,(hg.split.ns (inv_elim h1)).2 h2⟩
theorem isign_ne {q:Rat} (h:q≠0):(isign q.num != 0)=true:=by
 have h1:q.num≠0:=fun e=>h (Rat.num_eq_zero.1 e)
 unfold isign
 by_cases h2:q.num<0
 ·rw[if_pos h2];rfl
 ·rw[if_neg h2,if_neg h1];rfl
theorem isign0_ne:(isign (0:Rat).num != 0)=false:=by decide
end Gus
end
section
namespace Gus
open Go Go.RowKit Go.Proofs
theorem NestP.yes {w':World} {k:Nat} {gs:List (List Nat)} {n:Nat} {M:Mx} {b:Vc} {e:Ending} (h:nestOk k gs n M) (hP:(nestOk k gs n M∧∃ d,e=.returned (.tuple #[d,.int .i64 0])∧VecAt w' d (vl n (nestV k gs n M b)))∨(¬ nestOk k gs n M∧e=.returned (.tuple #[.slice none 0 0,.int .i64 6]))):∃ a c,e=.returned (.tuple #[.slice a n c,.int .i64 0])∧VecAt w' (.slice a n c) (vl n (nestV k gs n M b)):=by
 obtain⟨_,d,h1,h2⟩:=hP.resolve_right fun g=>g.1 h
 obtain⟨a,c,h3⟩:=h2.shape
 rw[vl_length] at h3
 subst h3
 exact⟨a,c,h1,h2⟩
set_option maxRecDepth 100000 in
set_option maxHeartbeats 16000000 in
def solves21_any_q1:{P:Prop // P→∀ (w:World) (N:Nat) (_:N<256) (la:Option Addr) (lc:Nat) (l:List TQ) (_:TAt w la l) (_:TOk l) (_:l.length≤maxLen) (ka:Option Addr) (kc:Nat) (ks:List Nat) (_:U8At w ka ks) (_:∀ i,ks.getD i 0<256) (_:ks.length≤maxLen) (z z2:Int) (_:0≤z∧z<256) (_:0≤z2∧z2<256) (ba:Option Addr) (bc:Nat) (qb:List (Int×Int)) (_:QAt w ba qb) (_:QOk qb) (_:qb.length≤maxLen),Calls Tryz.prog 6 #[.agg #[.int .u8 N,.slice la l.length lc],.slice ka ks.length kc,.int .u8 z,.int .u8 z2,.slice ba qb.length bc] w fun e w'=>e=.returned (.bool true)∧Below w.heap.size w w'}:=⟨_,fun Kcut=>by
 replace Kcut:Keep _:=⟨Kcut⟩
 intro w N hN la lc l hl hok hL ka kc ks hk hk8 hLk z z2 hz hz2 ba bc qb hqb hob hLb
 have cz:=works21_any
 have hin:=In.self w
 obtain⟨a,rfl⟩:=Int.eq_ofNat_of_zero_le hz.1
 have ha8:a<256:=by omega
 obtain⟨b2,rfl⟩:=Int.eq_ofNat_of_zero_le hz2.1
 have hb8:b2<256:=by omega
 clear hz2
 clear hz
 obtain⟨sm,hsm⟩:∃ sm,sm=small21 l.length ks.length [qb.length]:=⟨_,rfl⟩
 obtain⟨n,hn⟩:∃ n,n=N % (6+1):=⟨_,rfl⟩
 have hn6:n≤6:=by omega
 have HN:=Lib.hid hn
 clear hn
 go_enter Tryz.func6,Tryz.ntmps6
 go_upto_region 1 with fail
 ((obtain⟨S0,hS0⟩:∃ z,z=w.heap.size:=⟨_,rfl⟩);(have bS0:=Bx.new_at w #[.int .u8 N,.slice la l.length lc] 51 hS0);(replace hin:=hin.alloc (.cells #[.int .u8 N,.slice la l.length lc] 51));(replace hl:=hl.call ((Below.refl _ _).alloc (Nat.le_refl _) (.cells #[.int .u8 N,.slice la l.length lc] 51)));(replace hk:=hk.call ((Below.refl _ _).alloc (Nat.le_refl _) (.cells #[.int .u8 N,.slice la l.length lc] 51)));(replace hqb:=hqb.call ((Below.refl _ _).alloc (Nat.le_refl _) (.cells #[.int .u8 N,.slice la l.length lc] 51)));(rw[←hS0]);clear hS0;(generalize w.alloc (.cells #[.int .u8 N,.slice la l.length lc] 51)=W1 at *))
 (have s0:=bS0.c0;have s1:=bS0.c1;have sl:=bS0.lt)
 go_wp2_with fail
 ((obtain⟨V,hV⟩:∃ z,z=W1.heap.size:=⟨_,rfl⟩);(have bV:=Bx.new_at W1 #[.slice ba qb.length bc] 23 hV);clear s0 s1 sl;(replace hin:=hin.alloc (.cells #[.slice ba qb.length bc] 23));(replace bS0:=bS0.alloc (.cells #[.slice ba qb.length bc] 23));(replace hl:=hl.call ((Below.refl _ _).alloc (Nat.le_refl _) (.cells #[.slice ba qb.length bc] 23)));(replace hk:=hk.call ((Below.refl _ _).alloc (Nat.le_refl _) (.cells #[.slice ba qb.length bc] 23)));(replace hqb:=hqb.call ((Below.refl _ _).alloc (Nat.le_refl _) (.cells #[.slice ba qb.length bc] 23)));(rw[←hV]);clear hV;(generalize W1.alloc (.cells #[.slice ba qb.length bc] 23)=W2 at *))
 have c0:=small21_any W2 N la l.length lc ka ks.length kc (some ⟨V,0,none⟩) 1 [qb.length] (ln_one bV) (by simp)
 rw[←hsm,show[qb.length].length=1 from rfl] at c0
 have HSM:=Lib.hid hsm
 clear hsm
 ((((with_reducible refine(c0).mono ?_)));rintro e wc3 ⟨rfl,hb⟩;clear c0 bV;replace hin:=hin.call hb;replace hl:=hl.call hb;replace hk:=hk.call hb;replace hqb:=hqb.call hb;replace bS0:=bS0.call hb;clear hb)
 rcases sm with _ | _
 ·clear Kcut
  (go_wp2_with fail;(((with_reducible refine(cz _).mono ?_)));rintro e wc4 ⟨rfl,hb⟩;replace hin:=hin.call hb;replace hl:=hl.call hb;replace hk:=hk.call hb;replace hqb:=hqb.call hb;replace bS0:=bS0.call hb;clear hb)
  go_wp2_with fail
  go_ret
  exact⟨rfl,hin.bel⟩
 ·skip
  obtain⟨hbn,h40,h12⟩:=small21_1 HSM.out.symm
  clear HSM hL hLk hLb
  rename_i ys10_ ys11_ ys12_ ys13_ ys14_ ys15_ ys16_
  revert w N hN la lc l hok ka kc ks hk8 ba bc qb hob cz a ha8 b2 hb8 n hn6 HN ys10_ ys11_ ys12_ ys13_ ys14_ S0 W1 ys15_ ys16_ V W2 wc3 hin hl hk hqb bS0 hbn h40 h12
  exact Kcut.out
 ⟩
set_option maxRecDepth 100000 in
set_option maxHeartbeats 16000000 in
def solves21_any_q2:{P:Prop // P→solves21_any_q1.1}:=⟨_,fun Kcut=>by
 replace Kcut:Keep _:=⟨Kcut⟩
 intro w N hN la lc l hok ka kc ks hk8 ba bc qb hob cz a ha8 b2 hb8 n hn6 HN ys10_ ys11_ ys12_ ys13_ ys14_ S0 W1 ys15_ ys16_ V W2 wc3 hin hl hk hqb bS0 hbn h40 h12
 have c1:=raw_any (j:=64) wc3 N n 6 la lc l hl hok (by omega) hN (by decide) HN.out (tok_sz64 hok) (by decide) (by decide)
 rw[show((6:Nat):Int)=6 from rfl] at c1
 have hMz:Mz n n 2601 (rawM n l):=raw_mz (tok_sz64 hok) h40
 obtain⟨M,hM⟩:∃ M,M=rawM n l:=⟨_,rfl⟩
 rw[←hM] at c1 hMz
 have HMZ:=Lib.hid hMz
 clear hM hMz h40 hok hN HN
 (have s0:=bS0.c0;have s1:=bS0.c1;have sl:=bS0.lt)
 (go_wp2_with fail;(((with_reducible refine(c1).mono ?_)));(rintro e wc4 ⟨⟨sv,rfl,hS⟩,hb⟩);clear s0 s1 sl c1 bS0 hl;replace hin:=hin.call hb;replace hk:=hk.call hb;replace hqb:=hqb.call hb;clear hb)
 obtain⟨ra,rk,rfl⟩:=hS.shape
 go_upto_region 4 with fail
 ((obtain⟨Sb,hSb⟩:∃ z,z=wc4.heap.size:=⟨_,rfl⟩);(have bSb:=Bx.new_at wc4 #[.int .i64 n,.int .i64 n,.slice ra n rk] 27 hSb);(replace hin:=hin.alloc (.cells #[.int .i64 n,.int .i64 n,.slice ra n rk] 27));(replace hk:=hk.call ((Below.refl _ _).alloc (Nat.le_refl _) (.cells #[.int .i64 n,.int .i64 n,.slice ra n rk] 27)));(replace hqb:=hqb.call ((Below.refl _ _).alloc (Nat.le_refl _) (.cells #[.int .i64 n,.int .i64 n,.slice ra n rk] 27)));(replace hS:=hS.call ((Below.refl _ _).alloc (Nat.le_refl _) (.cells #[.int .i64 n,.int .i64 n,.slice ra n rk] 27)));(rw[←hSb]);clear hSb;(generalize wc4.alloc (.cells #[.int .i64 n,.int .i64 n,.slice ra n rk] 27)=wS at *))
 rename_i ys20_ ys21_
 revert w N la lc l ka kc ks hk8 ba bc qb hob cz a ha8 b2 hb8 n hn6 ys10_ S0 W1 V W2 wc3 hbn h12 M HMZ wc4 ra rk ys20_ ys21_ Sb wS bSb hin hk hqb hS
 exact Kcut.out
 ⟩
set_option maxRecDepth 100000 in
set_option maxHeartbeats 16000000 in
def solves21_any_q3:{P:Prop // P→solves21_any_q2.1}:=⟨_,fun Kcut=>by
 replace Kcut:Keep _:=⟨Kcut⟩
 intro w N la lc l ka kc ks hk8 ba bc qb hob cz a ha8 b2 hb8 n hn6 ys10_ S0 W1 V W2 wc3 hbn h12 M HMZ wc4 ra rk ys20_ ys21_ Sb wS bSb hin hk hqb hS
 have c4:=ldense_any wS (.agg #[.int .i64 n,.int .i64 n,.slice ra n rk]) n M hS (by omega)
 (have y0:=bSb.c0;have y1:=bSb.c1;have y2:=bSb.c2;have yl:=bSb.lt)
 (go_wp2_with fail;(((with_reducible refine(c4).mono ?_)));(rintro e wc6 ⟨⟨dd,rfl,hd⟩,hb⟩);clear y0 y1 y2 yl c4;replace hin:=hin.call hb;replace hk:=hk.call hb;replace hqb:=hqb.call hb;replace hS:=hS.call hb;replace bSb:=bSb.call hb;clear hb)
 obtain⟨gM,NM,hNM,hde,hbd⟩:=id hd
 subst hde
 clear hNM hbd
 go_upto_region 5 with fail
 ((obtain⟨Mb,hMb⟩:∃ z,z=wc6.heap.size:=⟨_,rfl⟩);(have bMb:=Bx.new_at wc6 #[.int .i64 n,.int .i64 n,.slice (some ⟨gM,0,none⟩) NM NM] 37 hMb);(replace hin:=hin.alloc (.cells #[.int .i64 n,.int .i64 n,.slice (some ⟨gM,0,none⟩) NM NM] 37));(replace bSb:=bSb.alloc (.cells #[.int .i64 n,.int .i64 n,.slice (some ⟨gM,0,none⟩) NM NM] 37));(replace hk:=hk.call ((Below.refl _ _).alloc (Nat.le_refl _) (.cells #[.int .i64 n,.int .i64 n,.slice (some ⟨gM,0,none⟩) NM NM] 37)));(replace hqb:=hqb.call ((Below.refl _ _).alloc (Nat.le_refl _) (.cells #[.int .i64 n,.int .i64 n,.slice (some ⟨gM,0,none⟩) NM NM] 37)));(replace hS:=hS.call ((Below.refl _ _).alloc (Nat.le_refl _) (.cells #[.int .i64 n,.int .i64 n,.slice (some ⟨gM,0,none⟩) NM NM] 37)));(replace hd:=hd.call ((Below.refl _ _).alloc (Nat.le_refl _) (.cells #[.int .i64 n,.int .i64 n,.slice (some ⟨gM,0,none⟩) NM NM] 37)));(rw[←hMb]);clear hMb;(generalize wc6.alloc (.cells #[.int .i64 n,.int .i64 n,.slice (some ⟨gM,0,none⟩) NM NM] 37)=W7 at *))
 obtain⟨t,ht⟩:∃ t,t=a % (n+1):=⟨_,rfl⟩
 have htn:t≤n:=by have:=Nat.mod_lt a (show 0<n+1 by omega);omega
 obtain⟨k,hkk⟩:∃ k,k=t+b2 % (n - t+1):=⟨_,rfl⟩
 have htk:t≤k:=by omega
 have c2:=lcut_any W7 n ka kc ks hk hk8 (by omega) a b2 ha8 hb8 t k ht hkk
 obtain⟨hp1,hp2,hp3,hp4,hp5⟩:=cut_groups ks n t k htk
 obtain⟨ii,hii⟩:∃ ii,ii=(permK ks n).take t:=⟨_,rfl⟩
 obtain⟨tt,htt⟩:∃ tt,tt=((permK ks n).take k).drop t:=⟨_,rfl⟩
 rw[←hii,←htt] at c2 hp5
 rw[←hii] at hp1 hp2 hp4
 rw[←htt] at hp3 hp4
 rw[←hp5] at c2
 have hgr:Grp n ii:=⟨hp1,hp2⟩
 have hgt:Grp n (ii ++ tt):=⟨List.nodup_append.2 ⟨hp1,hp3,fun x hx y hy e=>(hp4 y hy).2 (e ▸ hx)⟩,fun x hx=>(List.mem_append.1 hx).elim (hp2 x) fun h=>(hp4 x h).1⟩
 have HT4:=Lib.hid hp4
 have HT3:=Lib.hid hp3
 clear hp1 hp2 hp3 hp4 hp5 hii htt ht htn hkk htk hk8 ha8 hb8 h12
 (have y0:=bSb.c0;have y1:=bSb.c1;have y2:=bSb.c2;have yl:=bSb.lt)
 (go_wp2_with fail;(((with_reducible refine(c2).mono ?_)));(rintro e wc8 ⟨⟨v1,v2,v3,rfl,hg1,hg2,hg3⟩,hb⟩);clear y0 y1 y2 yl c2 hk;replace hin:=hin.call hb;replace hqb:=hqb.call hb;replace hS:=hS.call hb;replace hd:=hd.call hb;replace bSb:=bSb.call hb;replace bMb:=bMb.call hb;clear hb)
 obtain⟨a1,k1,rfl⟩:=hg1.shape
 obtain⟨a2,k2,rfl⟩:=hg2.shape
 obtain⟨a3,k3,rfl⟩:=hg3.shape
 have hlen:=hgr.split.len
 have hlen2:=hgt.split.len
 rw[List.length_append] at hlen2
 have HLEN:=Lib.hid hlen
 obtain⟨A,hA⟩:∃ A,A=ii.length:=⟨_,rfl⟩
 obtain⟨B,hB⟩:∃ B,B=tt.length:=⟨_,rfl⟩
 obtain⟨O,hO⟩:∃ O,O=(outer n ii).length:=⟨_,rfl⟩
 obtain⟨R,hR⟩:∃ R,R=(outer n (ii ++ tt)).length:=⟨_,rfl⟩
 rw[←hA] at hg1 ⊢
 rw[←hB] at hg2 ⊢
 rw[←hR] at hg3 ⊢
 rw[←hA,←hO] at hlen
 rw[←hA,←hB,←hR] at hlen2
 have HA:=Lib.hid hA
 have HB:=Lib.hid hB
 have HO:=Lib.hid hO
 have HR:=Lib.hid hR
 have HGR:=Lib.hid hgr
 have HGT:=Lib.hid hgt
 clear hA hB hO hR hgr hgt
 rename_i ys30_ ys31_ ys32_ ys33_
 revert w N la lc l ka kc ks ba bc qb hob cz a b2 n hn6 ys10_ S0 W1 V W2 wc3 hbn M HMZ wc4 ra rk Sb wS wc6 gM NM ys30_ ys31_ Mb W7 t k ii tt HT4 HT3 ys32_ ys33_ wc8 hin hqb hS hd bSb bMb a1 k1 a2 k2 a3 k3 HLEN A hg1 B hg2 O hlen R hlen2 hg3 HA HB HO HR HGR HGT
 exact Kcut.out
 ⟩
set_option maxRecDepth 100000 in
set_option maxHeartbeats 16000000 in
def solves21_any_q4:{P:Prop // P→solves21_any_q3.1}:=⟨_,fun Kcut=>by
 replace Kcut:Keep _:=⟨Kcut⟩
 intro w N la lc l ka kc ks ba bc qb hob cz a b2 n hn6 ys10_ S0 W1 V W2 wc3 hbn M HMZ wc4 ra rk Sb wS wc6 gM NM ys30_ ys31_ Mb W7 t k ii tt HT4 HT3 ys32_ ys33_ wc8 hin hqb hS hd bSb bMb a1 k1 a2 k2 a3 k3 HLEN A hg1 B hg2 O hlen R hlen2 hg3 HA HB HO HR HGR HGT
 have cv1:=lvec_any wc8 ba bc n qb hqb hob (by omega) (by omega)
 (have y0:=bSb.c0;have y1:=bSb.c1;have y2:=bSb.c2;have yl:=bSb.lt)
 (go_wp2_with fail;(((with_reducible refine(cv1).mono ?_)));(rintro e wc9 ⟨⟨d,rfl,hvb⟩,hb⟩);clear y0 y1 y2 yl cv1 hqb;replace hin:=hin.call hb;replace hS:=hS.call hb;replace hd:=hd.call hb;replace hg1:=hg1.call hb;replace hg2:=hg2.call hb;replace hg3:=hg3.call hb;replace bSb:=bSb.call hb;replace bMb:=bMb.call hb;clear hb)
 obtain⟨va,vk,hve⟩:=hvb.shape
 rw[mList_length] at hve
 subst hve
 replace hvb:VecAt wc9 (.slice va n vk) (vl n (mEl qb)):=hvb
 have hsf:Grp n ([ii,tt]:List (List Nat)).flatten:=by simpa using HGT.out
 have HSF:=Lib.hid hsf
 clear hsf
 have cd:=edet_any (z:=2601) wc9 (.agg #[.int .i64 n,.int .i64 n,.slice (some ⟨gM,0,none⟩) NM NM]) n M hd (by omega) (by decide) HMZ.out (c_p5 _ (by omega))
 obtain⟨q1,hq1⟩:∃ q,q=detE n M:=⟨_,rfl⟩
 rw[←hq1] at cd
 have HQ1:=Lib.hid hq1
 obtain⟨P1,P2,P3,P4,P5,hP,hP'⟩:∃ A1 A2 A3 A4 A5,fracV q1=.agg #[.int .u64 A1,.string A2,.bool A3,.int .u64 A4,.string A5]∧fcs q1=[.int .u64 A1,.string A2,.bool A3,.int .u64 A4,.string A5]:=⟨_,_,_,_,_,rfl,rfl⟩
 rw[hP] at cd
 have HP:=Lib.hid hP
 clear hP hP' hq1
 (have m0:=bMb.c0;have m1:=bMb.c1;have m2:=bMb.c2;have ml:=bMb.lt)
 (go_wp2_with fail;(((with_reducible refine(cd).mono ?_)));rintro e wc10 ⟨rfl,hb⟩;clear m0 m1 m2 ml cd;replace hin:=hin.call hb;replace hS:=hS.call hb;replace hd:=hd.call hb;replace hg1:=hg1.call hb;replace hg2:=hg2.call hb;replace hg3:=hg3.call hb;replace hvb:=hvb.call hb;replace bSb:=bSb.call hb;replace bMb:=bMb.call hb;clear hb)
 go_upto_region 8 with fail
 ((obtain⟨D1,hD1⟩:∃ z,z=wc10.heap.size:=⟨_,rfl⟩);(have bD1:=Bx.new_at wc10 #[.int .u64 P1,.string P2,.bool P3,.int .u64 P4,.string P5] 72 hD1);(replace hin:=hin.alloc (.cells #[.int .u64 P1,.string P2,.bool P3,.int .u64 P4,.string P5] 72));(replace bSb:=bSb.alloc (.cells #[.int .u64 P1,.string P2,.bool P3,.int .u64 P4,.string P5] 72));(replace bMb:=bMb.alloc (.cells #[.int .u64 P1,.string P2,.bool P3,.int .u64 P4,.string P5] 72));(replace hS:=hS.call ((Below.refl _ _).alloc (Nat.le_refl _) (.cells #[.int .u64 P1,.string P2,.bool P3,.int .u64 P4,.string P5] 72)));(replace hd:=hd.call ((Below.refl _ _).alloc (Nat.le_refl _) (.cells #[.int .u64 P1,.string P2,.bool P3,.int .u64 P4,.string P5] 72)));(replace hg1:=hg1.call ((Below.refl _ _).alloc (Nat.le_refl _) (.cells #[.int .u64 P1,.string P2,.bool P3,.int .u64 P4,.string P5] 72)));(replace hg2:=hg2.call ((Below.refl _ _).alloc (Nat.le_refl _) (.cells #[.int .u64 P1,.string P2,.bool P3,.int .u64 P4,.string P5] 72)));(replace hg3:=hg3.call ((Below.refl _ _).alloc (Nat.le_refl _) (.cells #[.int .u64 P1,.string P2,.bool P3,.int .u64 P4,.string P5] 72)));(replace hvb:=hvb.call ((Below.refl _ _).alloc (Nat.le_refl _) (.cells #[.int .u64 P1,.string P2,.bool P3,.int .u64 P4,.string P5] 72)));(rw[←hD1]);clear hD1;(generalize wc10.alloc (.cells #[.int .u64 P1,.string P2,.bool P3,.int .u64 P4,.string P5] 72)=W11 at *))
 have c5:=lblock_any W11 (.agg #[.int .i64 n,.int .i64 n,.slice (some ⟨gM,0,none⟩) NM NM]) n M hd (by omega) (.slice a1 A k1) (.slice a1 A k1) ii ii hg1 hg1 HGR.out.2 HGR.out.2 (by rw[←HA.out];omega) (by rw[←HA.out];omega)
 (have m0:=bMb.c0;have m1:=bMb.c1;have m2:=bMb.c2;have ml:=bMb.lt)
 (go_wp2_with fail;(((with_reducible refine(c5).mono ?_)));(rintro e wc12 ⟨⟨db,rfl,hdb⟩,hb⟩);clear m0 m1 m2 ml c5;replace hin:=hin.call hb;replace hS:=hS.call hb;replace hd:=hd.call hb;replace hg1:=hg1.call hb;replace hg2:=hg2.call hb;replace hg3:=hg3.call hb;replace hvb:=hvb.call hb;replace bSb:=bSb.call hb;replace bMb:=bMb.call hb;replace bD1:=bD1.call hb;clear hb)
 have cd:=edet_any (z:=2601) wc12 db ii.length (sub M ii ii) hdb (by rw[←HA.out];omega) (by decide) (sub_szk HMZ.out HGR.out.2 HGR.out.2) (c_p5 _ (by rw[←HA.out];omega))
 obtain⟨q2,hq2⟩:∃ q,q=detE ii.length (sub M ii ii):=⟨_,rfl⟩
 rw[←hq2] at cd
 have HQ2:=Lib.hid hq2
 obtain⟨Q1,Q2,Q3,Q4,Q5,hQ,hQ'⟩:∃ A1 A2 A3 A4 A5,fracV q2=.agg #[.int .u64 A1,.string A2,.bool A3,.int .u64 A4,.string A5]∧fcs q2=[.int .u64 A1,.string A2,.bool A3,.int .u64 A4,.string A5]:=⟨_,_,_,_,_,rfl,rfl⟩
 rw[hQ] at cd
 have HQ:=Lib.hid hQ
 clear hQ hQ' hq2
 (go_wp2_with fail;(((with_reducible refine(cd).mono ?_)));rintro e wc13 ⟨rfl,hb⟩;clear cd hdb;replace hin:=hin.call hb;replace hS:=hS.call hb;replace hd:=hd.call hb;replace hg1:=hg1.call hb;replace hg2:=hg2.call hb;replace hg3:=hg3.call hb;replace hvb:=hvb.call hb;replace bSb:=bSb.call hb;replace bMb:=bMb.call hb;replace bD1:=bD1.call hb;clear hb)
 go_upto_region 9 with fail
 ((obtain⟨D2,hD2⟩:∃ z,z=wc13.heap.size:=⟨_,rfl⟩);(have bD2:=Bx.new_at wc13 #[.int .u64 Q1,.string Q2,.bool Q3,.int .u64 Q4,.string Q5] 72 hD2);(replace hin:=hin.alloc (.cells #[.int .u64 Q1,.string Q2,.bool Q3,.int .u64 Q4,.string Q5] 72));(replace bSb:=bSb.alloc (.cells #[.int .u64 Q1,.string Q2,.bool Q3,.int .u64 Q4,.string Q5] 72));(replace bMb:=bMb.alloc (.cells #[.int .u64 Q1,.string Q2,.bool Q3,.int .u64 Q4,.string Q5] 72));(replace bD1:=bD1.alloc (.cells #[.int .u64 Q1,.string Q2,.bool Q3,.int .u64 Q4,.string Q5] 72));(replace hS:=hS.call ((Below.refl _ _).alloc (Nat.le_refl _) (.cells #[.int .u64 Q1,.string Q2,.bool Q3,.int .u64 Q4,.string Q5] 72)));(replace hd:=hd.call ((Below.refl _ _).alloc (Nat.le_refl _) (.cells #[.int .u64 Q1,.string Q2,.bool Q3,.int .u64 Q4,.string Q5] 72)));(replace hg1:=hg1.call ((Below.refl _ _).alloc (Nat.le_refl _) (.cells #[.int .u64 Q1,.string Q2,.bool Q3,.int .u64 Q4,.string Q5] 72)));(replace hg2:=hg2.call ((Below.refl _ _).alloc (Nat.le_refl _) (.cells #[.int .u64 Q1,.string Q2,.bool Q3,.int .u64 Q4,.string Q5] 72)));(replace hg3:=hg3.call ((Below.refl _ _).alloc (Nat.le_refl _) (.cells #[.int .u64 Q1,.string Q2,.bool Q3,.int .u64 Q4,.string Q5] 72)));(replace hvb:=hvb.call ((Below.refl _ _).alloc (Nat.le_refl _) (.cells #[.int .u64 Q1,.string Q2,.bool Q3,.int .u64 Q4,.string Q5] 72)));(rw[←hD2]);clear hD2;(generalize wc13.alloc (.cells #[.int .u64 Q1,.string Q2,.bool Q3,.int .u64 Q4,.string Q5] 72)=W14 at *))
 rename_i ys40_ ys41_
 revert w N la lc l ka kc ks ba bc qb hob cz a b2 n hn6 ys10_ S0 W1 V W2 wc3 hbn M HMZ wc4 ra rk Sb wS wc6 gM NM Mb W7 t k ii tt HT4 HT3 wc8 a1 k1 a2 k2 a3 k3 HLEN A B O hlen R hlen2 HA HB HO HR HGR HGT wc9 va vk HSF q1 HQ1 P1 P2 P3 P4 P5 HP wc10 D1 W11 wc12 db q2 HQ2 Q1 Q2 Q3 Q4 Q5 HQ wc13 ys40_ ys41_ D2 W14 bD2 hin bSb bMb bD1 hS hd hg1 hg2 hg3 hvb
 exact Kcut.out
 ⟩
set_option maxRecDepth 100000 in
set_option maxHeartbeats 16000000 in
def solves21_any_q5:{P:Prop // P→solves21_any_q4.1}:=⟨_,fun Kcut=>by
 replace Kcut:Keep _:=⟨Kcut⟩
 intro w N la lc l ka kc ks ba bc qb hob cz a b2 n hn6 ys10_ S0 W1 V W2 wc3 hbn M HMZ wc4 ra rk Sb wS wc6 gM NM Mb W7 t k ii tt HT4 HT3 wc8 a1 k1 a2 k2 a3 k3 HLEN A B O hlen R hlen2 HA HB HO HR HGR HGT wc9 va vk HSF q1 HQ1 P1 P2 P3 P4 P5 HP wc10 D1 W11 wc12 db q2 HQ2 Q1 Q2 Q3 Q4 Q5 HQ wc13 ys40_ ys41_ D2 W14 bD2 hin bSb bMb bD1 hS hd hg1 hg2 hg3 hvb
 by_cases h3:¬ NS n M
 ·clear Kcut
  have H3:Hid (¬ nestOk 0 [] n M):=Lib.hid h3
  have H1:Hid (¬ nestOk 1 [ii] n M):=Lib.hid fun h=>h3 ((solve_iff HGR.out).1 h).2
  have H2:Hid (¬ nestOk 2 [ii,tt] n M):=Lib.hid fun h=>h3 (nest_ns 2 [ii,tt] n M rfl HSF.out h)
  clear h3
  have hzb:Vz n 2601 (mEl qb):=fun i _=>(mEl_sz64 hob i).mono (by decide)
  have c10:=sSolve_ok (z:=2601) W14 (.agg #[.int .i64 n,.int .i64 n,.slice ra n rk]) (.slice a1 A k1) (.slice va n vk) n ii M (mEl qb) hvb hzb hS hg1 HGR.out (by omega) (by decide) HMZ.out (nestC1r hn6 HGR.out)
  (have y0:=bSb.c0;have y1:=bSb.c1;have y2:=bSb.c2;have yl:=bSb.lt)
  (go_wp2_with fail;(((with_reducible refine(c10).mono ?_)));(rintro e wc15 ⟨hI,hb⟩);clear y0 y1 y2 yl c10;replace hin:=hin.call hb;replace hS:=hS.call hb;replace hd:=hd.call hb;replace hg1:=hg1.call hb;replace hg2:=hg2.call hb;replace hg3:=hg3.call hb;replace hvb:=hvb.call hb;replace bSb:=bSb.call hb;replace bMb:=bMb.call hb;replace bD1:=bD1.call hb;replace bD2:=bD2.call hb;clear hb)
  obtain⟨_,rfl⟩:=hI.resolve_left (fun h=>H1.out h.1)
  clear hI
  go_upto_region 10 with fail
  (have y0:=bSb.c0;have y1:=bSb.c1;have y2:=bSb.c2;have yl:=bSb.lt)
  go_wp2_with fail
  ((obtain⟨GB,hGB⟩:∃ z,z=wc15.heap.size:=⟨_,rfl⟩);(have bGB:=Bx.new_at wc15 #[.slice a1 A k1,.slice a2 B k2] 22 hGB);clear y0 y1 y2 yl;(replace hin:=hin.alloc (.cells #[.slice a1 A k1,.slice a2 B k2] 22));(replace bSb:=bSb.alloc (.cells #[.slice a1 A k1,.slice a2 B k2] 22));(replace bMb:=bMb.alloc (.cells #[.slice a1 A k1,.slice a2 B k2] 22));(replace bD1:=bD1.alloc (.cells #[.slice a1 A k1,.slice a2 B k2] 22));(replace bD2:=bD2.alloc (.cells #[.slice a1 A k1,.slice a2 B k2] 22));(replace hS:=hS.call ((Below.refl _ _).alloc (Nat.le_refl _) (.cells #[.slice a1 A k1,.slice a2 B k2] 22)));(replace hd:=hd.call ((Below.refl _ _).alloc (Nat.le_refl _) (.cells #[.slice a1 A k1,.slice a2 B k2] 22)));(replace hg1:=hg1.call ((Below.refl _ _).alloc (Nat.le_refl _) (.cells #[.slice a1 A k1,.slice a2 B k2] 22)));(replace hg2:=hg2.call ((Below.refl _ _).alloc (Nat.le_refl _) (.cells #[.slice a1 A k1,.slice a2 B k2] 22)));(replace hg3:=hg3.call ((Below.refl _ _).alloc (Nat.le_refl _) (.cells #[.slice a1 A k1,.slice a2 B k2] 22)));(replace hvb:=hvb.call ((Below.refl _ _).alloc (Nat.le_refl _) (.cells #[.slice a1 A k1,.slice a2 B k2] 22)));(rw[←hGB]);clear hGB;(generalize wc15.alloc (.cells #[.slice a1 A k1,.slice a2 B k2] 22)=W16 at *))
  have hgs:GsAt W16 (.slice (some ⟨GB,0,none⟩) 2 2) ([ii,tt].map zl):=gs_pair (by rw[←HA.out,←HB.out];exact bGB) hg1.ints hg2.ints
  have c11:=sNested_ok (z:=2601) W16 (.agg #[.int .i64 n,.int .i64 n,.slice ra n rk]) (.slice (some ⟨GB,0,none⟩) 2 2) (.slice va n vk) n [ii,tt] M (mEl qb) hvb hzb hS hgs ⟨_,_,_,rfl,Nat.le_refl _⟩ HSF.out (by simp) (by omega) (by decide) HMZ.out (nestC2r hn6 HSF.out)
  ((((with_reducible refine(c11).mono ?_)));(rintro e wc17 ⟨hI,hb⟩);clear c11 hgs;replace hin:=hin.call hb;replace hS:=hS.call hb;replace hd:=hd.call hb;replace hg1:=hg1.call hb;replace hg2:=hg2.call hb;replace hg3:=hg3.call hb;replace hvb:=hvb.call hb;replace bSb:=bSb.call hb;replace bMb:=bMb.call hb;replace bD1:=bD1.call hb;replace bD2:=bD2.call hb;replace bGB:=bGB.call hb;clear hb)
  obtain⟨_,rfl⟩:=hI.resolve_left (fun h=>H2.out h.1)
  clear hI
  go_upto_region 11 with fail
  have hg0:GsAt wc17 (.slice none 0 0) (([]:List (List Nat)).map zl):=⟨none,0,rfl,fun i hi=>absurd hi (Nat.not_lt_zero _)⟩
  have c12:=sNested_ok (z:=2601) wc17 (.agg #[.int .i64 n,.int .i64 n,.slice ra n rk]) (.slice none 0 0) (.slice va n vk) n [] M (mEl qb) hvb hzb hS hg0 ⟨_,_,_,rfl,Nat.le_refl _⟩ ⟨List.nodup_nil,by simp⟩ (by decide) (by omega) (by decide) HMZ.out (nestC0r hn6)
  (have y0:=bSb.c0;have y1:=bSb.c1;have y2:=bSb.c2;have yl:=bSb.lt)
  (go_wp2_with fail;(((with_reducible refine(c12).mono ?_)));(rintro e wc18 ⟨hI,hb⟩);clear y0 y1 y2 yl c12 hg0;replace hin:=hin.call hb;replace hS:=hS.call hb;replace hd:=hd.call hb;replace hg1:=hg1.call hb;replace hg2:=hg2.call hb;replace hg3:=hg3.call hb;replace hvb:=hvb.call hb;replace bSb:=bSb.call hb;replace bMb:=bMb.call hb;replace bD1:=bD1.call hb;replace bD2:=bD2.call hb;replace bGB:=bGB.call hb;clear hb)
  obtain⟨_,rfl⟩:=hI.resolve_left (fun h=>H3.out h.1)
  clear hI
  go_upto_region 12 with fail
  have cs:=fsign_any q1 wc18
  rw[HP.out] at cs
  have f1:(isign q1.num != 0)=false:=by rw[HQ1.out];exact by rw[show detE n M=0 from Classical.not_not.1 fun h=>H3.out (detE_ne.1 h)];exact isign0_ne
  (have p0:=bD1.c0;have p1:=bD1.c1;have p2:=bD1.c2;have p3:=bD1.c3;have p4:=bD1.c4;have pl:=bD1.lt)
  (go_wp2_with fail;(((with_reducible refine(cs).mono ?_)));rintro e wc19 ⟨rfl,hb⟩;clear p0 p1 p2 p3 p4 pl cs;replace hin:=hin.call hb;replace hS:=hS.call hb;replace hd:=hd.call hb;replace hg1:=hg1.call hb;replace hg2:=hg2.call hb;replace hg3:=hg3.call hb;replace hvb:=hvb.call hb;replace bSb:=bSb.call hb;replace bMb:=bMb.call hb;replace bD1:=bD1.call hb;replace bD2:=bD2.call hb;replace bGB:=bGB.call hb;clear hb)
  go_upto_region 13 with fail
  go_upto_region 15 with fail
  have HHQ:∀ i k,i<n→k<n→(dense n n M).getD (i*n+k) 0=M i k:=fun i k hi hk=>dense_getD M hi hk
  have cs:=esolve_sing (z:=2601) wc19 (.agg #[.int .i64 n,.int .i64 n,.slice (some ⟨gM,0,none⟩) NM NM]) (.slice va n vk) n M (dense n n M) (mEl qb) hd.q HHQ hvb (by omega) (by decide) HMZ.out hzb (c_p5 _ (by omega)) H3.out
  clear HHQ
  (have m0:=bMb.c0;have m1:=bMb.c1;have m2:=bMb.c2;have ml:=bMb.lt)
  (go_wp2_with fail;(((with_reducible refine(cs).mono ?_)));(rintro e wc20 ⟨⟨da,dl,dc,ka2,kl2,kc2,code,rfl,hcode⟩,hb⟩);clear m0 m1 m2 ml cs;replace hin:=hin.call hb;replace hS:=hS.call hb;replace hd:=hd.call hb;replace hg1:=hg1.call hb;replace hg2:=hg2.call hb;replace hg3:=hg3.call hb;replace hvb:=hvb.call hb;replace bSb:=bSb.call hb;replace bMb:=bMb.call hb;replace bD1:=bD1.call hb;replace bD2:=bD2.call hb;replace bGB:=bGB.call hb;clear hb)
  go_upto_region 16 with fail
  ((obtain⟨X,hX⟩:∃ z,z=wc20.heap.size:=⟨_,rfl⟩);(have bX:=Bx.new_at wc20 #[.slice da dl dc,.slice ka2 kl2 kc2] 79 hX);(replace hin:=hin.alloc (.cells #[.slice da dl dc,.slice ka2 kl2 kc2] 79));(replace bSb:=bSb.alloc (.cells #[.slice da dl dc,.slice ka2 kl2 kc2] 79));(replace bMb:=bMb.alloc (.cells #[.slice da dl dc,.slice ka2 kl2 kc2] 79));(replace bD1:=bD1.alloc (.cells #[.slice da dl dc,.slice ka2 kl2 kc2] 79));(replace bD2:=bD2.alloc (.cells #[.slice da dl dc,.slice ka2 kl2 kc2] 79));(replace bGB:=bGB.alloc (.cells #[.slice da dl dc,.slice ka2 kl2 kc2] 79));(replace hS:=hS.call ((Below.refl _ _).alloc (Nat.le_refl _) (.cells #[.slice da dl dc,.slice ka2 kl2 kc2] 79)));(replace hd:=hd.call ((Below.refl _ _).alloc (Nat.le_refl _) (.cells #[.slice da dl dc,.slice ka2 kl2 kc2] 79)));(replace hg1:=hg1.call ((Below.refl _ _).alloc (Nat.le_refl _) (.cells #[.slice da dl dc,.slice ka2 kl2 kc2] 79)));(replace hg2:=hg2.call ((Below.refl _ _).alloc (Nat.le_refl _) (.cells #[.slice da dl dc,.slice ka2 kl2 kc2] 79)));(replace hg3:=hg3.call ((Below.refl _ _).alloc (Nat.le_refl _) (.cells #[.slice da dl dc,.slice ka2 kl2 kc2] 79)));(replace hvb:=hvb.call ((Below.refl _ _).alloc (Nat.le_refl _) (.cells #[.slice da dl dc,.slice ka2 kl2 kc2] 79)));(rw[←hX]);clear hX;(generalize wc20.alloc (.cells #[.slice da dl dc,.slice ka2 kl2 kc2] 79)=W21 at *))
  clear hzb
  have cz2:=cz W21
  (have x0:=bX.c0;have x1:=bX.c1;have xl:=bX.lt)
  (have y0:=bSb.c0;have y1:=bSb.c1;have y2:=bSb.c2;have yl:=bSb.lt)
  (go_wp2_with fail;(((with_reducible refine(cz2).mono ?_)));rintro e wc22 ⟨rfl,hb⟩;clear x0 x1 xl y0 y1 y2 yl cz2;replace hin:=hin.call hb;replace hS:=hS.call hb;replace hd:=hd.call hb;replace hg1:=hg1.call hb;replace hg2:=hg2.call hb;replace hg3:=hg3.call hb;replace hvb:=hvb.call hb;replace bSb:=bSb.call hb;replace bMb:=bMb.call hb;replace bD1:=bD1.call hb;replace bD2:=bD2.call hb;replace bGB:=bGB.call hb;replace bX:=bX.call hb;clear hb)
  have hbel:=hin.bel
  clear hin
  go_wp2_with fail
  go_ret
  exact⟨rfl,hbel⟩
 ·skip
  replace h3:=Classical.not_not.1 h3
  have H3:Hid (nestOk 0 [] n M):=Lib.hid h3
  by_cases hi:¬ NS ii.length (sub M ii ii)
  ·clear Kcut
   have HI:=Lib.hid hi
   have H1:Hid (¬ nestOk 1 [ii] n M):=Lib.hid fun h=>hi ((solve_iff HGR.out).1 h).1
   have H2:Hid (¬ nestOk 2 [ii,tt] n M):=Lib.hid fun h=>hi h.1
   clear hi h3
   have hzb:Vz n 2601 (mEl qb):=fun i _=>(mEl_sz64 hob i).mono (by decide)
   have c10:=sSolve_ok (z:=2601) W14 (.agg #[.int .i64 n,.int .i64 n,.slice ra n rk]) (.slice a1 A k1) (.slice va n vk) n ii M (mEl qb) hvb hzb hS hg1 HGR.out (by omega) (by decide) HMZ.out (nestC1r hn6 HGR.out)
   (have y0:=bSb.c0;have y1:=bSb.c1;have y2:=bSb.c2;have yl:=bSb.lt)
   (go_wp2_with fail;(((with_reducible refine(c10).mono ?_)));(rintro e wc15 ⟨hI,hb⟩);clear y0 y1 y2 yl c10;replace hin:=hin.call hb;replace hS:=hS.call hb;replace hd:=hd.call hb;replace hg1:=hg1.call hb;replace hg2:=hg2.call hb;replace hg3:=hg3.call hb;replace hvb:=hvb.call hb;replace bSb:=bSb.call hb;replace bMb:=bMb.call hb;replace bD1:=bD1.call hb;replace bD2:=bD2.call hb;clear hb)
   obtain⟨_,rfl⟩:=hI.resolve_left (fun h=>H1.out h.1)
   clear hI
   go_upto_region 10 with fail
   (have y0:=bSb.c0;have y1:=bSb.c1;have y2:=bSb.c2;have yl:=bSb.lt)
   go_wp2_with fail
   ((obtain⟨GB,hGB⟩:∃ z,z=wc15.heap.size:=⟨_,rfl⟩);(have bGB:=Bx.new_at wc15 #[.slice a1 A k1,.slice a2 B k2] 22 hGB);clear y0 y1 y2 yl;(replace hin:=hin.alloc (.cells #[.slice a1 A k1,.slice a2 B k2] 22));(replace bSb:=bSb.alloc (.cells #[.slice a1 A k1,.slice a2 B k2] 22));(replace bMb:=bMb.alloc (.cells #[.slice a1 A k1,.slice a2 B k2] 22));(replace bD1:=bD1.alloc (.cells #[.slice a1 A k1,.slice a2 B k2] 22));(replace bD2:=bD2.alloc (.cells #[.slice a1 A k1,.slice a2 B k2] 22));(replace hS:=hS.call ((Below.refl _ _).alloc (Nat.le_refl _) (.cells #[.slice a1 A k1,.slice a2 B k2] 22)));(replace hd:=hd.call ((Below.refl _ _).alloc (Nat.le_refl _) (.cells #[.slice a1 A k1,.slice a2 B k2] 22)));(replace hg1:=hg1.call ((Below.refl _ _).alloc (Nat.le_refl _) (.cells #[.slice a1 A k1,.slice a2 B k2] 22)));(replace hg2:=hg2.call ((Below.refl _ _).alloc (Nat.le_refl _) (.cells #[.slice a1 A k1,.slice a2 B k2] 22)));(replace hg3:=hg3.call ((Below.refl _ _).alloc (Nat.le_refl _) (.cells #[.slice a1 A k1,.slice a2 B k2] 22)));(replace hvb:=hvb.call ((Below.refl _ _).alloc (Nat.le_refl _) (.cells #[.slice a1 A k1,.slice a2 B k2] 22)));(rw[←hGB]);clear hGB;(generalize wc15.alloc (.cells #[.slice a1 A k1,.slice a2 B k2] 22)=W16 at *))
   have hgs:GsAt W16 (.slice (some ⟨GB,0,none⟩) 2 2) ([ii,tt].map zl):=gs_pair (by rw[←HA.out,←HB.out];exact bGB) hg1.ints hg2.ints
   have c11:=sNested_ok (z:=2601) W16 (.agg #[.int .i64 n,.int .i64 n,.slice ra n rk]) (.slice (some ⟨GB,0,none⟩) 2 2) (.slice va n vk) n [ii,tt] M (mEl qb) hvb hzb hS hgs ⟨_,_,_,rfl,Nat.le_refl _⟩ HSF.out (by simp) (by omega) (by decide) HMZ.out (nestC2r hn6 HSF.out)
   ((((with_reducible refine(c11).mono ?_)));(rintro e wc17 ⟨hI,hb⟩);clear c11 hgs;replace hin:=hin.call hb;replace hS:=hS.call hb;replace hd:=hd.call hb;replace hg1:=hg1.call hb;replace hg2:=hg2.call hb;replace hg3:=hg3.call hb;replace hvb:=hvb.call hb;replace bSb:=bSb.call hb;replace bMb:=bMb.call hb;replace bD1:=bD1.call hb;replace bD2:=bD2.call hb;replace bGB:=bGB.call hb;clear hb)
   obtain⟨_,rfl⟩:=hI.resolve_left (fun h=>H2.out h.1)
   clear hI
   go_upto_region 11 with fail
   have hg0:GsAt wc17 (.slice none 0 0) (([]:List (List Nat)).map zl):=⟨none,0,rfl,fun i hi=>absurd hi (Nat.not_lt_zero _)⟩
   have c12:=sNested_ok (z:=2601) wc17 (.agg #[.int .i64 n,.int .i64 n,.slice ra n rk]) (.slice none 0 0) (.slice va n vk) n [] M (mEl qb) hvb hzb hS hg0 ⟨_,_,_,rfl,Nat.le_refl _⟩ ⟨List.nodup_nil,by simp⟩ (by decide) (by omega) (by decide) HMZ.out (nestC0r hn6)
   (have y0:=bSb.c0;have y1:=bSb.c1;have y2:=bSb.c2;have yl:=bSb.lt)
   (go_wp2_with fail;(((with_reducible refine(c12).mono ?_)));(rintro e wc18 ⟨hI,hb⟩);clear y0 y1 y2 yl c12 hg0;replace hin:=hin.call hb;replace hS:=hS.call hb;replace hd:=hd.call hb;replace hg1:=hg1.call hb;replace hg2:=hg2.call hb;replace hg3:=hg3.call hb;replace hvb:=hvb.call hb;replace bSb:=bSb.call hb;replace bMb:=bMb.call hb;replace bD1:=bD1.call hb;replace bD2:=bD2.call hb;replace bGB:=bGB.call hb;clear hb)
   obtain⟨r3a,r3k,rfl,hr3⟩:=NestP.yes H3.out hI
   clear hI
   go_upto_region 12 with fail
   have cs:=fsign_any q1 wc18
   rw[HP.out] at cs
   have f1:(isign q1.num != 0)=true:=by rw[HQ1.out];exact isign_ne (detE_ne.2 H3.out)
   (have p0:=bD1.c0;have p1:=bD1.c1;have p2:=bD1.c2;have p3:=bD1.c3;have p4:=bD1.c4;have pl:=bD1.lt)
   (go_wp2_with fail;(((with_reducible refine(cs).mono ?_)));rintro e wc19 ⟨rfl,hb⟩;clear p0 p1 p2 p3 p4 pl cs;replace hin:=hin.call hb;replace hS:=hS.call hb;replace hd:=hd.call hb;replace hg1:=hg1.call hb;replace hg2:=hg2.call hb;replace hg3:=hg3.call hb;replace hvb:=hvb.call hb;replace hr3:=hr3.call hb;replace bSb:=bSb.call hb;replace bMb:=bMb.call hb;replace bD1:=bD1.call hb;replace bD2:=bD2.call hb;replace bGB:=bGB.call hb;clear hb)
   go_upto_region 13 with fail
   have cs:=fsign_any q2 wc19
   rw[HQ.out] at cs
   have f2:(isign q2.num != 0)=false:=by rw[HQ2.out];exact by rw[show detE ii.length (sub M ii ii)=0 from Classical.not_not.1 fun h=>HI.out (detE_ne.1 h)];exact isign0_ne
   (have q0:=bD2.c0;have q1:=bD2.c1;have q2:=bD2.c2;have q3:=bD2.c3;have q4:=bD2.c4;have ql:=bD2.lt)
   (go_wp2_with fail;(((with_reducible refine(cs).mono ?_)));rintro e wc20 ⟨rfl,hb⟩;clear q0 q1 q2 q3 q4 ql cs;replace hin:=hin.call hb;replace hS:=hS.call hb;replace hd:=hd.call hb;replace hg1:=hg1.call hb;replace hg2:=hg2.call hb;replace hg3:=hg3.call hb;replace hvb:=hvb.call hb;replace hr3:=hr3.call hb;replace bSb:=bSb.call hb;replace bMb:=bMb.call hb;replace bD1:=bD1.call hb;replace bD2:=bD2.call hb;replace bGB:=bGB.call hb;clear hb)
   go_upto_region 15 with fail
   have HHQ:∀ i k,i<n→k<n→(dense n n M).getD (i*n+k) 0=M i k:=fun i k hi hk=>dense_getD M hi hk
   have cs:=esolve_full (z:=2601) wc20 (.agg #[.int .i64 n,.int .i64 n,.slice (some ⟨gM,0,none⟩) NM NM]) (.slice va n vk) n M (dense n n M) (mEl qb) hd.q HHQ hvb (by omega) (by decide) HMZ.out hzb (c_p5 _ (by omega)) (ns_ker H3.out)
   clear HHQ
   (have m0:=bMb.c0;have m1:=bMb.c1;have m2:=bMb.c2;have ml:=bMb.lt)
   (go_wp2_with fail;(((with_reducible refine(cs).mono ?_)));(rintro e wc21 ⟨⟨dx,rfl,hw⟩,hb⟩);clear m0 m1 m2 ml cs;replace hin:=hin.call hb;replace hS:=hS.call hb;replace hd:=hd.call hb;replace hg1:=hg1.call hb;replace hg2:=hg2.call hb;replace hg3:=hg3.call hb;replace hvb:=hvb.call hb;replace hr3:=hr3.call hb;replace bSb:=bSb.call hb;replace bMb:=bMb.call hb;replace bD1:=bD1.call hb;replace bD2:=bD2.call hb;replace bGB:=bGB.call hb;clear hb)
   obtain⟨wa,wk,hwe⟩:=hw.shape
   rw[vl_length] at hwe
   subst hwe
   replace hw:VecAt wc21 (.slice wa n wk) (vl n (solV n M (mEl qb))):=hw
   go_upto_region 16 with fail
   ((obtain⟨X,hX⟩:∃ z,z=wc21.heap.size:=⟨_,rfl⟩);(have bX:=Bx.new_at wc21 #[.slice wa n wk,.slice none 0 0] 79 hX);(replace hin:=hin.alloc (.cells #[.slice wa n wk,.slice none 0 0] 79));(replace bSb:=bSb.alloc (.cells #[.slice wa n wk,.slice none 0 0] 79));(replace bMb:=bMb.alloc (.cells #[.slice wa n wk,.slice none 0 0] 79));(replace bD1:=bD1.alloc (.cells #[.slice wa n wk,.slice none 0 0] 79));(replace bD2:=bD2.alloc (.cells #[.slice wa n wk,.slice none 0 0] 79));(replace bGB:=bGB.alloc (.cells #[.slice wa n wk,.slice none 0 0] 79));(replace hS:=hS.call ((Below.refl _ _).alloc (Nat.le_refl _) (.cells #[.slice wa n wk,.slice none 0 0] 79)));(replace hd:=hd.call ((Below.refl _ _).alloc (Nat.le_refl _) (.cells #[.slice wa n wk,.slice none 0 0] 79)));(replace hg1:=hg1.call ((Below.refl _ _).alloc (Nat.le_refl _) (.cells #[.slice wa n wk,.slice none 0 0] 79)));(replace hg2:=hg2.call ((Below.refl _ _).alloc (Nat.le_refl _) (.cells #[.slice wa n wk,.slice none 0 0] 79)));(replace hg3:=hg3.call ((Below.refl _ _).alloc (Nat.le_refl _) (.cells #[.slice wa n wk,.slice none 0 0] 79)));(replace hvb:=hvb.call ((Below.refl _ _).alloc (Nat.le_refl _) (.cells #[.slice wa n wk,.slice none 0 0] 79)));(replace hr3:=hr3.call ((Below.refl _ _).alloc (Nat.le_refl _) (.cells #[.slice wa n wk,.slice none 0 0] 79)));(replace hw:=hw.call ((Below.refl _ _).alloc (Nat.le_refl _) (.cells #[.slice wa n wk,.slice none 0 0] 79)));(rw[←hX]);clear hX;(generalize wc21.alloc (.cells #[.slice wa n wk,.slice none 0 0] 79)=W22 at *))
   clear hzb
   rw[nest_eq (k:=0) (gs:=[]) rfl ⟨List.nodup_nil,by simp⟩ H3.out] at hr3
   have cs:=vsame_any W22 (.slice r3a n r3k) (.slice wa n wk) _ _ hr3 hw (by rw[vl_length];omega)
   rw[decide_eq_true rfl] at cs
   (have x0:=bX.c0;have x1:=bX.c1;have xl:=bX.lt)
   (have y0:=bSb.c0;have y1:=bSb.c1;have y2:=bSb.c2;have yl:=bSb.lt)
   (go_wp2_with fail;(((with_reducible refine(cs).mono ?_)));rintro e wc23 ⟨rfl,hb⟩;clear x0 x1 xl y0 y1 y2 yl cs;replace hin:=hin.call hb;replace hS:=hS.call hb;replace hd:=hd.call hb;replace hg1:=hg1.call hb;replace hg2:=hg2.call hb;replace hg3:=hg3.call hb;replace hvb:=hvb.call hb;replace hr3:=hr3.call hb;replace hw:=hw.call hb;replace bSb:=bSb.call hb;replace bMb:=bMb.call hb;replace bD1:=bD1.call hb;replace bD2:=bD2.call hb;replace bGB:=bGB.call hb;replace bX:=bX.call hb;clear hb)
   have cz2:=cz wc23
   (have x0:=bX.c0;have x1:=bX.c1;have xl:=bX.lt)
   (have y0:=bSb.c0;have y1:=bSb.c1;have y2:=bSb.c2;have yl:=bSb.lt)
   (go_wp2_with fail;(((with_reducible refine(cz2).mono ?_)));rintro e wc24 ⟨rfl,hb⟩;clear x0 x1 xl y0 y1 y2 yl cz2;replace hin:=hin.call hb;replace hS:=hS.call hb;replace hd:=hd.call hb;replace hg1:=hg1.call hb;replace hg2:=hg2.call hb;replace hg3:=hg3.call hb;replace hvb:=hvb.call hb;replace hr3:=hr3.call hb;replace hw:=hw.call hb;replace bSb:=bSb.call hb;replace bMb:=bMb.call hb;replace bD1:=bD1.call hb;replace bD2:=bD2.call hb;replace bGB:=bGB.call hb;replace bX:=bX.call hb;clear hb)
   have hbel:=hin.bel
   clear hin
   go_wp2_with fail
   go_ret
   exact⟨rfl,hbel⟩
  ·skip
   replace hi:=Classical.not_not.1 hi
   have HI:=Lib.hid hi
   have H1:Hid (nestOk 1 [ii] n M):=Lib.hid ((solve_iff HGR.out).2 ⟨hi,h3⟩)
   clear hi h3
   revert w N la lc l ka kc ks ba bc qb hob cz a b2 n hn6 ys10_ S0 W1 V W2 wc3 hbn M HMZ wc4 ra rk Sb wS wc6 gM NM Mb W7 t k ii tt HT4 HT3 wc8 a1 k1 a2 k2 a3 k3 HLEN A B O hlen R hlen2 HA HB HO HR HGR HGT wc9 va vk HSF q1 HQ1 P1 P2 P3 P4 P5 HP wc10 D1 W11 wc12 db q2 HQ2 Q1 Q2 Q3 Q4 Q5 HQ wc13 ys40_ ys41_ D2 W14 bD2 hin bSb bMb bD1 hS hd hg1 hg2 hg3 hvb H3 HI H1
   exact Kcut.out
 ⟩
set_option maxRecDepth 100000 in
set_option maxHeartbeats 16000000 in
def solves21_any_q6:{P:Prop // P→solves21_any_q5.1}:=⟨_,fun Kcut=>by
 replace Kcut:Keep _:=⟨Kcut⟩
 intro w N la lc l ka kc ks ba bc qb hob cz a b2 n hn6 ys10_ S0 W1 V W2 wc3 hbn M HMZ wc4 ra rk Sb wS wc6 gM NM Mb W7 t k ii tt HT4 HT3 wc8 a1 k1 a2 k2 a3 k3 HLEN A B O hlen R hlen2 HA HB HO HR HGR HGT wc9 va vk HSF q1 HQ1 P1 P2 P3 P4 P5 HP wc10 D1 W11 wc12 db q2 HQ2 Q1 Q2 Q3 Q4 Q5 HQ wc13 ys40_ ys41_ D2 W14 bD2 hin bSb bMb bD1 hS hd hg1 hg2 hg3 hvb H3 HI H1
 by_cases h2:¬ nestOk 2 [ii,tt] n M
 ·clear Kcut
  have H2:=Lib.hid h2
  clear h2
  have hzb:Vz n 2601 (mEl qb):=fun i _=>(mEl_sz64 hob i).mono (by decide)
  have c10:=sSolve_ok (z:=2601) W14 (.agg #[.int .i64 n,.int .i64 n,.slice ra n rk]) (.slice a1 A k1) (.slice va n vk) n ii M (mEl qb) hvb hzb hS hg1 HGR.out (by omega) (by decide) HMZ.out (nestC1r hn6 HGR.out)
  (have y0:=bSb.c0;have y1:=bSb.c1;have y2:=bSb.c2;have yl:=bSb.lt)
  (go_wp2_with fail;(((with_reducible refine(c10).mono ?_)));(rintro e wc15 ⟨hI,hb⟩);clear y0 y1 y2 yl c10;replace hin:=hin.call hb;replace hS:=hS.call hb;replace hd:=hd.call hb;replace hg1:=hg1.call hb;replace hg2:=hg2.call hb;replace hg3:=hg3.call hb;replace hvb:=hvb.call hb;replace bSb:=bSb.call hb;replace bMb:=bMb.call hb;replace bD1:=bD1.call hb;replace bD2:=bD2.call hb;clear hb)
  obtain⟨r1a,r1k,rfl,hr1⟩:=NestP.yes H1.out hI
  clear hI
  go_upto_region 10 with fail
  (have y0:=bSb.c0;have y1:=bSb.c1;have y2:=bSb.c2;have yl:=bSb.lt)
  go_wp2_with fail
  ((obtain⟨GB,hGB⟩:∃ z,z=wc15.heap.size:=⟨_,rfl⟩);(have bGB:=Bx.new_at wc15 #[.slice a1 A k1,.slice a2 B k2] 22 hGB);clear y0 y1 y2 yl;(replace hin:=hin.alloc (.cells #[.slice a1 A k1,.slice a2 B k2] 22));(replace bSb:=bSb.alloc (.cells #[.slice a1 A k1,.slice a2 B k2] 22));(replace bMb:=bMb.alloc (.cells #[.slice a1 A k1,.slice a2 B k2] 22));(replace bD1:=bD1.alloc (.cells #[.slice a1 A k1,.slice a2 B k2] 22));(replace bD2:=bD2.alloc (.cells #[.slice a1 A k1,.slice a2 B k2] 22));(replace hS:=hS.call ((Below.refl _ _).alloc (Nat.le_refl _) (.cells #[.slice a1 A k1,.slice a2 B k2] 22)));(replace hd:=hd.call ((Below.refl _ _).alloc (Nat.le_refl _) (.cells #[.slice a1 A k1,.slice a2 B k2] 22)));(replace hg1:=hg1.call ((Below.refl _ _).alloc (Nat.le_refl _) (.cells #[.slice a1 A k1,.slice a2 B k2] 22)));(replace hg2:=hg2.call ((Below.refl _ _).alloc (Nat.le_refl _) (.cells #[.slice a1 A k1,.slice a2 B k2] 22)));(replace hg3:=hg3.call ((Below.refl _ _).alloc (Nat.le_refl _) (.cells #[.slice a1 A k1,.slice a2 B k2] 22)));(replace hvb:=hvb.call ((Below.refl _ _).alloc (Nat.le_refl _) (.cells #[.slice a1 A k1,.slice a2 B k2] 22)));(replace hr1:=hr1.call ((Below.refl _ _).alloc (Nat.le_refl _) (.cells #[.slice a1 A k1,.slice a2 B k2] 22)));(rw[←hGB]);clear hGB;(generalize wc15.alloc (.cells #[.slice a1 A k1,.slice a2 B k2] 22)=W16 at *))
  have hgs:GsAt W16 (.slice (some ⟨GB,0,none⟩) 2 2) ([ii,tt].map zl):=gs_pair (by rw[←HA.out,←HB.out];exact bGB) hg1.ints hg2.ints
  have c11:=sNested_ok (z:=2601) W16 (.agg #[.int .i64 n,.int .i64 n,.slice ra n rk]) (.slice (some ⟨GB,0,none⟩) 2 2) (.slice va n vk) n [ii,tt] M (mEl qb) hvb hzb hS hgs ⟨_,_,_,rfl,Nat.le_refl _⟩ HSF.out (by simp) (by omega) (by decide) HMZ.out (nestC2r hn6 HSF.out)
  ((((with_reducible refine(c11).mono ?_)));(rintro e wc17 ⟨hI,hb⟩);clear c11 hgs;replace hin:=hin.call hb;replace hS:=hS.call hb;replace hd:=hd.call hb;replace hg1:=hg1.call hb;replace hg2:=hg2.call hb;replace hg3:=hg3.call hb;replace hvb:=hvb.call hb;replace hr1:=hr1.call hb;replace bSb:=bSb.call hb;replace bMb:=bMb.call hb;replace bD1:=bD1.call hb;replace bD2:=bD2.call hb;replace bGB:=bGB.call hb;clear hb)
  obtain⟨_,rfl⟩:=hI.resolve_left (fun h=>H2.out h.1)
  clear hI
  go_upto_region 11 with fail
  have hg0:GsAt wc17 (.slice none 0 0) (([]:List (List Nat)).map zl):=⟨none,0,rfl,fun i hi=>absurd hi (Nat.not_lt_zero _)⟩
  have c12:=sNested_ok (z:=2601) wc17 (.agg #[.int .i64 n,.int .i64 n,.slice ra n rk]) (.slice none 0 0) (.slice va n vk) n [] M (mEl qb) hvb hzb hS hg0 ⟨_,_,_,rfl,Nat.le_refl _⟩ ⟨List.nodup_nil,by simp⟩ (by decide) (by omega) (by decide) HMZ.out (nestC0r hn6)
  (have y0:=bSb.c0;have y1:=bSb.c1;have y2:=bSb.c2;have yl:=bSb.lt)
  (go_wp2_with fail;(((with_reducible refine(c12).mono ?_)));(rintro e wc18 ⟨hI,hb⟩);clear y0 y1 y2 yl c12 hg0;replace hin:=hin.call hb;replace hS:=hS.call hb;replace hd:=hd.call hb;replace hg1:=hg1.call hb;replace hg2:=hg2.call hb;replace hg3:=hg3.call hb;replace hvb:=hvb.call hb;replace hr1:=hr1.call hb;replace bSb:=bSb.call hb;replace bMb:=bMb.call hb;replace bD1:=bD1.call hb;replace bD2:=bD2.call hb;replace bGB:=bGB.call hb;clear hb)
  obtain⟨r3a,r3k,rfl,hr3⟩:=NestP.yes H3.out hI
  clear hI
  go_upto_region 12 with fail
  have cs:=fsign_any q1 wc18
  rw[HP.out] at cs
  have f1:(isign q1.num != 0)=true:=by rw[HQ1.out];exact isign_ne (detE_ne.2 H3.out)
  (have p0:=bD1.c0;have p1:=bD1.c1;have p2:=bD1.c2;have p3:=bD1.c3;have p4:=bD1.c4;have pl:=bD1.lt)
  (go_wp2_with fail;(((with_reducible refine(cs).mono ?_)));rintro e wc19 ⟨rfl,hb⟩;clear p0 p1 p2 p3 p4 pl cs;replace hin:=hin.call hb;replace hS:=hS.call hb;replace hd:=hd.call hb;replace hg1:=hg1.call hb;replace hg2:=hg2.call hb;replace hg3:=hg3.call hb;replace hvb:=hvb.call hb;replace hr1:=hr1.call hb;replace hr3:=hr3.call hb;replace bSb:=bSb.call hb;replace bMb:=bMb.call hb;replace bD1:=bD1.call hb;replace bD2:=bD2.call hb;replace bGB:=bGB.call hb;clear hb)
  go_upto_region 13 with fail
  have cs:=fsign_any q2 wc19
  rw[HQ.out] at cs
  have f2:(isign q2.num != 0)=true:=by rw[HQ2.out];exact isign_ne (detE_ne.2 HI.out)
  (have q0:=bD2.c0;have q1:=bD2.c1;have q2:=bD2.c2;have q3:=bD2.c3;have q4:=bD2.c4;have ql:=bD2.lt)
  (go_wp2_with fail;(((with_reducible refine(cs).mono ?_)));rintro e wc20 ⟨rfl,hb⟩;clear q0 q1 q2 q3 q4 ql cs;replace hin:=hin.call hb;replace hS:=hS.call hb;replace hd:=hd.call hb;replace hg1:=hg1.call hb;replace hg2:=hg2.call hb;replace hg3:=hg3.call hb;replace hvb:=hvb.call hb;replace hr1:=hr1.call hb;replace hr3:=hr3.call hb;replace bSb:=bSb.call hb;replace bMb:=bMb.call hb;replace bD1:=bD1.call hb;replace bD2:=bD2.call hb;replace bGB:=bGB.call hb;clear hb)
  go_upto_region 15 with fail
  have HHQ:∀ i k,i<n→k<n→(dense n n M).getD (i*n+k) 0=M i k:=fun i k hi hk=>dense_getD M hi hk
  have cs:=esolve_full (z:=2601) wc20 (.agg #[.int .i64 n,.int .i64 n,.slice (some ⟨gM,0,none⟩) NM NM]) (.slice va n vk) n M (dense n n M) (mEl qb) hd.q HHQ hvb (by omega) (by decide) HMZ.out hzb (c_p5 _ (by omega)) (ns_ker H3.out)
  clear HHQ
  (have m0:=bMb.c0;have m1:=bMb.c1;have m2:=bMb.c2;have ml:=bMb.lt)
  (go_wp2_with fail;(((with_reducible refine(cs).mono ?_)));(rintro e wc21 ⟨⟨dx,rfl,hw⟩,hb⟩);clear m0 m1 m2 ml cs;replace hin:=hin.call hb;replace hS:=hS.call hb;replace hd:=hd.call hb;replace hg1:=hg1.call hb;replace hg2:=hg2.call hb;replace hg3:=hg3.call hb;replace hvb:=hvb.call hb;replace hr1:=hr1.call hb;replace hr3:=hr3.call hb;replace bSb:=bSb.call hb;replace bMb:=bMb.call hb;replace bD1:=bD1.call hb;replace bD2:=bD2.call hb;replace bGB:=bGB.call hb;clear hb)
  obtain⟨wa,wk,hwe⟩:=hw.shape
  rw[vl_length] at hwe
  subst hwe
  replace hw:VecAt wc21 (.slice wa n wk) (vl n (solV n M (mEl qb))):=hw
  go_upto_region 16 with fail
  ((obtain⟨X,hX⟩:∃ z,z=wc21.heap.size:=⟨_,rfl⟩);(have bX:=Bx.new_at wc21 #[.slice wa n wk,.slice none 0 0] 79 hX);(replace hin:=hin.alloc (.cells #[.slice wa n wk,.slice none 0 0] 79));(replace bSb:=bSb.alloc (.cells #[.slice wa n wk,.slice none 0 0] 79));(replace bMb:=bMb.alloc (.cells #[.slice wa n wk,.slice none 0 0] 79));(replace bD1:=bD1.alloc (.cells #[.slice wa n wk,.slice none 0 0] 79));(replace bD2:=bD2.alloc (.cells #[.slice wa n wk,.slice none 0 0] 79));(replace bGB:=bGB.alloc (.cells #[.slice wa n wk,.slice none 0 0] 79));(replace hS:=hS.call ((Below.refl _ _).alloc (Nat.le_refl _) (.cells #[.slice wa n wk,.slice none 0 0] 79)));(replace hd:=hd.call ((Below.refl _ _).alloc (Nat.le_refl _) (.cells #[.slice wa n wk,.slice none 0 0] 79)));(replace hg1:=hg1.call ((Below.refl _ _).alloc (Nat.le_refl _) (.cells #[.slice wa n wk,.slice none 0 0] 79)));(replace hg2:=hg2.call ((Below.refl _ _).alloc (Nat.le_refl _) (.cells #[.slice wa n wk,.slice none 0 0] 79)));(replace hg3:=hg3.call ((Below.refl _ _).alloc (Nat.le_refl _) (.cells #[.slice wa n wk,.slice none 0 0] 79)));(replace hvb:=hvb.call ((Below.refl _ _).alloc (Nat.le_refl _) (.cells #[.slice wa n wk,.slice none 0 0] 79)));(replace hr1:=hr1.call ((Below.refl _ _).alloc (Nat.le_refl _) (.cells #[.slice wa n wk,.slice none 0 0] 79)));(replace hr3:=hr3.call ((Below.refl _ _).alloc (Nat.le_refl _) (.cells #[.slice wa n wk,.slice none 0 0] 79)));(replace hw:=hw.call ((Below.refl _ _).alloc (Nat.le_refl _) (.cells #[.slice wa n wk,.slice none 0 0] 79)));(rw[←hX]);clear hX;(generalize wc21.alloc (.cells #[.slice wa n wk,.slice none 0 0] 79)=W22 at *))
  clear hzb
  rw[nest_eq (k:=1) (gs:=[ii]) rfl (by simpa using HGR.out) H1.out] at hr1
  have cs:=vsame_any W22 (.slice r1a n r1k) (.slice wa n wk) _ _ hr1 hw (by rw[vl_length];omega)
  rw[decide_eq_true rfl] at cs
  (have x0:=bX.c0;have x1:=bX.c1;have xl:=bX.lt)
  (have y0:=bSb.c0;have y1:=bSb.c1;have y2:=bSb.c2;have yl:=bSb.lt)
  (go_wp2_with fail;(((with_reducible refine(cs).mono ?_)));rintro e wc23 ⟨rfl,hb⟩;clear x0 x1 xl y0 y1 y2 yl cs;replace hin:=hin.call hb;replace hS:=hS.call hb;replace hd:=hd.call hb;replace hg1:=hg1.call hb;replace hg2:=hg2.call hb;replace hg3:=hg3.call hb;replace hvb:=hvb.call hb;replace hr1:=hr1.call hb;replace hr3:=hr3.call hb;replace hw:=hw.call hb;replace bSb:=bSb.call hb;replace bMb:=bMb.call hb;replace bD1:=bD1.call hb;replace bD2:=bD2.call hb;replace bGB:=bGB.call hb;replace bX:=bX.call hb;clear hb)
  rw[nest_eq (k:=0) (gs:=[]) rfl ⟨List.nodup_nil,by simp⟩ H3.out] at hr3
  have cs:=vsame_any wc23 (.slice r3a n r3k) (.slice wa n wk) _ _ hr3 hw (by rw[vl_length];omega)
  rw[decide_eq_true rfl] at cs
  (have x0:=bX.c0;have x1:=bX.c1;have xl:=bX.lt)
  (have y0:=bSb.c0;have y1:=bSb.c1;have y2:=bSb.c2;have yl:=bSb.lt)
  (go_wp2_with fail;(((with_reducible refine(cs).mono ?_)));rintro e wc24 ⟨rfl,hb⟩;clear x0 x1 xl y0 y1 y2 yl cs;replace hin:=hin.call hb;replace hS:=hS.call hb;replace hd:=hd.call hb;replace hg1:=hg1.call hb;replace hg2:=hg2.call hb;replace hg3:=hg3.call hb;replace hvb:=hvb.call hb;replace hr1:=hr1.call hb;replace hr3:=hr3.call hb;replace hw:=hw.call hb;replace bSb:=bSb.call hb;replace bMb:=bMb.call hb;replace bD1:=bD1.call hb;replace bD2:=bD2.call hb;replace bGB:=bGB.call hb;replace bX:=bX.call hb;clear hb)
  have cz2:=cz wc24
  (have x0:=bX.c0;have x1:=bX.c1;have xl:=bX.lt)
  (have y0:=bSb.c0;have y1:=bSb.c1;have y2:=bSb.c2;have yl:=bSb.lt)
  (go_wp2_with fail;(((with_reducible refine(cz2).mono ?_)));rintro e wc25 ⟨rfl,hb⟩;clear x0 x1 xl y0 y1 y2 yl cz2;replace hin:=hin.call hb;replace hS:=hS.call hb;replace hd:=hd.call hb;replace hg1:=hg1.call hb;replace hg2:=hg2.call hb;replace hg3:=hg3.call hb;replace hvb:=hvb.call hb;replace hr1:=hr1.call hb;replace hr3:=hr3.call hb;replace hw:=hw.call hb;replace bSb:=bSb.call hb;replace bMb:=bMb.call hb;replace bD1:=bD1.call hb;replace bD2:=bD2.call hb;replace bGB:=bGB.call hb;replace bX:=bX.call hb;clear hb)
  have hbel:=hin.bel
  clear hin
  go_wp2_with fail
  go_ret
  exact⟨rfl,hbel⟩
 ·skip
  have H2:=Lib.hid (Classical.not_not.1 h2)
  clear h2
  revert w N la lc l ka kc ks ba bc qb hob cz a b2 n hn6 ys10_ S0 W1 V W2 wc3 hbn M HMZ wc4 ra rk Sb wS wc6 gM NM Mb W7 t k ii tt HT4 HT3 wc8 a1 k1 a2 k2 a3 k3 HLEN A B O hlen R hlen2 HA HB HO HR HGR HGT wc9 va vk HSF q1 HQ1 P1 P2 P3 P4 P5 HP wc10 D1 W11 wc12 db q2 HQ2 Q1 Q2 Q3 Q4 Q5 HQ wc13 ys40_ ys41_ D2 W14 bD2 hin bSb bMb bD1 hS hd hg1 hg2 hg3 hvb H3 HI H1 H2
  exact Kcut.out
 ⟩
set_option maxRecDepth 100000 in
set_option maxHeartbeats 16000000 in
theorem solves21_any_q7:solves21_any_q6.1:=by
 intro w N la lc l ka kc ks ba bc qb hob cz a b2 n hn6 ys10_ S0 W1 V W2 wc3 hbn M HMZ wc4 ra rk Sb wS wc6 gM NM Mb W7 t k ii tt HT4 HT3 wc8 a1 k1 a2 k2 a3 k3 HLEN A B O hlen R hlen2 HA HB HO HR HGR HGT wc9 va vk HSF q1 HQ1 P1 P2 P3 P4 P5 HP wc10 D1 W11 wc12 db q2 HQ2 Q1 Q2 Q3 Q4 Q5 HQ wc13 ys40_ ys41_ D2 W14 bD2 hin bSb bMb bD1 hS hd hg1 hg2 hg3 hvb H3 HI H1 H2
 have hzb:Vz n 2601 (mEl qb):=fun i _=>(mEl_sz64 hob i).mono (by decide)
 have c10:=sSolve_ok (z:=2601) W14 (.agg #[.int .i64 n,.int .i64 n,.slice ra n rk]) (.slice a1 A k1) (.slice va n vk) n ii M (mEl qb) hvb hzb hS hg1 HGR.out (by omega) (by decide) HMZ.out (nestC1r hn6 HGR.out)
 (have y0:=bSb.c0;have y1:=bSb.c1;have y2:=bSb.c2;have yl:=bSb.lt)
 (go_wp2_with fail;(((with_reducible refine(c10).mono ?_)));(rintro e wc15 ⟨hI,hb⟩);clear y0 y1 y2 yl c10;replace hin:=hin.call hb;replace hS:=hS.call hb;replace hd:=hd.call hb;replace hg1:=hg1.call hb;replace hg2:=hg2.call hb;replace hg3:=hg3.call hb;replace hvb:=hvb.call hb;replace bSb:=bSb.call hb;replace bMb:=bMb.call hb;replace bD1:=bD1.call hb;replace bD2:=bD2.call hb;clear hb)
 obtain⟨r1a,r1k,rfl,hr1⟩:=NestP.yes H1.out hI
 clear hI
 go_upto_region 10 with fail
 (have y0:=bSb.c0;have y1:=bSb.c1;have y2:=bSb.c2;have yl:=bSb.lt)
 go_wp2_with fail
 ((obtain⟨GB,hGB⟩:∃ z,z=wc15.heap.size:=⟨_,rfl⟩);(have bGB:=Bx.new_at wc15 #[.slice a1 A k1,.slice a2 B k2] 22 hGB);clear y0 y1 y2 yl;(replace hin:=hin.alloc (.cells #[.slice a1 A k1,.slice a2 B k2] 22));(replace bSb:=bSb.alloc (.cells #[.slice a1 A k1,.slice a2 B k2] 22));(replace bMb:=bMb.alloc (.cells #[.slice a1 A k1,.slice a2 B k2] 22));(replace bD1:=bD1.alloc (.cells #[.slice a1 A k1,.slice a2 B k2] 22));(replace bD2:=bD2.alloc (.cells #[.slice a1 A k1,.slice a2 B k2] 22));(replace hS:=hS.call ((Below.refl _ _).alloc (Nat.le_refl _) (.cells #[.slice a1 A k1,.slice a2 B k2] 22)));(replace hd:=hd.call ((Below.refl _ _).alloc (Nat.le_refl _) (.cells #[.slice a1 A k1,.slice a2 B k2] 22)));(replace hg1:=hg1.call ((Below.refl _ _).alloc (Nat.le_refl _) (.cells #[.slice a1 A k1,.slice a2 B k2] 22)));(replace hg2:=hg2.call ((Below.refl _ _).alloc (Nat.le_refl _) (.cells #[.slice a1 A k1,.slice a2 B k2] 22)));(replace hg3:=hg3.call ((Below.refl _ _).alloc (Nat.le_refl _) (.cells #[.slice a1 A k1,.slice a2 B k2] 22)));(replace hvb:=hvb.call ((Below.refl _ _).alloc (Nat.le_refl _) (.cells #[.slice a1 A k1,.slice a2 B k2] 22)));(replace hr1:=hr1.call ((Below.refl _ _).alloc (Nat.le_refl _) (.cells #[.slice a1 A k1,.slice a2 B k2] 22)));(rw[←hGB]);clear hGB;(generalize wc15.alloc (.cells #[.slice a1 A k1,.slice a2 B k2] 22)=W16 at *))
 have hgs:GsAt W16 (.slice (some ⟨GB,0,none⟩) 2 2) ([ii,tt].map zl):=gs_pair (by rw[←HA.out,←HB.out];exact bGB) hg1.ints hg2.ints
 have c11:=sNested_ok (z:=2601) W16 (.agg #[.int .i64 n,.int .i64 n,.slice ra n rk]) (.slice (some ⟨GB,0,none⟩) 2 2) (.slice va n vk) n [ii,tt] M (mEl qb) hvb hzb hS hgs ⟨_,_,_,rfl,Nat.le_refl _⟩ HSF.out (by simp) (by omega) (by decide) HMZ.out (nestC2r hn6 HSF.out)
 ((((with_reducible refine(c11).mono ?_)));(rintro e wc17 ⟨hI,hb⟩);clear c11 hgs;replace hin:=hin.call hb;replace hS:=hS.call hb;replace hd:=hd.call hb;replace hg1:=hg1.call hb;replace hg2:=hg2.call hb;replace hg3:=hg3.call hb;replace hvb:=hvb.call hb;replace hr1:=hr1.call hb;replace bSb:=bSb.call hb;replace bMb:=bMb.call hb;replace bD1:=bD1.call hb;replace bD2:=bD2.call hb;replace bGB:=bGB.call hb;clear hb)
 obtain⟨r2a,r2k,rfl,hr2⟩:=NestP.yes H2.out hI
 clear hI
 go_upto_region 11 with fail
 have hg0:GsAt wc17 (.slice none 0 0) (([]:List (List Nat)).map zl):=⟨none,0,rfl,fun i hi=>absurd hi (Nat.not_lt_zero _)⟩
 have c12:=sNested_ok (z:=2601) wc17 (.agg #[.int .i64 n,.int .i64 n,.slice ra n rk]) (.slice none 0 0) (.slice va n vk) n [] M (mEl qb) hvb hzb hS hg0 ⟨_,_,_,rfl,Nat.le_refl _⟩ ⟨List.nodup_nil,by simp⟩ (by decide) (by omega) (by decide) HMZ.out (nestC0r hn6)
 (have y0:=bSb.c0;have y1:=bSb.c1;have y2:=bSb.c2;have yl:=bSb.lt)
 (go_wp2_with fail;(((with_reducible refine(c12).mono ?_)));(rintro e wc18 ⟨hI,hb⟩);clear y0 y1 y2 yl c12 hg0;replace hin:=hin.call hb;replace hS:=hS.call hb;replace hd:=hd.call hb;replace hg1:=hg1.call hb;replace hg2:=hg2.call hb;replace hg3:=hg3.call hb;replace hvb:=hvb.call hb;replace hr1:=hr1.call hb;replace hr2:=hr2.call hb;replace bSb:=bSb.call hb;replace bMb:=bMb.call hb;replace bD1:=bD1.call hb;replace bD2:=bD2.call hb;replace bGB:=bGB.call hb;clear hb)
 obtain⟨r3a,r3k,rfl,hr3⟩:=NestP.yes H3.out hI
 clear hI
 go_upto_region 12 with fail
 have cs:=fsign_any q1 wc18
 rw[HP.out] at cs
 have f1:(isign q1.num != 0)=true:=by rw[HQ1.out];exact isign_ne (detE_ne.2 H3.out)
 (have p0:=bD1.c0;have p1:=bD1.c1;have p2:=bD1.c2;have p3:=bD1.c3;have p4:=bD1.c4;have pl:=bD1.lt)
 (go_wp2_with fail;(((with_reducible refine(cs).mono ?_)));rintro e wc19 ⟨rfl,hb⟩;clear p0 p1 p2 p3 p4 pl cs;replace hin:=hin.call hb;replace hS:=hS.call hb;replace hd:=hd.call hb;replace hg1:=hg1.call hb;replace hg2:=hg2.call hb;replace hg3:=hg3.call hb;replace hvb:=hvb.call hb;replace hr1:=hr1.call hb;replace hr2:=hr2.call hb;replace hr3:=hr3.call hb;replace bSb:=bSb.call hb;replace bMb:=bMb.call hb;replace bD1:=bD1.call hb;replace bD2:=bD2.call hb;replace bGB:=bGB.call hb;clear hb)
 go_upto_region 13 with fail
 have cs:=fsign_any q2 wc19
 rw[HQ.out] at cs
 have f2:(isign q2.num != 0)=true:=by rw[HQ2.out];exact isign_ne (detE_ne.2 HI.out)
 (have q0:=bD2.c0;have q1:=bD2.c1;have q2:=bD2.c2;have q3:=bD2.c3;have q4:=bD2.c4;have ql:=bD2.lt)
 (go_wp2_with fail;(((with_reducible refine(cs).mono ?_)));rintro e wc20 ⟨rfl,hb⟩;clear q0 q1 q2 q3 q4 ql cs;replace hin:=hin.call hb;replace hS:=hS.call hb;replace hd:=hd.call hb;replace hg1:=hg1.call hb;replace hg2:=hg2.call hb;replace hg3:=hg3.call hb;replace hvb:=hvb.call hb;replace hr1:=hr1.call hb;replace hr2:=hr2.call hb;replace hr3:=hr3.call hb;replace bSb:=bSb.call hb;replace bMb:=bMb.call hb;replace bD1:=bD1.call hb;replace bD2:=bD2.call hb;replace bGB:=bGB.call hb;clear hb)
 go_upto_region 15 with fail
 have HHQ:∀ i k,i<n→k<n→(dense n n M).getD (i*n+k) 0=M i k:=fun i k hi hk=>dense_getD M hi hk
 have cs:=esolve_full (z:=2601) wc20 (.agg #[.int .i64 n,.int .i64 n,.slice (some ⟨gM,0,none⟩) NM NM]) (.slice va n vk) n M (dense n n M) (mEl qb) hd.q HHQ hvb (by omega) (by decide) HMZ.out hzb (c_p5 _ (by omega)) (ns_ker H3.out)
 clear HHQ
 (have m0:=bMb.c0;have m1:=bMb.c1;have m2:=bMb.c2;have ml:=bMb.lt)
 (go_wp2_with fail;(((with_reducible refine(cs).mono ?_)));(rintro e wc21 ⟨⟨dx,rfl,hw⟩,hb⟩);clear m0 m1 m2 ml cs;replace hin:=hin.call hb;replace hS:=hS.call hb;replace hd:=hd.call hb;replace hg1:=hg1.call hb;replace hg2:=hg2.call hb;replace hg3:=hg3.call hb;replace hvb:=hvb.call hb;replace hr1:=hr1.call hb;replace hr2:=hr2.call hb;replace hr3:=hr3.call hb;replace bSb:=bSb.call hb;replace bMb:=bMb.call hb;replace bD1:=bD1.call hb;replace bD2:=bD2.call hb;replace bGB:=bGB.call hb;clear hb)
 obtain⟨wa,wk,hwe⟩:=hw.shape
 rw[vl_length] at hwe
 subst hwe
 replace hw:VecAt wc21 (.slice wa n wk) (vl n (solV n M (mEl qb))):=hw
 go_upto_region 16 with fail
 ((obtain⟨X,hX⟩:∃ z,z=wc21.heap.size:=⟨_,rfl⟩);(have bX:=Bx.new_at wc21 #[.slice wa n wk,.slice none 0 0] 79 hX);(replace hin:=hin.alloc (.cells #[.slice wa n wk,.slice none 0 0] 79));(replace bSb:=bSb.alloc (.cells #[.slice wa n wk,.slice none 0 0] 79));(replace bMb:=bMb.alloc (.cells #[.slice wa n wk,.slice none 0 0] 79));(replace bD1:=bD1.alloc (.cells #[.slice wa n wk,.slice none 0 0] 79));(replace bD2:=bD2.alloc (.cells #[.slice wa n wk,.slice none 0 0] 79));(replace bGB:=bGB.alloc (.cells #[.slice wa n wk,.slice none 0 0] 79));(replace hS:=hS.call ((Below.refl _ _).alloc (Nat.le_refl _) (.cells #[.slice wa n wk,.slice none 0 0] 79)));(replace hd:=hd.call ((Below.refl _ _).alloc (Nat.le_refl _) (.cells #[.slice wa n wk,.slice none 0 0] 79)));(replace hg1:=hg1.call ((Below.refl _ _).alloc (Nat.le_refl _) (.cells #[.slice wa n wk,.slice none 0 0] 79)));(replace hg2:=hg2.call ((Below.refl _ _).alloc (Nat.le_refl _) (.cells #[.slice wa n wk,.slice none 0 0] 79)));(replace hg3:=hg3.call ((Below.refl _ _).alloc (Nat.le_refl _) (.cells #[.slice wa n wk,.slice none 0 0] 79)));(replace hvb:=hvb.call ((Below.refl _ _).alloc (Nat.le_refl _) (.cells #[.slice wa n wk,.slice none 0 0] 79)));(replace hr1:=hr1.call ((Below.refl _ _).alloc (Nat.le_refl _) (.cells #[.slice wa n wk,.slice none 0 0] 79)));(replace hr2:=hr2.call ((Below.refl _ _).alloc (Nat.le_refl _) (.cells #[.slice wa n wk,.slice none 0 0] 79)));(replace hr3:=hr3.call ((Below.refl _ _).alloc (Nat.le_refl _) (.cells #[.slice wa n wk,.slice none 0 0] 79)));(replace hw:=hw.call ((Below.refl _ _).alloc (Nat.le_refl _) (.cells #[.slice wa n wk,.slice none 0 0] 79)));(rw[←hX]);clear hX;(generalize wc21.alloc (.cells #[.slice wa n wk,.slice none 0 0] 79)=W22 at *))
 clear hzb
 rw[nest_eq (k:=1) (gs:=[ii]) rfl (by simpa using HGR.out) H1.out] at hr1
 have cs:=vsame_any W22 (.slice r1a n r1k) (.slice wa n wk) _ _ hr1 hw (by rw[vl_length];omega)
 rw[decide_eq_true rfl] at cs
 (have x0:=bX.c0;have x1:=bX.c1;have xl:=bX.lt)
 (have y0:=bSb.c0;have y1:=bSb.c1;have y2:=bSb.c2;have yl:=bSb.lt)
 (go_wp2_with fail;(((with_reducible refine(cs).mono ?_)));rintro e wc23 ⟨rfl,hb⟩;clear x0 x1 xl y0 y1 y2 yl cs;replace hin:=hin.call hb;replace hS:=hS.call hb;replace hd:=hd.call hb;replace hg1:=hg1.call hb;replace hg2:=hg2.call hb;replace hg3:=hg3.call hb;replace hvb:=hvb.call hb;replace hr1:=hr1.call hb;replace hr2:=hr2.call hb;replace hr3:=hr3.call hb;replace hw:=hw.call hb;replace bSb:=bSb.call hb;replace bMb:=bMb.call hb;replace bD1:=bD1.call hb;replace bD2:=bD2.call hb;replace bGB:=bGB.call hb;replace bX:=bX.call hb;clear hb)
 rw[nest_eq (k:=2) (gs:=[ii,tt]) rfl HSF.out H2.out] at hr2
 have cs:=vsame_any wc23 (.slice r2a n r2k) (.slice wa n wk) _ _ hr2 hw (by rw[vl_length];omega)
 rw[decide_eq_true rfl] at cs
 (have x0:=bX.c0;have x1:=bX.c1;have xl:=bX.lt)
 (have y0:=bSb.c0;have y1:=bSb.c1;have y2:=bSb.c2;have yl:=bSb.lt)
 (go_wp2_with fail;(((with_reducible refine(cs).mono ?_)));rintro e wc24 ⟨rfl,hb⟩;clear x0 x1 xl y0 y1 y2 yl cs;replace hin:=hin.call hb;replace hS:=hS.call hb;replace hd:=hd.call hb;replace hg1:=hg1.call hb;replace hg2:=hg2.call hb;replace hg3:=hg3.call hb;replace hvb:=hvb.call hb;replace hr1:=hr1.call hb;replace hr2:=hr2.call hb;replace hr3:=hr3.call hb;replace hw:=hw.call hb;replace bSb:=bSb.call hb;replace bMb:=bMb.call hb;replace bD1:=bD1.call hb;replace bD2:=bD2.call hb;replace bGB:=bGB.call hb;replace bX:=bX.call hb;clear hb)
 rw[nest_eq (k:=0) (gs:=[]) rfl ⟨List.nodup_nil,by simp⟩ H3.out] at hr3
 have cs:=vsame_any wc24 (.slice r3a n r3k) (.slice wa n wk) _ _ hr3 hw (by rw[vl_length];omega)
 rw[decide_eq_true rfl] at cs
 (have x0:=bX.c0;have x1:=bX.c1;have xl:=bX.lt)
 (have y0:=bSb.c0;have y1:=bSb.c1;have y2:=bSb.c2;have yl:=bSb.lt)
 (go_wp2_with fail;(((with_reducible refine(cs).mono ?_)));rintro e wc25 ⟨rfl,hb⟩;clear x0 x1 xl y0 y1 y2 yl cs;replace hin:=hin.call hb;replace hS:=hS.call hb;replace hd:=hd.call hb;replace hg1:=hg1.call hb;replace hg2:=hg2.call hb;replace hg3:=hg3.call hb;replace hvb:=hvb.call hb;replace hr1:=hr1.call hb;replace hr2:=hr2.call hb;replace hr3:=hr3.call hb;replace hw:=hw.call hb;replace bSb:=bSb.call hb;replace bMb:=bMb.call hb;replace bD1:=bD1.call hb;replace bD2:=bD2.call hb;replace bGB:=bGB.call hb;replace bX:=bX.call hb;clear hb)
 have cz2:=cz wc25
 (have x0:=bX.c0;have x1:=bX.c1;have xl:=bX.lt)
 (have y0:=bSb.c0;have y1:=bSb.c1;have y2:=bSb.c2;have yl:=bSb.lt)
 (go_wp2_with fail;(((with_reducible refine(cz2).mono ?_)));rintro e wc26 ⟨rfl,hb⟩;clear x0 x1 xl y0 y1 y2 yl cz2;replace hin:=hin.call hb;replace hS:=hS.call hb;replace hd:=hd.call hb;replace hg1:=hg1.call hb;replace hg2:=hg2.call hb;replace hg3:=hg3.call hb;replace hvb:=hvb.call hb;replace hr1:=hr1.call hb;replace hr2:=hr2.call hb;replace hr3:=hr3.call hb;replace hw:=hw.call hb;replace bSb:=bSb.call hb;replace bMb:=bMb.call hb;replace bD1:=bD1.call hb;replace bD2:=bD2.call hb;replace bGB:=bGB.call hb;replace bX:=bX.call hb;clear hb)
 have hbel:=hin.bel
 clear hin
 go_wp2_with fail
 go_ret
 exact⟨rfl,hbel⟩
set_option maxRecDepth 100000 in
set_option maxHeartbeats 16000000 in
theorem solves21_any (w:World) (N:Nat) (hN:N<256) (la:Option Addr) (lc:Nat) (l:List TQ) (hl:TAt w la l) (hok:TOk l) (hL:l.length≤maxLen) (ka:Option Addr) (kc:Nat) (ks:List Nat) (hk:U8At w ka ks) (hk8:∀ i,ks.getD i 0<256) (hLk:ks.length≤maxLen) (z z2:Int) (hz:0≤z∧z<256) (hz2:0≤z2∧z2<256) (ba:Option Addr) (bc:Nat) (qb:List (Int×Int)) (hqb:QAt w ba qb) (hob:QOk qb) (hLb:qb.length≤maxLen) :
  Calls Tryz.prog 6 #[.agg #[.int .u8 N,.slice la l.length lc],.slice ka ks.length kc,.int .u8 z,.int .u8 z2,.slice ba qb.length bc] w fun e w'=>e=.returned (.bool true)∧Below w.heap.size w w':=(solves21_any_q1.2 (solves21_any_q2.2 (solves21_any_q3.2 (solves21_any_q4.2 (solves21_any_q5.2 (solves21_any_q6.2 solves21_any_q7)))))) w N hN la lc l hl hok hL ka kc ks hk hk8 hLk z z2 hz hz2 ba bc qb hqb hob hLb
end Gus
end
