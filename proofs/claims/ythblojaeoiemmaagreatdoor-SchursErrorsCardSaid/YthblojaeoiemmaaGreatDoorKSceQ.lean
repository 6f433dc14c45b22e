/- Proved here: parts of the proof: KSce KSqa KSqb KSqc. Conditions: those that each theorem states. -/
import Derived.Test.YthblojaeoiemmaaGreatDoorKShaQ
import Derived.Test.YthblojaeoiemmaaGreatDoorKEljQ
section
namespace Gus
theorem sm_szk {F:Nat→Rat} {j n:Nat} (hj:1≤j) (h:∀ t,t<n→SzK j (F t)):SzK (1+n*(j+1)) (sm F n):=by
 rw[sm_congr n (G:=fun t=>if t<n then F t else 0) (fun t ht=>(if_pos ht).symm),←sumTo_sm]
 exact sumTo_szk (fun t=>by split;exact h t ‹_›;exact SzK.zero.mono hj) n
def Mz (n m j:Nat) (M:Mx):Prop:=∀ r c,r<n→c<m→SzK j (M r c)
def Vz (n j:Nat) (v:Vc):Prop:=∀ i,i<n→SzK j (v i)
theorem Mz.mono {n m i j:Nat} {M:Mx} (h:Mz n m i M) (hij:i≤j):Mz n m j M:=fun r c hr hc=>(h r c hr hc).mono hij
theorem Vz.mono {n i j:Nat} {v:Vc} (h:Vz n i v) (hij:i≤j):Vz n j v:=fun r hr=>(h r hr).mono hij
theorem mulM_szk {n k m i j:Nat} {A B:Mx} (h1:1≤i) (hA:Mz n k i A) (hB:Mz k m j B):Mz n m (1+k*(i+j+1)) (mulM k A B):=fun r c hr hc=>
 sm_szk (by omega) fun t ht=>(hA r t hr ht).mul (hB t c ht hc)
theorem mv_szk {n k i j:Nat} {A:Mx} {v:Vc} (h1:1≤i) (hA:Mz n k i A) (hv:Vz k j v):Vz n (1+k*(i+j+1)) (mv k A v):=fun r hr=>
 sm_szk (by omega) fun t ht=>(hA r t hr ht).mul (hv t ht)
theorem sub_szk {n z:Nat} {M:Mx} {rows cols:List Nat} (hM:Mz n n z M) (hr:∀ i∈rows,i<n) (hc:∀ i∈cols,i<n):Mz rows.length cols.length z (sub M rows cols):=fun _ _ h1 h2=>
 hM _ _ (hr _ (getD_in h1)) (hc _ (getD_in h2))
theorem rs_szk {n z:Nat} {b:Vc} {l:List Nat} (hb:Vz n z b) (hl:∀ i∈l,i<n):Vz l.length z (rs l b):=fun _ h=>hb _ (hl _ (getD_in h))
theorem augI_szk {a z:Nat} {A:Mx} (hz:1≤z) (hA:Mz a a z A):Mz a (a+a) z (augI a A):=fun r c hr hc=>by
 unfold augI
 split
 ·exact hA r c hr ‹_›
 ·split
  ·exact SzK.one.mono hz
  ·exact SzK.zero.mono hz
theorem invM_szk {a z:Nat} {A:Mx} (hz:1≤z) (hA:Mz a a z A):Mz a a (z*5 ^ a) (invM a A):=fun r c hr hc=>
 (elim_szk (R:=a) (m:=a+a) hz (augI_szk hz hA) a (by omega)).1 r (a+c) hr (by omega)
theorem le_jz (a z:Nat):z≤z*5 ^ a:=Nat.le_mul_of_pos_right z (Nat.pow_pos (by decide))
def jz (a z:Nat):Nat:=z*5 ^ a
def gz (a z:Nat):Nat:=jz a z*(3+3*a+3*a*a)
def lz (a z:Nat):Nat:=1+a*(z+jz a z+1)
def pz (a z:Nat):Nat:=1+a*(lz a z+z+1)
theorem pz_le {a z:Nat} (hz:1≤z):pz a z+z+1≤gz a z:=by
 have h:=le_jz a z
 unfold pz lz gz
 change z≤jz a z at h
 generalize jz a z=J at *
 have e:J*(3+3*a+3*a*a)=3*J+3*(J*a)+3*(J*a*a):=by grind
 have e1:1+a*(1+a*(z+J+1)+z+1)=1+a*2+a*z+a*a*(z+J+1):=by grind
 have h1:a*z≤J*a:=by rw[Nat.mul_comm];exact Nat.mul_le_mul_right a h
 have h2:a*2≤2*(J*a):=by
  have:a*1≤J*a:=by rw[Nat.mul_comm];exact Nat.mul_le_mul_right a (by omega)
  omega
 have h3:a*a*(z+J+1)≤3*(J*a*a):=by
  have:a*a*(z+J+1)≤a*a*(3*J):=Nat.mul_le_mul_left _ (by omega)
  have e3:a*a*(3*J)=3*(J*a*a):=by grind
  omega
 omega
theorem lz_le {a z:Nat} (hz:1≤z):lz a z≤gz a z:=by
 have h:=pz_le (a:=a) hz
 rcases Nat.eq_zero_or_pos a with h0 | h0
 ·subst h0;unfold lz;omega
 ·have:lz a z+z+1≤a*(lz a z+z+1):=Nat.le_mul_of_pos_left _ h0
  unfold pz at h
  omega
theorem jz_le (a z:Nat):jz a z≤gz a z:=Nat.le_mul_of_pos_right _ (by omega)
theorem z_le_gz (a z:Nat):z≤gz a z:=Nat.le_trans (le_jz a z) (jz_le a z)
theorem schur_szk {n z:Nat} {M:Mx} {ii oo:List Nat} (hz:1≤z) (hM:Mz n n z M) (hi:∀ i∈ii,i<n) (ho:∀ i∈oo,i<n):Mz oo.length oo.length (gz ii.length z) (schur M ii oo (invM ii.length (sub M ii ii))):=fun r c hr hc=>by
 have h1:=mulM_szk hz (sub_szk hM ho hi) (invM_szk hz (sub_szk hM hi hi))
 have h2:=mulM_szk (by omega) h1 (sub_szk hM hi ho)
 have h3:=(sub_szk hM ho ho r c hr hc).sub (h2 r c hr hc)
 refine h3.mono ?_
 have:=pz_le (a:=ii.length) hz
 unfold pz lz jz at this
 omega
theorem cond_szk {n z:Nat} {M:Mx} {ii oo:List Nat} {b:Vc} (hz:1≤z) (hM:Mz n n z M) (hb:Vz n z b) (hi:∀ i∈ii,i<n) (ho:∀ i∈oo,i<n):Vz oo.length (gz ii.length z) fun r=>rs oo b r - mv ii.length (sub M oo ii) (mv ii.length (invM ii.length (sub M ii ii)) (rs ii b)) r:=fun r hr=>by
 have h1:=mv_szk (n:=ii.length) (Nat.mul_pos hz (Nat.pow_pos (by decide))) (invM_szk hz (sub_szk hM hi hi)) (rs_szk hb hi)
 have h2:=mv_szk hz (sub_szk hM ho hi) h1
 have h3:=(rs_szk hb ho r hr).sub (h2 r hr)
 refine h3.mono ?_
 have:=pz_le (a:=ii.length) hz
 unfold pz lz jz at this
 have e:ii.length*(z*5 ^ ii.length+z+1)=ii.length*(z+z*5 ^ ii.length+1):=by rw[Nat.add_comm z]
 have e2:ii.length*(z+(1+ii.length*(z+z*5 ^ ii.length+1))+1)=ii.length*(1+ii.length*(z+z*5 ^ ii.length+1)+z+1):=by rw[Nat.add_comm z (1+_)]
 rw[e,e2]
 omega
def ez (a o z y:Nat):Nat:=1+a*(jz a z+(z+(1+o*(z+y+1))+1)+1)
theorem ext_szk {n z y:Nat} {M:Mx} {ii oo:List Nat} {b v:Vc} (hz:1≤z) (hM:Mz n n z M) (hb:Vz n z b) (hv:Vz oo.length y v) (hi:∀ i∈ii,i<n) (ho:∀ i∈oo,i<n):Vz ii.length (ez ii.length oo.length z y) (mv ii.length (invM ii.length (sub M ii ii)) fun t=>rs ii b t - mv oo.length (sub M ii oo) v t):=
 mv_szk (Nat.mul_pos hz (Nat.pow_pos (by decide))) (invM_szk hz (sub_szk hM hi hi)) fun t ht=>(rs_szk hb hi t ht).sub (mv_szk hz (sub_szk hM hi ho) hv t ht)
def nestZ:List Nat→Nat→Nat→Nat
 | [],n,z=>5*(z*5 ^ n)+2
 | a :: gs,n,z=>ez a (n - a) z (nestZ gs (n - a) (gz a z))+nestZ gs (n - a) (gz a z)+(5*(z*5 ^ a)+2)+gz a z
end Gus
end
section
namespace Gus
open Go Go.RowKit Go.Proofs
set_option maxRecDepth 100000 in
set_option maxHeartbeats 2000000 in
theorem esquare_ok (w:World) (n N:Nat) (a:Option Addr) (cap:Nat) (hn:n≤2048) (hN:N=n*n) :
  Calls Tryz.prog 63 #[.agg #[.int .i64 n,.int .i64 n,.slice a N cap]] w fun e w'=>e=.returned (.int .i64 0)∧Below w.heap.size w w':=by
 have h1:=mcheck_any n n a N cap
 rw[show checkM (n:Int) n N=0 by rw[hN];exact checkM_ok hn hn] at h1
 have hin:=In.self w
 clear hN
 go_enter Tryz.func63,Tryz.ntmps63
 go_upto_region 1 with fail
 ((obtain⟨X,hX⟩:∃ z,z=w.heap.size:=⟨_,rfl⟩);(have bX:=Bx.new_at w #[.int .i64 n,.int .i64 n,.slice a N cap] 37 hX);(replace hin:=hin.alloc (.cells #[.int .i64 n,.int .i64 n,.slice a N cap] 37));(rw[←hX]);clear hX;(generalize w.alloc (.cells #[.int .i64 n,.int .i64 n,.slice a N cap] 37)=W1 at *))
 (have x0:=bX.c0;have x1:=bX.c1;have x2:=bX.c2;have xl:=bX.lt)
 (go_wp2_with fail;(((with_reducible refine(h1 _).mono ?_)));rintro e wc2 ⟨rfl,hb⟩;clear x0 x1 x2 xl h1;replace hin:=hin.call hb;replace bX:=bX.call hb;clear hb)
 (have x0:=bX.c0;have x1:=bX.c1;have x2:=bX.c2;have xl:=bX.lt)
 go_wp2_with fail
 go_ret
 exact⟨rfl,hin.bel⟩
def oneF:Mx:=fun i k=>if i=k then 1 else 0
set_option maxRecDepth 100000 in
set_option maxHeartbeats 2000000 in
theorem mone1_any (w:World) (i k:Nat) :
  Calls Tryz.prog 110 #[.int .i64 (i:Nat),.int .i64 (k:Nat)] w fun e w'=>e=.returned (fracV (oneF i k))∧Below w.heap.size w w':=by
 obtain⟨one,hone⟩:∃ one:Rat,one=((1:Int):Rat):=⟨_,rfl⟩
 have c1:=fracInt_any 1 (by decide) (by decide)
 rw[←hone] at c1
 unfold oneF
 by_cases h:i=k
 ·have k1:((i:Int) != k)=false:=by rw[h];simp
  rw[if_pos h,show(1:Rat)=one from by rw[hone];rfl]
  clear h hone
  go_enter Tryz.func110,Tryz.ntmps110
  go_upto_region 1 with fail
  ((obtain⟨X,hXX⟩:∃ z,z=w.heap.size:=⟨_,rfl⟩);(have bV0:=(Bx.new_at w #[.int .u64 0,.string ⟨#[]⟩,.bool false,.int .u64 0,.string ⟨#[]⟩] 72 (n:=X) (by simp[hXX])));(have hV:=((In.self w).alloc (.cells #[.int .u64 0,.string ⟨#[]⟩,.bool false,.int .u64 0,.string ⟨#[]⟩] 72)));(rw[←hXX] at hV ⊢);(have HX:=Lib.hid hXX);clear hXX;(generalize w.alloc (.cells #[.int .u64 0,.string ⟨#[]⟩,.bool false,.int .u64 0,.string ⟨#[]⟩] 72)=V at *))
  go_wp2_with fail
  ((with_reducible refine(c1 _).mono ?_))
  rintro e w1 ⟨rfl,hb⟩
  have hin:=hV.call hb
  have bq:=bV0.call hb
  clear hb c1 hV bV0
  ((obtain⟨A1,A2,A3,A4,A5,hA⟩:∃ A1 A2 A3 A4 A5,fracV one=.agg #[.int .u64 A1,.string A2,.bool A3,.int .u64 A4,.string A5]:=⟨_,_,_,_,_,rfl⟩);
       ((try rw[hA]));
       (have HA:=Lib.hid hA);
       clear hA;
       have q0:=bq.c0;
       have q1:=bq.c1;
       have q2:=bq.c2;
       have q3:=bq.c3;
       have q4:=bq.c4;
       (have f0:=bq.frozen 0);
       (have f1:=bq.frozen 1);
       (have f2:=bq.frozen 2);
       (have f3:=bq.frozen 3);
       (have f4:=bq.frozen 4);
       have ql:=bq.lt;
       (have K1:=Lib.hid ((((((bq.set 0 (.int .u64 A1)).set 1 (.string A2)).set 2 (.bool A3)).set 3 (.int .u64 A4)).set 4 (.string A5))));
       (have K2:=Lib.hid ((((((hin.setCell (p:=⟨X,0,none⟩) (by first |(simp;done)|(have:=HX.out;simp;omega)) (.int .u64 A1)).setCell (p:=⟨X,1,none⟩) (by first |(simp;done)|(have:=HX.out;simp;omega)) (.string A2)).setCell (p:=⟨X,2,none⟩) (by first |(simp;done)|(have:=HX.out;simp;omega)) (.bool A3)).setCell (p:=⟨X,3,none⟩) (by first |(simp;done)|(have:=HX.out;simp;omega)) (.int .u64 A4)).setCell (p:=⟨X,4,none⟩) (by first |(simp;done)|(have:=HX.out;simp;omega)) (.string A5))));
       clear bq hin;
       go_wp2_with fail;
       have k1:=K1.out;
       have k2:=K2.out;
       clear q0 q1 q2 q3 q4 f0 f1 f2 f3 f4 ql K1 K2;
       (generalize (((((w1.setCell ⟨X,0,none⟩ (.int .u64 A1)).setCell ⟨X,1,none⟩ (.string A2)).setCell ⟨X,2,none⟩ (.bool A3)).setCell ⟨X,3,none⟩ (.int .u64 A4)).setCell ⟨X,4,none⟩ (.string A5))=W5 at *);
       (have e0:W5.cell? ⟨X,0,none⟩=some (.int .u64 A1):=k1.cell 0);
       (have e1:W5.cell? ⟨X,1,none⟩=some (.string A2):=k1.cell 1);
       (have e2:W5.cell? ⟨X,2,none⟩=some (.bool A3):=k1.cell 2);
       (have e3:W5.cell? ⟨X,3,none⟩=some (.int .u64 A4):=k1.cell 3);
       (have e4:W5.cell? ⟨X,4,none⟩=some (.string A5):=k1.cell 4);
       have hz:=k2.bel;
       have hA:=HA.out;
       (refine bodyPost_ret (v:=.agg #[.int .u64 A1,.string A2,.bool A3,.int .u64 A4,.string A5]) ?_ rfl ⟨by rw[hA],by rw[←HX.out];exact hz⟩);
       (simp[results,Tryz.results110,go_sem,e0,e1,e2,e3,e4]))
 ·have k1:((i:Int) != k)=true:=by
   have:¬ (i:Int)=k:=by omega
   simpa using this
  rw[if_neg h]
  clear h hone c1
  go_enter Tryz.func110,Tryz.ntmps110
  go_upto_region 1 with fail
  ((obtain⟨X,hXX⟩:∃ z,z=w.heap.size:=⟨_,rfl⟩);(have bV0:=(Bx.new_at w #[.int .u64 0,.string ⟨#[]⟩,.bool false,.int .u64 0,.string ⟨#[]⟩] 72 (n:=X) (by simp[hXX])));(have hV:=((In.self w).alloc (.cells #[.int .u64 0,.string ⟨#[]⟩,.bool false,.int .u64 0,.string ⟨#[]⟩] 72)));(rw[←hXX] at hV ⊢);(have HX:=Lib.hid hXX);clear hXX;(generalize w.alloc (.cells #[.int .u64 0,.string ⟨#[]⟩,.bool false,.int .u64 0,.string ⟨#[]⟩] 72)=V at *))
  have hin:=hV
  have bq:=bV0
  clear hV bV0
  ((have q0
       :=bq.c0);
       have q1:=bq.c1;
       have q2:=bq.c2;
       have q3:=bq.c3;
       have q4:=bq.c4;
       (have f0:=bq.frozen 0);
       (have f1:=bq.frozen 1);
       (have f2:=bq.frozen 2);
       (have f3:=bq.frozen 3);
       (have f4:=bq.frozen 4);
       have ql:=bq.lt;
       (have K1:=Lib.hid ((((((bq.set 0 (.int .u64 0)).set 1 (.string ⟨#[]⟩)).set 2 (.bool false)).set 3 (.int .u64 0)).set 4 (.string ⟨#[]⟩))));
       (have K2:=Lib.hid ((((((hin.setCell (p:=⟨X,0,none⟩) (by first |(simp;done)|(have:=HX.out;simp;omega)) (.int .u64 0)).setCell (p:=⟨X,1,none⟩) (by first |(simp;done)|(have:=HX.out;simp;omega)) (.string ⟨#[]⟩)).setCell (p:=⟨X,2,none⟩) (by first |(simp;done)|(have:=HX.out;simp;omega)) (.bool false)).setCell (p:=⟨X,3,none⟩) (by first |(simp;done)|(have:=HX.out;simp;omega)) (.int .u64 0)).setCell (p:=⟨X,4,none⟩) (by first |(simp;done)|(have:=HX.out;simp;omega)) (.string ⟨#[]⟩))));
       clear bq hin;
       go_wp2_with fail;
       have k1:=K1.out;
       have k2:=K2.out;
       clear q0 q1 q2 q3 q4 f0 f1 f2 f3 f4 ql K1 K2;
       (generalize (((((V.setCell ⟨X,0,none⟩ (.int .u64 0)).setCell ⟨X,1,none⟩ (.string ⟨#[]⟩)).setCell ⟨X,2,none⟩ (.bool false)).setCell ⟨X,3,none⟩ (.int .u64 0)).setCell ⟨X,4,none⟩ (.string ⟨#[]⟩))=W5 at *);
       (have e0:W5.cell? ⟨X,0,none⟩=some (.int .u64 0):=k1.cell 0);
       (have e1:W5.cell? ⟨X,1,none⟩=some (.string ⟨#[]⟩):=k1.cell 1);
       (have e2:W5.cell? ⟨X,2,none⟩=some (.bool false):=k1.cell 2);
       (have e3:W5.cell? ⟨X,3,none⟩=some (.int .u64 0):=k1.cell 3);
       (have e4:W5.cell? ⟨X,4,none⟩=some (.string ⟨#[]⟩):=k1.cell 4);
       have hz:=k2.bel;
       (refine bodyPost_ret (v:=.agg #[.int .u64 0,.string ⟨#[]⟩,.bool false,.int .u64 0,.string ⟨#[]⟩]) ?_ rfl ⟨rfl,by rw[←HX.out];exact hz⟩);
       (simp[results,Tryz.results110,go_sem,e0,e1,e2,e3,e4]))
set_option maxRecDepth 100000 in
set_option maxHeartbeats 2000000 in
theorem mone_any (w:World) (n:Nat) (hn:n≤2048) :
  Calls Tryz.prog 64 #[.int .i64 (n:Nat)] w fun e w'=>(∃ d,e=.returned (.tuple #[d,.int .i64 0])∧MatS w' d n n oneF)∧Below w.heap.size w w':=by
 have eg:∀ args w,(callFunc 110 args).run Tryz.prog w=.ok (.enter 110 args) w:=enters_of Tryz.func110 (by kernel_rfl) rfl
 have h1:=fun W=>make_str oneF W n n 110 #[] eg hn hn (fun i k W2 _ _ _=>mone1_any W2 i k)
 go_enter Tryz.func64,Tryz.ntmps64
 go_upto_region 1 with fail
 ((obtain⟨X,hXX⟩:∃ z,z=w.heap.size:=⟨_,rfl⟩);(have bV0:=(Bx.new_at w #[.int .i64 0,.int .i64 0,.slice none 0 0] 37 (n:=X) (by simp[hXX])));(have hV:=((In.self w).alloc (.cells #[.int .i64 0,.int .i64 0,.slice none 0 0] 37)));(rw[←hXX] at hV ⊢);(have HX:=Lib.hid hXX);clear hXX;(generalize w.alloc (.cells #[.int .i64 0,.int .i64 0,.slice none 0 0] 37)=V at *))
 go_wp2_with fail
 ((with_reducible refine(h1 _).mono ?_))
 rintro e w6 ⟨⟨d,rfl,hd⟩,hb⟩
 have hin:=hV.call hb
 have bq:=bV0.call hb
 obtain⟨ad,N,kd,hN,rfl⟩:=hd.shape
 clear hb h1 hN hV bV0
 ((have K5:=Lib.hid (hd.put3 (p':=((n:Nat):Int)) (q':=((n:Nat):Int)) (ao':=ad) (n':=N) (k':=kd) bq));
       have r0:=bq.c0;
       have r1:=bq.c1;
       have r2:=bq.c2;
       (have f0:=bq.frozen 0);
       (have f1:=bq.frozen 1);
       (have f2:=bq.frozen 2);
       have ql:=bq.lt;
       (have K1:=Lib.hid (((bq.set 0 (.int .i64 ((n:Nat):Int))).set 1 (.int .i64 ((n:Nat):Int))).set 2 (.slice ad N kd)));
       (have K2:=Lib.hid (((hin.setCell (p:=⟨X,0,none⟩) (by first |(simp;done)|(have:=HX.out;simp;omega)) (.int .i64 ((n:Nat):Int))).setCell (p:=⟨X,1,none⟩) (by first |(simp;done)|(have:=HX.out;simp;omega)) (.int .i64 ((n:Nat):Int))).setCell (p:=⟨X,2,none⟩) (by first |(simp;done)|(have:=HX.out;simp;omega)) (.slice ad N kd)));
       clear bq hin hd;
       go_wp2_with fail;
       have k1:=K1.out;
       have k2:=K2.out;
       have hm:=K5.out;
       clear r0 r1 r2 f0 f1 f2 ql K1 K2 K5;
       (generalize (((w6.setCell ⟨X,0,none⟩ (.int .i64 ((n:Nat):Int))).setCell ⟨X,1,none⟩ (.int .i64 ((n:Nat):Int))).setCell ⟨X,2,none⟩ (.slice ad N kd))=W9 at *);
       (have e0:W9.cell? ⟨X,0,none⟩=some (.int .i64 ((n:Nat):Int)):=k1.cell 0);
       (have e1:W9.cell? ⟨X,1,none⟩=some (.int .i64 ((n:Nat):Int)):=k1.cell 1);
       (have e2:W9.cell? ⟨X,2,none⟩=some (.slice ad N kd):=k1.cell 2);
       have hz:=k2.bel;
       (refine bodyPost_ret (v:=.tuple #[.agg #[.int .i64 ((n:Nat):Int),.int .i64 ((n:Nat):Int),.slice ad N kd],.int .i64 0]) ?_ rfl ⟨⟨_,rfl,hm⟩,by rw[←HX.out];exact hz⟩);
       (simp[results,Tryz.results64,go_sem,e0,e1,e2]))
set_option maxRecDepth 100000 in
set_option maxHeartbeats 2000000 in
theorem epart1_any (W:World) (B C lo p R m cols rc from_ i k:Nat) (ra:Option Addr) (pv:Value) (f:Nat→Nat) (s:El) (hP:Bx W B 130 [.pointer (some ⟨p,0,none⟩)]) (hC:Bx W C 3 [.int .i64 (from_:Nat)]) (el:ElAt W lo p R m cols ra rc pv f s) (hi:i<R) (hk:from_+k<m) (hm:m≤4096) :
  Calls Tryz.prog 113 #[.int .i64 (i:Nat),.int .i64 (k:Nat),.pointer (some ⟨B,0,none⟩),.pointer (some ⟨C,0,none⟩)] W fun e w'=>e=.returned (fracV (s.M i (from_+k)))∧Below W.heap.size W w':=by
 obtain⟨rb,cs,rfl,hrb,hBr,hci⟩:=el.rw.rows i hi
 have hrow:=el.rw.row i hi
 have hbox:=el.box
 have hrc:=el.rcap
 obtain⟨t,ht⟩:∃ t,t=from_+k:=⟨_,rfl⟩
 rw[←ht] at hk ⊢
 have iw:IntKind.i64.wrap ((from_:Int)+k)=(t:Int):=by rw[show((from_:Int)+k)=(t:Int) by omega];exact IntWalk.i64_in _ (by omega)
 have iI:(i:Int)<R:=by omega
 have i0:(0:Int)≤i:=by omega
 have tI:(t:Int)<m:=by omega
 have t0:(0:Int)≤t:=by omega
 obtain⟨v,hv⟩:∃ v,v=s.M i t:=⟨_,rfl⟩
 obtain⟨B1,B2,B3,B4,B5,hB,hB'⟩:∃ A1 A2 A3 A4 A5,fracV v=.agg #[.int .u64 A1,.string A2,.bool A3,.int .u64 A4,.string A5]∧fcs v=[.int .u64 A1,.string A2,.bool A3,.int .u64 A4,.string A5]:=⟨_,_,_,_,_,rfl,rfl⟩
 obtain⟨c0,c1,c2,c3,c4⟩:=VBx.eltc hrow hk (by rw[←hv];exact hB')
 have rc0:=(hBr.cell i).trans hci
 have rl:=hBr.lt
 have fl:=hrow.lt
 have x0:=hP.c0
 have xl:=hP.lt
 have y0:=hC.c0
 have yl:=hC.lt
 have b0:=hbox.c0
 have bl:=hbox.lt
 have hin:=In.self W
 rw[←hv,hB]
 clear ht hv hB hB' hci hrow hbox hBr hC el hP
 go_enter Tryz.func113,Tryz.ntmps113
 go_upto_region 1 with fail
 ((obtain⟨X,hXX⟩:∃ z,z=W.heap.size:=⟨_,rfl⟩);(have bV0:=(Bx.new_at W #[.int .u64 0,.string ⟨#[]⟩,.bool false,.int .u64 0,.string ⟨#[]⟩] 72 (n:=X) (by simp[hXX])));(have hV:=((In.self W).alloc (.cells #[.int .u64 0,.string ⟨#[]⟩,.bool false,.int .u64 0,.string ⟨#[]⟩] 72)));(rw[←hXX] at hV ⊢);(have HX:=Lib.hid hXX);clear hXX;(generalize W.alloc (.cells #[.int .u64 0,.string ⟨#[]⟩,.bool false,.int .u64 0,.string ⟨#[]⟩] 72)=V at *))
 rw[HX.out] at hV
 have hcc:=hV.cell
 rw[←hcc _ _ fl] at c0 c1 c2 c3 c4
 rw[←hcc _ _ rl] at rc0
 rw[←hcc _ _ bl] at b0
 rw[←hcc _ _ xl] at x0
 rw[←hcc _ _ yl] at y0
 have hsz:=hV.siz
 replace fl:=Nat.lt_of_lt_of_le fl hsz
 replace rl:=Nat.lt_of_lt_of_le rl hsz
 replace bl:=Nat.lt_of_lt_of_le bl hsz
 replace xl:=Nat.lt_of_lt_of_le xl hsz
 replace yl:=Nat.lt_of_lt_of_le yl hsz
 clear hcc hsz
 have h:=In.self V
 have hc:=h.cell
 refine tfw 12 ?_;refine tset ?_;(repeat (first | refine tfs ?_))
 (try clear hc hf h);intro u w' h ha hdi;replace h:=tsz h.ins;replace ha:=tah ha;have hc:=h.cell;have hf:=h.frozen
 (try obtain ha:=ha);(try dsimp only);simp only[ha];clear ha hdi
 replace hin:=hV.call h.bel
 have bq:=bV0.call h.bel
 clear hc hf h hV bV0 c0 c1 c2 c3 c4 rc0 b0 x0 y0 fl rl bl xl yl
 (have q0:=bq.c0;have q1:=bq.c1;have q2:=bq.c2;have q3:=bq.c3;have q4:=bq.c4;(have f0:=bq.frozen 0);(have f1:=bq.frozen 1);(have f2:=bq.frozen 2);(have f3:=bq.frozen 3);(have f4:=bq.frozen 4);have ql:=bq.lt;(have K1:=Lib.hid ((((((bq.set 0 (.int .u64 B1)).set 1 (.string B2)).set 2 (.bool B3)).set 3 (.int .u64 B4)).set 4 (.string B5))));(have K2:=Lib.hid ((((((hin.setCell (p:=⟨X,0,none⟩) (by first |(simp;done)|(have:=HX.out;simp;omega)) (.int .u64 B1)).setCell (p:=⟨X,1,none⟩) (by first |(simp;done)|(have:=HX.out;simp;omega)) (.string B2)).setCell (p:=⟨X,2,none⟩) (by first |(simp;done)|(have:=HX.out;simp;omega)) (.bool B3)).setCell (p:=⟨X,3,none⟩) (by first |(simp;done)|(have:=HX.out;simp;omega)) (.int .u64 B4)).setCell (p:=⟨X,4,none⟩) (by first |(simp;done)|(have:=HX.out;simp;omega)) (.string B5))));clear bq hin;go_wp2_with fail;have k1:=K1.out;have k2:=K2.out;clear q0 q1 q2 q3 q4 f0 f1 f2 f3 f4 ql K1 K2;(generalize ((((w'.setCell ⟨X,0,none⟩ (.int .u64 B1)).setCell ⟨X,1,none⟩ (.string B2)).setCell ⟨X,2,none⟩ (.bool B3)).setCell ⟨X,3,none⟩ (.int .u64 B4)).setCell ⟨X,4,none⟩ (.string B5)=W5 at *);(have e0:W5.cell? ⟨X,0,none⟩=some (.int .u64 B1):=k1.cell 0);(have e1:W5.cell? ⟨X,1,none⟩=some (.string B2):=k1.cell 1);(have e2:W5.cell? ⟨X,2,none⟩=some (.bool B3):=k1.cell 2);(have e3:W5.cell? ⟨X,3,none⟩=some (.int .u64 B4):=k1.cell 3);(have e4:W5.cell? ⟨X,4,none⟩=some (.string B5):=k1.cell 4);have hz:=k2.bel;(refine bodyPost_ret (v:=.agg #[.int .u64 B1,.string B2,.bool B3,.int .u64 B4,.string B5]) ?_ rfl ⟨rfl,hz⟩);(simp[results,Tryz.results113,go_sem,e0,e1,e2,e3,e4]))
end Gus
end
section
namespace Gus
open Go Go.RowKit Go.Proofs
def MsQ (r c:Nat) (F:Mx) (d:Value) (e:Int) (w:World):Prop:=e=0∧MatS w d r c F
theorem stable_msq (r c:Nat) (F:Mx):Stable (TupR (MsQ r c F)):=stable_tup fun _ _ _ _ h hs=>⟨h.1,h.2.call hs⟩
theorem MatS.tup {w:World} {d:Value} {r c:Nat} {F:Mx} (h:MatS w d r c F):TupR (MsQ r c F) (.tuple #[d,.int .i64 0]) w:=by
 obtain⟨a,n,k,_,he⟩:=h.shape
 exact⟨⟨_,_,_,_,_,_,by rw[he]⟩,_,_,rfl,rfl,h⟩
theorem make_tup (F:Nat→Nat→Rat) (w:World) (r c:Nat) (g0:Nat) (cb:Array Value) (eg:∀ args w,(callFunc g0 args).run Tryz.prog w=.ok (.enter g0 args) w) (hr:r≤2048) (hc:c≤2048)
  (hcl:∀ i k W,i<r→k<c→In w.heap.size w W→Calls Tryz.prog g0 (#[.int .i64 (i:Nat),.int .i64 (k:Nat)] ++ cb) W fun e w'=>e=.returned (fracV (F i k))∧Below W.heap.size W w') :
  Calls Tryz.prog 100 #[.int .i64 r,.int .i64 c,.func (.func g0) #[] cb] w fun e w'=>(∃ d,e=.returned d∧TupR (MsQ r c F) d w')∧Below w.heap.size w w':=
 (make_str F w r c g0 cb eg hr hc hcl).mono fun _ _ ⟨⟨_,h1,h2⟩,h3⟩=>⟨⟨_,h1,h2.tup⟩,h3⟩
theorem MatS.congr {w:World} {d:Value} {r c:Nat} {F G:Mx} (h:MatS w d r c F) (he:∀ i k,i<r→k<c→F i k=G i k):MatS w d r c G:=by
 obtain⟨g,n,h1,h2,h3⟩:=h
 refine⟨g,n,h1,h2, ?_⟩
 rw[show dense r c G=dense r c F from List.map_congr_left fun p hp=>by
  obtain⟨a1,a2,_⟩:=pos_split (List.mem_range.1 hp)
  exact(he _ _ a1 a2).symm]
 exact h3
set_option maxRecDepth 100000 in
set_option maxHeartbeats 4000000 in
theorem epart_any (w:World) (lo p R m cols rc a b c:Nat) (ra:Option Addr) (pv:Value) (f:Nat→Nat) (s:El) (el:ElAt w lo p R m cols ra rc pv f s) (hab:a+c=b) (hb:b≤m) (hR:R≤2048) (hm:m≤4096) (hc:c≤2048) :
  Calls Tryz.prog 68 #[.pointer (some ⟨p,0,none⟩),.int .i64 (a:Nat),.int .i64 (b:Nat)] w fun e w'=>(∃ d,e=.returned d∧MatS w' d R c fun i k=>s.M i (a+k))∧Below w.heap.size w w':=by
 have eg:∀ args w,(callFunc 113 args).run Tryz.prog w=.ok (.enter 113 args) w:=enters_of Tryz.func113 (by kernel_rfl) rfl
 have iw:IntKind.i64.wrap ((b:Int) - a)=(c:Int):=by rw[show((b:Int) - a)=(c:Int) by omega];exact IntWalk.i64_in _ (by omega)
 have hin:=In.self w
 go_enter Tryz.func68,Tryz.ntmps68
 go_upto_region 1 with fail
 ((obtain⟨X,hXX⟩:∃ z,z=w.heap.size:=⟨_,rfl⟩);(have bV0:=(((Bx.new_at w #[.pointer (some ⟨p,0,none⟩)] 130 (n:=X) (by simp[hXX])).alloc (.cells #[.int .i64 (a:Nat)] 3)).alloc (.cells #[.int .i64 0,.int .i64 0,.slice none 0 0] 37)));(have bV1:=((Bx.new_at (w.alloc (.cells #[.pointer (some ⟨p,0,none⟩)] 130)) #[.int .i64 (a:Nat)] 3 (n:=X+1) (by simp[hXX])).alloc (.cells #[.int .i64 0,.int .i64 0,.slice none 0 0] 37)));(have bV2:=(Bx.new_at ((w.alloc (.cells #[.pointer (some ⟨p,0,none⟩)] 130)).alloc (.cells #[.int .i64 (a:Nat)] 3)) #[.int .i64 0,.int .i64 0,.slice none 0 0] 37 (n:=X+1+1) (by simp[hXX])));(have hV:=((((In.self w).alloc (.cells #[.pointer (some ⟨p,0,none⟩)] 130)).alloc (.cells #[.int .i64 (a:Nat)] 3)).alloc (.cells #[.int .i64 0,.int .i64 0,.slice none 0 0] 37)));(rw[←hXX] at hV ⊢);(have HX:=Lib.hid hXX);clear hXX;(generalize ((w.alloc (.cells #[.pointer (some ⟨p,0,none⟩)] 130)).alloc (.cells #[.int .i64 (a:Nat)] 3)).alloc (.cells #[.int .i64 0,.int .i64 0,.slice none 0 0] 37)=V at *))
 have hV0:=hV
 rw[HX.out] at hV0
 replace el:=el.call hV0.bel
 clear hV0 hin
 have cm:=fun W (h:In V.heap.size V W)=>make_tup (fun i k=>s.M i (a+k)) W R c 113 #[.pointer (some ⟨X,0,none⟩),.pointer (some ⟨X+1,0,none⟩)] eg hR hc (fun i k W2 hi hk h2=>epart1_any W2 X (X+1) lo p R m cols rc a i k ra pv f s ((bV0.call h.bel).call h2.bel) ((bV1.call h.bel).call h2.bel) ((el.call h.bel).call h2.bel) hi (by omega) hm)
 have hbox:=el.box
 (have x0:=bV0.c0;have xl:=bV0.lt)
 (have y0:=bV1.c0;have yl:=bV1.lt)
 have b0:=hbox.c0
 have bl:=hbox.lt
 clear hbox
 have h:=In.self V;have hc:=h.cell;have hf:=h.frozen;refine tfw 14 ?_;refine tset ?_;(repeat (first | refine tfs ?_))
 (with_reducible refine flow_rel (Vi:=TupR (MsQ R c fun i k=>s.M i (a+k))) false ?_ ?_ ?_ ?_ ?_ ?_);(focus rfl);(focus rfl);(focus exact stable_msq _ _ _);(focus exact placed_false _);(focus (intro u w1 hw hd;replace hd:=thn hd;have hc':=hw.cell;go_simp;(try simp only[okUpon]);go_at_call 100;((with_reducible refine(cm _ hw.ins).mono ?_));rintro e w'' ⟨⟨v,rfl,hv⟩,hb⟩;exact⟨v,rfl,⟨hv,fun h=>by cases h⟩,hb⟩))
 (((with_reducible refine flow_link (k:=9) (R:=MvR) ?_ ?_ ?_ ?_);(focus rfl);(focus rfl);(focus (intro u w1 hw hd;replace hd:=thn hd;obtain⟨⟨n,m,a,l,k,e,h3⟩,_⟩:=hd;exact⟨u 9,fun w2=>(by go_simp),rfl,n,m,a,l,k,e,h3⟩)));((with_reducible refine flow_link (k:=10) (R:=FstR) ?_ ?_ ?_ ?_);(focus rfl);(focus rfl);(focus (intro u w1 hw hd;replace hd:=thn hd;obtain⟨h4,n,m,a,l,k,e,h5⟩:=hd;exact⟨.agg #[.int .i64 n,.int .i64 m,.slice a l k],fun w2=>(by clear h4;go_simp),n,m,a,l,k,e,h5,rfl⟩)));((with_reducible refine flow_link (k:=10) (R:=SndR) ?_ ?_ ?_ ?_);(focus rfl);(focus rfl);(focus (intro u w1 hw hd;replace hd:=thn hd;obtain⟨h4,n,m,a,l,k,e,h5⟩:=hd;exact⟨.int .i64 e,fun w2=>(by clear h4;go_simp),n,m,a,l,k,e,h5,rfl⟩))))
 (repeat (first | refine tfs ?_))
 (try clear hc hf h);intro u w' h ha hdi;replace h:=tsz h.ins;replace ha:=tah ha;have hc:=h.cell;have hf:=h.frozen;clear hdi hc hf;rename World=>wf
 (try simp only[ext,Nat.reduceEqDiff,reduceIte] at ha)
 obtain⟨⟨⟨⟨⟨hA,htup⟩,hmv⟩,hfst⟩,hsnd⟩,E,hu,hE,bE⟩:=ha
 obtain⟨n1,m1,a9,l9,k9,e9,hx1,hx2,h13,h14,he9,hms⟩:=tup_out htup hmv hfst hsnd
 subst he9
 obtain⟨ad,N,kd,hN,hagg⟩:=hms.shape
 rw[hagg] at hms h13
 (try dsimp only)
 simp only[hA,h13,h14,hu]
 clear hA h13 h14 hu htup hmv hfst hsnd hx1 hx2 hagg hN
 have KM:=Lib.hid (hms.put3 (p':=(R:Nat)) (q':=(c:Nat)) (ao':=ad) (n':=N) (k':=kd) bE)
 clear hms
 (have p0:=bE.c0;have p1:=bE.c1;have p2:=bE.c2;(have pf0:=bE.frozen 0);(have pf1:=bE.frozen 1);(have pf2:=bE.frozen 2);have pl:=bE.lt;(have KS:=Lib.hid (((bE.set 0 (.int .i64 (R:Nat))).set 1 (.int .i64 (c:Nat))).set 2 (.slice ad N kd)));(have KH:=Lib.hid (((h.setCell (p:=⟨E,0,none⟩) (by first | exact hE |(simp;omega)) (.int .i64 (R:Nat))).setCell (p:=⟨E,1,none⟩) (by first | exact hE |(simp;omega)) (.int .i64 (c:Nat))).setCell (p:=⟨E,2,none⟩) (by first | exact hE |(simp;omega)) (.slice ad N kd)));clear h bE;(go_upto_region 2 with fail);have hb:=KH.out.bel;have bE:=KS.out;simp only[List.set] at bE;clear x0 xl y0 yl b0 bl;replace hV:=hV.call hb;replace el:=el.call hb;replace bV0:=bV0.call hb;replace bV1:=bV1.call hb;replace bV2:=bV2.call hb;clear KS KH hb pl p0 p1 p2 pf0 pf1 pf2;(generalize ((wf.setCell ⟨E,0,none⟩ (.int .i64 (R:Nat))).setCell ⟨E,1,none⟩ (.int .i64 (c:Nat))).setCell ⟨E,2,none⟩ (.slice ad N kd)=W5 at *))
 have hd:=KM.out
 have hin:=hV
 have bq:=bV2
 (have z0:=bE.c0;have z1:=bE.c1;have z2:=bE.c2;have zl:=bE.lt)
 clear KM hV bV0 bV1 bV2 el cm
 ((have K5:=Lib.hid (hd.put3 (p':=((R:Nat):Int)) (q':=((c:Nat):Int)) (ao':=ad) (n':=N) (k':=kd) bq));
       have r0:=bq.c0;
       have r1:=bq.c1;
       have r2:=bq.c2;
       (have f0:=bq.frozen 0);
       (have f1:=bq.frozen 1);
       (have f2:=bq.frozen 2);
       have ql:=bq.lt;
       (have K1:=Lib.hid (((bq.set 0 (.int .i64 ((R:Nat):Int))).set 1 (.int .i64 ((c:Nat):Int))).set 2 (.slice ad N kd)));
       (have K2:=Lib.hid (((hin.setCell (p:=⟨(X+1+1),0,none⟩) (by first |(simp;done)|(have:=HX.out;simp;omega)) (.int .i64 ((R:Nat):Int))).setCell (p:=⟨(X+1+1),1,none⟩) (by first |(simp;done)|(have:=HX.out;simp;omega)) (.int .i64 ((c:Nat):Int))).setCell (p:=⟨(X+1+1),2,none⟩) (by first |(simp;done)|(have:=HX.out;simp;omega)) (.slice ad N kd)));
       clear bq hin hd;
       go_wp2_with fail;
       have k1:=K1.out;
       have k2:=K2.out;
       have hm:=K5.out;
       clear r0 r1 r2 f0 f1 f2 ql K1 K2 K5;
       (generalize (((W5.setCell ⟨(X+1+1),0,none⟩ (.int .i64 ((R:Nat):Int))).setCell ⟨(X+1+1),1,none⟩ (.int .i64 ((c:Nat):Int))).setCell ⟨(X+1+1),2,none⟩ (.slice ad N kd))=W9 at *);
       (have e0:W9.cell? ⟨(X+1+1),0,none⟩=some (.int .i64 ((R:Nat):Int)):=k1.cell 0);
       (have e1:W9.cell? ⟨(X+1+1),1,none⟩=some (.int .i64 ((c:Nat):Int)):=k1.cell 1);
       (have e2:W9.cell? ⟨(X+1+1),2,none⟩=some (.slice ad N kd):=k1.cell 2);
       have hz:=k2.bel;
       (refine bodyPost_ret (v:=.agg #[.int .i64 ((R:Nat):Int),.int .i64 ((c:Nat):Int),.slice ad N kd]) ?_ rfl ⟨⟨_,rfl,hm⟩,by rw[←HX.out];exact hz⟩);
       (simp[results,Tryz.results68,go_sem,e0,e1,e2]))
end Gus
end
section
namespace Gus
open Go Go.RowKit Go.Proofs
def zl (l:List Nat):List Int:=l.map fun k=>((k:Nat):Int)
theorem zl_length (l:List Nat):(zl l).length=l.length:=by simp[zl]
theorem zl_getD {l:List Nat} {i:Nat} (h:i<l.length):(zl l).getD i 0=((l.getD i 0:Nat):Int):=by
 simp[zl,List.getD_eq_getElem?_getD,List.getElem?_eq_getElem h]
set_option maxRecDepth 100000 in
set_option maxHeartbeats 4000000 in
theorem vpart_ok (w:World) (x:Value) (n:Nat) (b:Vc) (hx:VecAt w x (vl n b)) (a:Option Addr) (ca:Nat) (l:List Nat) (hl:IntsAt w a (zl l)) (hlt:∀ i∈l,i<n) (hn:n≤2048) (hL:l.length≤2048) :
  Calls Tryz.prog 36 #[x,.slice a l.length ca] w fun e w'=>(∃ d,e=.returned (.tuple #[d,.int .i64 0])∧VecAt w' d (vl l.length (rs l b)))∧Below w.heap.size w w':=by
 have HX0:=Lib.hid hx
 obtain⟨xa,xk,rfl⟩:=hx.shape
 rw[vl_length] at HX0 ⊢
 have HI:=Lib.hid hl
 have HLT:=Lib.hid hlt
 obtain⟨L,hLL⟩:∃ L,L=l.length:=⟨_,rfl⟩
 rw[←hLL] at hL ⊢
 have HL:=Lib.hid hLL
 have hmk:=mk_vec L (by omega)
 obtain⟨fc,hfc⟩:∃ fc,fc=fcl (List.replicate L 0):=⟨_,rfl⟩
 rw[←hfc] at hmk
 have HF:=Lib.hid hfc
 have k1:¬ (2048:Int)<max (n:Int) L:=by omega
 obtain⟨g,hg⟩:∃ g,g=w.heap.size:=⟨_,rfl⟩
 have HG:=Lib.hid hg
 have bv:VBx (w.alloc (.cells fc.toArray 72)) g (pv (rs l b) L 0):=by
  have:=Bx.new_at w fc.toArray 72 hg
  show Bx _ g 72 (fcl _)
  rw[pv_zero,←HF.out];exact this
 have hin:=(In.self w).alloc (.cells fc.toArray 72)
 clear hx hl hlt hLL hfc
 go_enter Tryz.func36,Tryz.ntmps36
 go_upto_region 4 with fail
 rw[←hg]
 clear hg hmk k1
 generalize w.alloc (.cells fc.toArray 72)=W1 at *
 go_wp2_with fail
 go_loopw [20] (fun v20 wr=>∃ k:Nat,k≤L∧v20=.int .i64 k∧In w.heap.size w wr∧VBx wr g (pv (rs l b) L k)) (fun v20 _=>L - (RowKit.intOf v20).toNat)
 case atStart=>exact⟨0,Nat.zero_le _,rfl,hin,bv⟩
 case round=>
  clear hin bv
  obtain⟨k,hk,rfl,hin,bv⟩:=hrel
  by_cases hkL:k<L
  ·have hkI:(k:Int)<L:=by omega
   have hk0:(0:Int)≤k:=by omega
   have hkw:IntKind.i64.wrap ((k:Int)+1)=((k+1:Nat):Int):=IntWalk.i64_in _ (by omega)
   have hkl:k<l.length:=by rw[←HL.out];exact hkL
   obtain⟨pb,po,rfl,hpb,hpc⟩:=HI.out k (by rw[zl_length];exact hkl)
   rw[zl_getD hkl] at hpc
   have hpn:l.getD k 0<n:=HLT.out _ (getD_in hkl)
   obtain⟨p,hp⟩:∃ p,p=l.getD k 0:=⟨_,rfl⟩
   rw[←hp] at hpc hpn
   have hpI:¬ (n:Int)≤p:=by omega
   have hpI2:(p:Int)<n:=by omega
   have hp0:¬ (p:Int)<0:=by omega
   have hp1:(0:Int)≤p:=by omega
   obtain⟨q,hq⟩:∃ q,q=rs l b k:=⟨_,rfl⟩
   have hqe:(vl n b).getD p 0=q:=by rw[vl_getD b hpn,hq,hp];rfl
   obtain⟨xb,xo,_,B1,B2,B3,B4,B5,e1,hxb,hf1,hf2,y0,y1,y2,y3,y4⟩:=HX0.out.at (i:=p) (by rw[vl_length];exact hpn)
   rw[hqe] at hf1 hf2
   simp only[Value.slice.injEq] at e1
   obtain⟨rfl,-,-⟩:=e1
   rw[←hin.cell xb _ hxb] at y0 y1 y2 y3 y4
   rw[←hin.cell pb _ hpb] at hpc
   have hbw1:xb<wr.heap.size:=by have:=hin.siz;omega
   have hbw2:pb<wr.heap.size:=by have:=hin.siz;omega
   have hlt:k<(pv (rs l b) L k).length:=by rw[pv_length];exact hkL
   obtain⟨_,_,_,_,_,_,c0,c1,c2,c3,c4,f0,f1,f2,f3,f4⟩:=VBx.cells bv hlt
   have hgl:=bv.lt
   have hs:=VBx.setA bv k q hlt hf1
   rw[show(pv (rs l b) L k).set k q=pv (rs l b) L (k+1) by rw[hq];exact pv_set _ _ _] at hs
   have H1:=Lib.hid hs
   have H2:=Lib.hid (hin.grown (gr_putA wr g k (.int .u64 B1) (.string B2) (.bool B3) (.int .u64 B4) (.string B5)) (Nat.le_of_eq HG.out.symm))
   clear hs hin bv hq hqe hp hf1 hf2 hkl hpn
   go_wp2_with fail
   exact⟨⟨k+1,by omega,by go_num,H2.out,H1.out⟩,by simp[RowKit.intOf];omega⟩
  ·obtain rfl:k=L:=by omega
   have hkI:¬ (k:Int)<k:=by omega
   rw[pv_full] at bv
   have hv:VecAt wr (.slice (some ⟨g,0,none⟩) k k) (vl k (rs l b)):=VBx.at bv k (by simp) k
   have H1:=Lib.hid hv
   have H2:=Lib.hid hin
   clear bv hin hv
   go_wp2_with fail
   exact bodyPost_ret (v:=.tuple #[.slice (some ⟨g,0,none⟩) k k,.int .i64 0]) (by simp[results,Tryz.results36,go_sem]) rfl ⟨⟨_,rfl,H1.out⟩,H2.out.bel⟩
end Gus
end
