/- Proved here: parts of the proof: KSqz KSra. Conditions: those that each theorem states. -/
import Derived.Test.YthblojaeoiemmaaGreatDoorKSqwQ
section
namespace Gus
open Go Go.RowKit Go.Proofs
def rawT (n:Nat) (t:TQ):Nat×Nat×Rat:=(t.1 % n,t.2.1 % n,qOf t.2.2.1 t.2.2.2)
def rawM (n:Nat) (l:List TQ):Nat→Nat→Rat:=foldA (fun _ _=>0) (l.map (rawT n))
theorem take_snoc2 {α:Type} (l:List α) (d:α) {p:Nat} (h:p<l.length):l.take (p+1)=l.take p ++ [l.getD p d]:=by
 rw[List.take_add_one,List.getElem?_eq_getElem h,List.getD_eq_getElem?_getD,List.getElem?_eq_getElem h];rfl
theorem rawM_succ (n:Nat) (l:List TQ) (d:TQ) {p:Nat} (h:p<l.length):rawM n (l.take (p+1))=addF (rawM n (l.take p)) (rawT n (l.getD p d)):=by
 unfold rawM foldA
 rw[take_snoc2 l d h,List.map_append,List.foldl_append];rfl
theorem rawM_szk {n j:Nat} {l:List TQ} (hz:∀ t∈l,SzK j (qOf t.2.2.1 t.2.2.2)) (p:Nat) (a c:Nat):SzK (1+p*(j+1)) (rawM n (l.take p) a c):=by
 have h:=SzK_foldAs (j:=j) (s:=1) (f:=fun _ _=>0) ((l.take p).map (rawT n)) (fun _ _=>SzK.zero) (fun x hx=>by
  obtain⟨t,ht,rfl⟩:=List.mem_map.1 hx
  exact hz t (List.mem_of_mem_take ht)) a c
 refine h.mono ?_
 rw[List.length_map,List.length_take]
 have:min p l.length*(j+1)≤p*(j+1):=Nat.mul_le_mul_right _ (Nat.min_le_left _ _)
 omega
set_option maxRecDepth 100000 in
set_option maxHeartbeats 8000000 in
theorem raw_any {j:Nat} (w:World) (N n most:Nat) (la:Option Addr) (lc:Nat) (l:List TQ) (hl:TAt w la l) (hok:TOk l) (hL:l.length≤64) (hN:N<256) (hm:most≤1000) (hn:n=N % (most+1)) (hz:∀ t∈l,SzK j (qOf t.2.2.1 t.2.2.2)) (hj:0<j) (hcap:j≤4000000000) :
  Calls Tryz.prog 21 #[.agg #[.int .u8 N,.slice la l.length lc],.int .i64 most] w fun e w'=>(∃ s,e=.returned s∧SpM w' s n n (rawM n l))∧Below w.heap.size w w':=by
 have h0:=fun W=>size_any N l.length lc most la hN hm W
 rw[←hn] at h0
 have hn2:n≤2048:=by have:=Nat.mod_lt N (show 0<most+1 by omega);omega
 have hn1:n≤1000:=by have:=Nat.mod_lt N (show 0<most+1 by omega);omega
 have h1:=new_ok n n hn2 hn2
 obtain⟨L,hLL⟩:∃ L,L=l.length:=⟨_,rfl⟩
 rw[←hLL] at h0 hL ⊢
 have HL:=Lib.hid hLL
 have HT:=Lib.hid hl
 have HO:=Lib.hid hok
 have HZ:=Lib.hid hz
 clear hLL hl hok hz hn
 go_enter Tryz.func21,Tryz.ntmps21
 go_upto_region 1 with fail
 ((obtain⟨X,hXX⟩:∃ z,z=w.heap.size:=⟨_,rfl⟩);(have bV0:=((Bx.new_at w #[.int .u8 N,.slice la L lc] 51 (n:=X) (by simp[hXX])).alloc (.cells #[.int .i64 0,.int .i64 0,.slice none 0 0] 27)));(have bV1:=(Bx.new_at (w.alloc (.cells #[.int .u8 N,.slice la L lc] 51)) #[.int .i64 0,.int .i64 0,.slice none 0 0] 27 (n:=X+1) (by simp[hXX])));(have hV:=(((In.self w).alloc (.cells #[.int .u8 N,.slice la L lc] 51)).alloc (.cells #[.int .i64 0,.int .i64 0,.slice none 0 0] 27)));(rw[←hXX] at hV ⊢);(have HX:=Lib.hid hXX);clear hXX;(generalize (w.alloc (.cells #[.int .u8 N,.slice la L lc] 51)).alloc (.cells #[.int .i64 0,.int .i64 0,.slice none 0 0] 27)=V at *))
 have x0:=bV0.c0;have x1:=bV0.c1;have xl:=bV0.lt
 go_wp2_with fail
 ((with_reducible refine(h0 _).mono ?_))
 rintro e w1 ⟨rfl,hb⟩
 have hin:=hV.call hb
 have bx:=bV0.call hb
 have br:=bV1.call hb
 clear hb hV bV0 bV1 h0 x0 x1 xl
 go_wp2_with fail
 ((with_reducible refine(h1 _).mono ?_))
 rintro e w2 ⟨b,rfl,hXb,hB,hb⟩
 have hYb:X+1<b:=by have:=br.lt;omega
 replace hin:=hin.call hb
 replace bx:=bx.call hb
 replace br:=br.call hb
 clear hb h1 hXb
 have x0:=bx.c0;have x1:=bx.c1;have xl:=bx.lt
 go_wp2_with fail
 go_loopw [8] (fun v8 wr=>∃ p:Nat,p≤L∧v8=.int .i64 p∧In X w wr∧Bx wr X 51 [.int .u8 N,.slice la L lc]∧Bx wr (X+1) 27 [.int .i64 0,.int .i64 0,.slice none 0 0]∧BB wr (b+1) b p n n (rawM n (l.take p))) (fun v8 _=>L - (RowKit.intOf v8).toNat)
 case atStart=>exact⟨0,Nat.zero_le _,rfl,hin,bx,br,hB⟩
 case round=>
  clear hin bx br hB x0 x1 xl
  obtain⟨p,hp,rfl,hin,bx,br,hB⟩:=hrel
  have x0:=bx.c0;have x1:=bx.c1;have xl:=bx.lt
  by_cases hpL:p<L∧0<n
  ·obtain⟨hpL,hn0⟩:=hpL
   have hpI:(p:Int)<L:=by omega
   have hnI:(0:Int)<n:=by omega
   have hnn:0<n:=hn0
   have hnn2:¬ ((n:Int)=0):=by omega
   have hnn3:¬ n=0:=by omega
   have hp0:(0:Int)≤p:=by omega
   have hpw:IntKind.i64.wrap ((p:Int)+1)=((p+1:Nat):Int):=IntWalk.i64_in _ (by omega)
   obtain⟨b2,off,rfl,hb2,c0,c1,c2,c3⟩:=HT.out p (by rw[←HL.out];exact hpL)
   have hpl:p<l.length:=by rw[←HL.out];exact hpL
   have hst:=rawM_succ n l (0,0,0,0) hpl
   have hmem:l.getD p (0,0,0,0)∈l:=by rw[List.getD_eq_getElem?_getD,List.getElem?_eq_getElem hpl];exact List.getElem_mem _
   have hto:=HO.out _ hmem
   have hzq:=HZ.out _ hmem
   obtain⟨⟨I,K,qn,qd⟩,ht⟩:∃ t,t=l.getD p (0,0,0,0):=⟨_,rfl⟩
   rw[←ht] at hst hto hzq c0 c1 c2 c3
   dsimp only at hto hzq c0 c1 c2 c3
   clear ht hmem hpl
   obtain⟨hI,hK,g1,g2,g3,g4⟩:=hto
   have hq1:=fun W=>qOf_any qn qd g1 g2 g3 g4 W
   have hyn:=Nat.mod_lt I hn0
   have hzn:=Nat.mod_lt K hn0
   obtain⟨y,hy⟩:∃ y,y=I % n:=⟨_,rfl⟩
   obtain⟨z,hz⟩:∃ z,z=K % n:=⟨_,rfl⟩
   obtain⟨q,hq⟩:∃ q,q=qOf qn qd:=⟨_,rfl⟩
   rw[show rawT n (I,K,qn,qd)=(y,z,q) by rw[hy,hz,hq];rfl] at hst
   rw[←hy] at hyn
   rw[←hz] at hzn
   rw[←hq] at hzq
   simp only[←hq] at hq1
   have hm1:Int.tmod (I:Int) (n:Int)=(y:Int):=by rw[hy];rfl
   have hm2:Int.tmod (K:Int) (n:Int)=(z:Int):=by rw[hz];rfl
   have hw1:IntKind.i64.wrap (I:Int)=(I:Int):=IntWalk.i64_in _ (by omega)
   have hw2:IntKind.i64.wrap (K:Int)=(K:Int):=IntWalk.i64_in _ (by omega)
   have hw3:IntKind.i64.wrap (y:Int)=(y:Int):=IntWalk.i64_in _ (by omega)
   have hw4:IntKind.i64.wrap (z:Int)=(z:Int):=IntWalk.i64_in _ (by omega)
   have hsz:SzK (1+p*(j+1)) (rawM n (l.take p) y z):=rawM_szk HZ.out p y z
   obtain⟨F,hF⟩:∃ F,F=rawM n (l.take p):=⟨_,rfl⟩
   rw[←hF] at hB hst hsz
   have HST:=Lib.hid hst
   have HS:=Lib.hid hsz
   have HQ:=Lib.hid hzq
   have HI:=Lib.hid (show y<n∧z<n from⟨hyn,hzn⟩)
   obtain⟨A1,A2,A3,A4,A5,hA,hA'⟩:∃ A1 A2 A3 A4 A5,fracV q=.agg #[.int .u64 A1,.string A2,.bool A3,.int .u64 A4,.string A5]∧fcs q=[.int .u64 A1,.string A2,.bool A3,.int .u64 A4,.string A5]:=⟨_,_,_,_,_,rfl,rfl⟩
   rw[hA] at hq1
   have HA:=Lib.hid hA
   clear hA hA' hst hF hsz hzq hyn hzn hy hz hq
   rw[←hin.cell b2 _ (by rw[HX.out];exact hb2)] at c0 c1 c2 c3
   have hbw:b2<wr.heap.size:=by have:=hin.siz;rw[HX.out] at this;omega
   go_upto_region 6 with fail
   refine wp_region_mixT (In wr.heap.size wr) 26 (.quiet 0 (.quiet 1 (.quiet 2 (.quiet 3 (.quiet 4 (.quiet 5 (.quiet 6 (.quiet 7 (.quiet 8 (.quiet 9 (.quiet 10 (.quiet 11 (.quiet 12 (.quiet 13 (.quiet 14 (.quiet 15 (.quiet 16 (.quiet 17 (.quiet 18 (.quiet 19 (.quiet 20 (.quiet 21 (.quiet 22 (.quiet 23 (.quiet 24 (.one 25 (.one 26 .done))))))))))))))))))))))))))) (by kernel_rfl) (by kernel_rfl) (by kernel_rfl) (by kernel_rfl) (by kernel_rfl) (by kernel_rfl) (by kernel_rfl) (by kernel_rfl) (fun _ _ d _ _ h=>by cases d <;> exact h) ?_ ?_
   ·exact(In.self wr).drew
   (repeat (apply mixT_take;(focus rfl);(focus rfl);(focus (intro w' hw';have hc':=hw'.cell;go_simp;exact rfl));refine tput ?_))
   have hind:=(In.self wr).drew
   replace hin:=hin.call hind.bel
   replace bx:=bx.call hind.bel
   replace br:=br.call hind.bel
   replace hB:=hB.call hind.bel
   clear c0 c1 c2 c3 hbw x0 x1 xl
   generalize wr.drew=w3 at *
   (apply mixT_run;(focus rfl);(focus rfl);intro K hK;go_simp)
   ((with_reducible refine(hq1 _).mono ?_))
   rintro e w4 ⟨rfl,hb⟩
   replace hind:=hind.call hb
   replace hin:=hin.call hb
   replace bx:=bx.call hb
   replace br:=br.call hb
   replace hB:=hB.call hb
   clear hb hq1
   refine hK _ _ (fun _=>hind) ?_
   clear hK K
   have hpj:p*(j+1)≤64*(j+1):=Nat.mul_le_mul_right _ (by omega)
   have ha:=badd_in (s:=1+p*(j+1)) (j:=j) w4 (b+1) b p n n F y z q hB HI.out.1 HI.out.2 hn2 hn2 (by simp only[maxLen];omega) (by omega) HS.out HQ.out (by omega)
   rw[HA.out] at ha
   (apply mixT_run;(focus rfl);(focus rfl);intro K hK;go_simp)
   (with_reducible refine ha.mono ?_)
   rintro e w5 ⟨rfl,hB5,hg⟩
   have hin5:=hin.grown hg (by omega)
   have br5:=br.grown hg (by simp;omega)
   have bx5:=bx.grown hg (by simp;omega)
   clear ha hg hin br bx hB hind
   refine hK _ _ (fun h=>absurd h (by decide)) ?_
   clear hK K
   refine mixT_done ?_
   have hBf:BB w5 (b+1) b (p+1) n n (rawM n (l.take (p+1))):=by rw[HST.out];exact hB5
   clear hB5
   go_wp2_with fail
   exact⟨⟨p+1,by omega,by go_num,hin5,bx5,br5,hBf⟩,by simp[RowKit.intOf];omega⟩
  ·have hfin:∀ i k,i<n→k<n→rawM n (l.take p) i k=rawM n l i k:=fun i k hi hk=>by
    have:p=L:=by omega
    rw[List.take_of_length_le (by rw[←HL.out];omega)]
   have HF:=Lib.hid hfin
   have hsp:=bsparse_any wr (b+1) b _ n n _ hB hn2 hn2
   have hXw:=hin.siz
   clear hfin hB bx
   have hcond:¬ (p:Int)<L∨(p:Int)<L∧¬ (0:Int)<n:=by omega
   clear hpL
   rcases hcond with hpI |⟨hpI,hnI⟩
   ·go_wp2_with fail
    (with_reducible refine hsp.mono ?_)
    rintro e w5 ⟨v5,rfl,hv5,hb5⟩
    ((obtain⟨R,h5⟩:∃ R,v5=.agg #[(.int .i64 ((n:Nat):Int)),(.int .i64 ((n:Nat):Int)),(.slice (some ⟨R,0,none⟩) (n) (n))]:=by(obtain⟨R,_,h,_⟩:=hv5;exact⟨R,h⟩));(have br5:=br.call hb5);(have hin5:=hin.call hb5);have hXl:=br.lt;(have hv7:=((SpOwn.other (a:=⟨(X+1),0,none⟩) hv5 hXl (.int .i64 ((n:Nat):Int))).other (a:=⟨(X+1),1,none⟩) hXl (.int .i64 ((n:Nat):Int))).other (a:=⟨(X+1),2,none⟩) hXl (.slice (some ⟨R,0,none⟩) (n) (n)));(have br6:=((br5.set 0 (.int .i64 ((n:Nat):Int))).set 1 (.int .i64 ((n:Nat):Int))).set 2 (.slice (some ⟨R,0,none⟩) (n) (n)));(have hin6:=((hin5.setCell (p:=⟨(X+1),0,none⟩) (by first |(simp;done)|(simp;omega)) (.int .i64 ((n:Nat):Int))).setCell (p:=⟨(X+1),1,none⟩) (by first |(simp;done)|(simp;omega)) (.int .i64 ((n:Nat):Int))).setCell (p:=⟨(X+1),2,none⟩) (by first |(simp;done)|(simp;omega)) (.slice (some ⟨R,0,none⟩) (n) (n)));(have f0:=br5.frozen 0);(have f1:=br5.frozen 1);(have f2:=br5.frozen 2);have b0:=br5.c0;have b1:=br5.c1;have b2:=br5.c2;have hl5:=br5.lt;(subst h5);(have H1:=Lib.hid hv7);(have H2:=Lib.hid br6);(have H3:=Lib.hid hin6);clear hv7 br6 hin6 hv5 hb5 br br5 hin hin5;go_wp2_with fail;have h1:=H1.out;have h2:=H2.out;have h3:=H3.out;clear H1 H2 H3 f0 f1 f2 b0 b1 b2 hl5;(generalize ((w5.setCell ⟨(X+1),0,none⟩ (.int .i64 ((n:Nat):Int))).setCell ⟨(X+1),1,none⟩ (.int .i64 ((n:Nat):Int))).setCell ⟨(X+1),2,none⟩ (.slice (some ⟨R,0,none⟩) (n) (n))=W6 at *);(have e0:W6.cell? ⟨(X+1),0,none⟩=some (.int .i64 ((n:Nat):Int)):=h2.cell 0);(have e1:W6.cell? ⟨(X+1),1,none⟩=some (.int .i64 ((n:Nat):Int)):=h2.cell 1);(have e2:W6.cell? ⟨(X+1),2,none⟩=some (.slice (some ⟨R,0,none⟩) (n) (n)):=h2.cell 2);(have hfin:=SpOwn.mono h1 (show w.heap.size≤(World.heap wr).size by rw[←HX.out];omega));(have hbelow:Below w.heap.size w W6:=h3.bel.mono (by have:=HX.out;omega));(refine bodyPost_ret (v:=.agg #[(.int .i64 ((n:Nat):Int)),(.int .i64 ((n:Nat):Int)),(.slice (some ⟨R,0,none⟩) (n) (n))]) ?_ rfl ⟨⟨_,rfl,(SpN.congr hfin HF.out).m⟩,hbelow⟩);(simp[results,Tryz.results21,go_sem,e0,e1,e2]))
   ·go_wp2_with fail
    (with_reducible refine hsp.mono ?_)
    rintro e w5 ⟨v5,rfl,hv5,hb5⟩
    ((obtain⟨R,h5⟩:∃ R,v5=.agg #[(.int .i64 ((n:Nat):Int)),(.int .i64 ((n:Nat):Int)),(.slice (some ⟨R,0,none⟩) (n) (n))]:=by(obtain⟨R,_,h,_⟩:=hv5;exact⟨R,h⟩));(have br5:=br.call hb5);(have hin5:=hin.call hb5);have hXl:=br.lt;(have hv7:=((SpOwn.other (a:=⟨(X+1),0,none⟩) hv5 hXl (.int .i64 ((n:Nat):Int))).other (a:=⟨(X+1),1,none⟩) hXl (.int .i64 ((n:Nat):Int))).other (a:=⟨(X+1),2,none⟩) hXl (.slice (some ⟨R,0,none⟩) (n) (n)));(have br6:=((br5.set 0 (.int .i64 ((n:Nat):Int))).set 1 (.int .i64 ((n:Nat):Int))).set 2 (.slice (some ⟨R,0,none⟩) (n) (n)));(have hin6:=((hin5.setCell (p:=⟨(X+1),0,none⟩) (by first |(simp;done)|(simp;omega)) (.int .i64 ((n:Nat):Int))).setCell (p:=⟨(X+1),1,none⟩) (by first |(simp;done)|(simp;omega)) (.int .i64 ((n:Nat):Int))).setCell (p:=⟨(X+1),2,none⟩) (by first |(simp;done)|(simp;omega)) (.slice (some ⟨R,0,none⟩) (n) (n)));(have f0:=br5.frozen 0);(have f1:=br5.frozen 1);(have f2:=br5.frozen 2);have b0:=br5.c0;have b1:=br5.c1;have b2:=br5.c2;have hl5:=br5.lt;(subst h5);(have H1:=Lib.hid hv7);(have H2:=Lib.hid br6);(have H3:=Lib.hid hin6);clear hv7 br6 hin6 hv5 hb5 br br5 hin hin5;go_wp2_with fail;have h1:=H1.out;have h2:=H2.out;have h3:=H3.out;clear H1 H2 H3 f0 f1 f2 b0 b1 b2 hl5;(generalize ((w5.setCell ⟨(X+1),0,none⟩ (.int .i64 ((n:Nat):Int))).setCell ⟨(X+1),1,none⟩ (.int .i64 ((n:Nat):Int))).setCell ⟨(X+1),2,none⟩ (.slice (some ⟨R,0,none⟩) (n) (n))=W6 at *);(have e0:W6.cell? ⟨(X+1),0,none⟩=some (.int .i64 ((n:Nat):Int)):=h2.cell 0);(have e1:W6.cell? ⟨(X+1),1,none⟩=some (.int .i64 ((n:Nat):Int)):=h2.cell 1);(have e2:W6.cell? ⟨(X+1),2,none⟩=some (.slice (some ⟨R,0,none⟩) (n) (n)):=h2.cell 2);(have hfin:=SpOwn.mono h1 (show w.heap.size≤(World.heap wr).size by rw[←HX.out];omega));(have hbelow:Below w.heap.size w W6:=h3.bel.mono (by have:=HX.out;omega));(refine bodyPost_ret (v:=.agg #[(.int .i64 ((n:Nat):Int)),(.int .i64 ((n:Nat):Int)),(.slice (some ⟨R,0,none⟩) (n) (n))]) ?_ rfl ⟨⟨_,rfl,(SpN.congr hfin HF.out).m⟩,hbelow⟩);(simp[results,Tryz.results21,go_sem,e0,e1,e2]))
end Gus
end
section
namespace Gus
open Go Go.RowKit Go.Proofs
theorem take_contains (P:List Nat) (j t:Nat) (ht:t<P.length):(P.take (t+1)).contains j=((P.take t).contains j ||(P.getD t 0 == j)):=by
 rw[List.take_add_one,List.getElem?_eq_getElem ht,List.getD_eq_getElem?_getD,List.getElem?_eq_getElem ht]
 rw[Bool.eq_iff_iff,Bool.or_eq_true,List.contains_iff_mem,List.contains_iff_mem,beq_iff_eq]
 show j∈List.take t P ++ [P[t]]↔_
 rw[List.mem_append,List.mem_singleton]
 exact or_congr Iff.rfl eq_comm
def outK (l:List Nat) (j:Nat):List Nat:=(List.range j).filter fun i=>!l.contains i
theorem outK_succ (l:List Nat) (j:Nat):outK l (j+1)=if l.contains j then outK l j else outK l j ++ [j]:=by
 unfold outK
 rw[List.range_succ,List.filter_append]
 by_cases h:l.contains j
 ·rw[if_pos h];simp at h;simp[h]
 ·rw[if_neg h];simp at h;simp[h]
theorem outK_all (n:Nat) (l:List Nat):outK l n=outer n l:=rfl
theorem outK_len (l:List Nat) (j:Nat):(outK l j).length≤j:=by
 unfold outK
 exact Nat.le_trans (List.length_filter_le _ _) (by simp)
theorem grp_mk {w:World} {a:Option Addr} {n c:Nat} {l:List Nat} (hl:l.length=n) (h:IntsAt w a (zl l)):GrpAt w (.slice a n c) l:=⟨a,c,by rw[hl],h⟩
theorem ints_zero {w:World} {a:Option Addr} {l:List Nat} (hl:l.length=0):IntsAt w a (zl l):=fun i hi=>absurd hi (by rw[zl_length,hl];exact Nat.not_lt_zero _)
set_option maxRecDepth 100000 in
set_option maxHeartbeats 16000000 in
theorem lcut_any (w:World) (n:Nat) (ka:Option Addr) (kc:Nat) (ks:List Nat) (hk:U8At w ka ks) (hkb:∀ i,ks.getD i 0<256) (hn:n≤256) (a b:Nat) (ha:a<256) (hb:b<256) (i k:Nat) (hi:i=a % (n+1)) (hkk:k=i+b % (n - i+1)) :
  Calls Tryz.prog 22 #[.int .i64 (n:Nat),.slice ka ks.length kc,.int .u8 (a:Nat),.int .u8 (b:Nat)] w fun e w'=>(∃ v1 v2 v3,e=.returned (.tuple #[v1,v2,v3])∧GrpAt w' v1 ((permK ks n).take i)∧GrpAt w' v2 (((permK ks n).take k).drop i)∧GrpAt w' v3 (outer n ((permK ks n).take k)))∧Below w.heap.size w w':=by
 have cp:=perm_any w n ka kc ks hk hkb hn
 have hin':i≤n:=by rw[hi];exact Nat.le_of_lt_succ (Nat.mod_lt _ (by omega))
 obtain⟨r,hr⟩:∃ r,r=b % (n - i+1):=⟨_,rfl⟩
 have hrn:r≤n - i:=by rw[hr];exact Nat.le_of_lt_succ (Nat.mod_lt _ (by omega))
 rw[←hr] at hkk
 obtain⟨N1,hN1⟩:∃ N1,N1=n+1:=⟨_,rfl⟩
 obtain⟨D,hD⟩:∃ D,D=n - i:=⟨_,rfl⟩
 obtain⟨D1,hD1⟩:∃ D1,D1=D+1:=⟨_,rfl⟩
 have e1:IntKind.i64.wrap ((n:Int)+1)=(N1:Int):=by rw[hN1];exact IntWalk.i64_in _ (by omega)
 have e2:Int.tmod (a:Int) (N1:Int)=(i:Int):=by rw[hN1,hi];rfl
 have e3:IntKind.i64.wrap ((n:Int) - (i:Int))=(D:Int):=by rw[hD,show((n:Int) - (i:Int))=((n - i:Nat):Int) by omega];exact IntWalk.i64_in _ (by omega)
 have e4:IntKind.i64.wrap ((D:Int)+1)=(D1:Int):=by rw[hD1];exact IntWalk.i64_in _ (by omega)
 have e5:Int.tmod (b:Int) (D1:Int)=(r:Int):=by rw[hr,hD1,hD];rfl
 have e6:IntKind.i64.wrap ((i:Int)+(r:Int))=(k:Int):=by rw[hkk];exact IntWalk.i64_in _ (by omega)
 have e7:IntKind.i64.wrap (a:Int)=(a:Int):=IntWalk.i64_in _ (by omega)
 have e8:IntKind.i64.wrap (b:Int)=(b:Int):=IntWalk.i64_in _ (by omega)
 have e9:IntKind.i64.wrap (i:Int)=(i:Int):=IntWalk.i64_in _ (by omega)
 have e10:IntKind.i64.wrap (r:Int)=(r:Int):=IntWalk.i64_in _ (by omega)
 have n1:¬ N1=0:=by omega
 have n2:¬ D1=0:=by omega
 have n3:¬ ((N1:Int)=0):=by omega
 have n4:¬ ((D1:Int)=0):=by omega
 have hkn:k≤n:=by omega
 have hik:i≤k:=by omega
 obtain⟨K,hK⟩:∃ K,K=ks.length:=⟨_,rfl⟩
 rw[←hK] at cp ⊢
 obtain⟨P,hP⟩:∃ P,P=permK ks n:=⟨_,rfl⟩
 rw[←hP] at cp ⊢
 have hpl:P.length=n:=by rw[hP,permK_len]
 have HPL:=Lib.hid hpl
 obtain⟨i0,hi0,hi1,hi2,hi3⟩:=info_parts info_int8
 clear hK hP hpl hN1 hD hD1 hr hkk hi hk hkb
 go_enter Tryz.func22,Tryz.ntmps22
 go_wp2_with fail
 (with_reducible refine cp.mono ?_)
 rintro e w1 ⟨⟨pa,pc,rfl,hpc,hsh,hpi⟩,hbel⟩
 have HP:=Lib.hid hpi
 have HSH:=Lib.hid hsh
 have HB1:=Lib.hid hbel
 clear cp hpi hsh hbel
 go_wp2_with fail
 clear e1 e2 e3 e4 e5 e6 e7 e8 e9 e10 n1 n2 n3 n4
 go_loopw [14,15] (fun v14 v15 wr=>∃ (j m:Nat),j≤n∧m=(outK (P.take k) j).length∧v15=.int .i64 j∧In w1.heap.size w1 wr∧wr.ownsRow w1.heap.size 3 1 v14 m (icl (outK (P.take k) j))) (fun _ v15 _=>n - (RowKit.intOf v15).toNat)
 case atStart=>exact⟨0,0,Nat.zero_le _,rfl,rfl,In.self w1,World.ownsRow_nil _ _ _ _⟩
 case round=>
  obtain⟨j,m,hj,hm,rfl,hin,hown⟩:=hrel
  by_cases hjn:j<n
  ·have jI:(j:Int)<n:=by omega
   have j0:(0:Int)≤j:=by omega
   have jw:IntKind.i64.wrap ((j:Int)+1)=((j+1:Nat):Int):=IntWalk.i64_in _ (by omega)
   have HOWN:=Lib.hid hown
   have HIN:=Lib.hid hin
   have HM:=Lib.hid hm
   have HPW:=Lib.hid (HP.out.call hin.bel)
   clear hown hin hm
   go_wp2_with fail
   go_loopw [16,17] (fun v16 v17 wi=>∃ t:Nat,t≤k∧v17=.int .i64 t∧v16=.bool (!((P.take t).contains j))∧wr=wi) (fun _ v17 _=>k - (RowKit.intOf v17).toNat)
   case atStart=>exact⟨0,Nat.zero_le _,rfl,by simp,rfl⟩
   case round=>
    obtain⟨t,ht,rfl,rfl,rfl⟩:=hrel
    by_cases htk:t<k
    ·have tI:(t:Int)<k:=by omega
     have t0:(0:Int)≤t:=by omega
     have tn:(t:Int)<n:=by omega
     have tw:IntKind.i64.wrap ((t:Int)+1)=((t+1:Nat):Int):=IntWalk.i64_in _ (by omega)
     have htl:t<P.length:=by rw[HPL.out];omega
     have hst:=take_contains P j t htl
     obtain⟨pb,po,rfl,hpb,hpx⟩:=HPW.out t (by rw[zl_length];exact htl)
     rw[zl_getD htl] at hpx
     obtain⟨x,hx⟩:∃ x,x=P.getD t 0:=⟨_,rfl⟩
     rw[←hx] at hpx hst
     obtain⟨c,hc⟩:∃ c,c=(P.take t).contains j:=⟨_,rfl⟩
     rw[←hc] at hst ⊢
     have HST:=Lib.hid hst
     clear hst hx hc htl
     cases c with
     | true=>
      clear hpx hpb
      go_wp2_with fail
      exact⟨⟨t+1,by omega,by go_num,by rw[HST.out];rfl,trivial⟩,by simp[RowKit.intOf];omega⟩
     | false=>
      by_cases hxj:x=j
      ·subst hxj
       go_wp2_with fail
       exact⟨⟨t+1,by omega,by go_num,by rw[HST.out];simp,trivial⟩,by simp[RowKit.intOf];omega⟩
      ·have hxI:((x:Int) != (j:Int))=true:=bne_iff_ne.2 (by omega)
       go_wp2_with fail
       exact⟨⟨t+1,by omega,by go_num,by rw[HST.out];simp[hxj],trivial⟩,by simp[RowKit.intOf];omega⟩
    ·obtain rfl:k=t:=by omega
     have tI:¬ (k:Int)<k:=by omega
     have hst:=outK_succ (P.take k) j
     by_cases hc:(P.take k).contains j=true
     ·rw[if_pos hc] at hst
      rw[hc]
      have HST:=Lib.hid hst
      clear hst hc
      go_wp2_with fail
      exact⟨⟨j+1,m,by omega,by rw[HST.out];exact HM.out,by go_num,HIN.out,by rw[HST.out];exact HOWN.out⟩,by simp[RowKit.intOf];omega⟩
     ·have hc2:(P.take k).contains j=false:=by simpa using hc
      rw[if_neg hc] at hst
      rw[hc2]
      have HST:=Lib.hid hst
      have hml:m≤j:=by rw[HM.out];exact outK_len _ _
      have hsz:=HIN.out.siz
      clear hst hc hc2
      ((go_wp2_with (at_builtin;go_loud (refine wpList_append_own _ rfl (.tmp 55) (.tmp 57) 22 rfl w1.heap.size 3 i0 (.int .i64 0) 1 8 Tryz.underlying22 hi0 hi1 hi2 hi3 rfl (by decide) u14 m (icl (outK (P.take k) j)) rfl (HOWN.out.alloc _) ⟨wr.heap.size,0,none⟩ 1 1 [.int .i64 ((j:Int))] rfl rfl ?p1 ?p2 ?p3 ?p4 ?p5 ?_)));(try (case p1=>(intro j u hj;rw[Addr.add_lit,Nat.zero_add,(Bx.new_at wr #[.int .i64 ((j:Int))] 3 rfl).cell j];exact hj)));(try (case p2=>(first | rfl |(intro u hu;simp only[List.mem_cons,List.not_mem_nil,or_false] at hu;subst hu;rfl))));(try (case p3=>(simp only[maxLen];omega)));(try (case p4=>omega));(try (case p5=>(first | omega |(rw[World.size_alloc];omega))));(intro v' w4 hown4 hgr _);(have hin4:In w1.heap.size w1 w4:=by(have h5:=HIN.out.alloc (.cells #[.int .i64 ((j:Int))] 3);exact⟨h5.bel.grown hgr h5.siz (fun k h=>(World.ownsRow.lt HOWN.out k h).1),Nat.le_trans h5.siz hgr.size⟩));(have HR4:Hid (w4.ownsRow w1.heap.size 3 1 v' (m+1) (icl ((outK (P.take k) j) ++ [j]))):=Lib.hid (by((have e1:(((j:Nat)):Int)=(j:Int):=(by first | rfl | omega));(have e:icl ((outK (P.take k) j) ++ [j])=icl (outK (P.take k) j) ++ [.int .i64 ((j:Int))]:=(by rw[←e1];simp[icl]));rw[e];exact hown4)));(have HIN4:=Lib.hid hin4);(obtain⟨g9,c9,rfl⟩:∃ g9 c9,v'=.slice (some ⟨g9,0,none⟩) (m+1) c9:=by exact owns_cons hown4);clear hown4 hgr hin4 HOWN HIN)
      have HR5:=HR4.out
      rw[←HST.out] at HR5
      have HR6:=Lib.hid HR5
      clear HR5 hsz
      go_wp2_with fail
      exact⟨⟨j+1,m+1,by omega,by rw[HST.out,List.length_append,HM.out];rfl,by go_num,HIN4.out,HR6.out⟩,by simp[RowKit.intOf];omega⟩
  ·obtain rfl:j=n:=by omega
   have jI:¬ (j:Int)<j:=by omega
   have hbel:=((⟨HB1.out,HB1.out.size⟩:In w.heap.size w w1).call hin.bel).bel
   have hG3:GrpAt wr u14 (outer j (P.take k)):=owns_grp (by rw[←outK_all,←hm];exact hown)
   obtain⟨a3,c3,rfl⟩:=hG3.shape
   have HG3:=Lib.hid hG3
   obtain⟨O,hO⟩:∃ O,O=(outer j (P.take k)).length:=⟨_,rfl⟩
   rw[←hO] at HG3 ⊢
   have HIN:=Lib.hid hin
   clear hG3 hin hown hm hO
   have li:(P.take i).length=i:=by rw[List.length_take,HPL.out];omega
   have lk:((P.take k).drop i).length=k - i:=by rw[List.length_drop,List.length_take,HPL.out];omega
   have LI:=Lib.hid li
   have LK:=Lib.hid lk
   clear li lk
   rcases HSH.out with ⟨rfl,rfl,rfl⟩|⟨g,rfl⟩
   ·obtain rfl:i=0:=by omega
    obtain rfl:k=0:=by omega
    go_upto_region 15 with fail
    refine wp_region_mixT (fun _=>True) 10 (.quiet 0 (.quiet 1 (.quiet 2 (.quiet 3 (.quiet 4 (.quiet 5 (.quiet 6 (.quiet 7 (.quiet 8 (.quiet 9 (.one 10 .done))))))))))) (by kernel_rfl) (by kernel_rfl) (by kernel_rfl) (by kernel_rfl) (by kernel_rfl) (by kernel_rfl) (by kernel_rfl) (by kernel_rfl) (fun _ _ d _ _ h=>by cases d <;> exact h) ?_ ?_
    ·trivial
    (repeat (apply mixT_take;(focus rfl);(focus rfl);(focus (intro w' hw';go_simp;exact rfl));refine tput ?_))
    have hdr:=(In.self wr).drew
    (apply mixT_run;(focus rfl);(focus rfl);intro K hK;go_simp)
    refine hK _ _ (fun h=>absurd h (by decide)) ?_
    clear hK K
    refine mixT_done ?_
    have hbel:=((⟨hbel,hbel.size⟩:In w.heap.size w wr).call hdr.bel).bel
    have HG3:=Lib.hid (HG3.out.call hdr.bel)
    have HI:=Lib.hid hdr
    clear hdr
    go_wp2_with fail
    exact bodyPost_ret (v:=.tuple #[.slice none 0 0,.slice none 0 0,.slice a3 O c3]) (by simp[results,Tryz.results22,go_sem]) rfl ⟨⟨_,_,_,rfl,grp_mk LI.out (ints_zero LI.out),grp_mk LK.out (ints_zero LK.out),HG3.out⟩,hbel⟩
   ·have hpi:=HP.out.call HIN.out.bel
    have i0':(0:Int)≤i:=by omega
    have ik':(i:Int)≤k:=by omega
    have kc:k≤pc:=by omega
    have ic:i≤pc:=by omega
    have H1:=Lib.hid (ints_take hpi i)
    have H2:Hid (IntsAt wr (some ⟨g,i,none⟩) (zl ((P.take k).drop i))):=Lib.hid (by have:=ints_drop (ints_take hpi k) i;rwa [Nat.zero_add] at this)
    clear hpi
    by_cases hp:pc=i
    ·subst hp
     obtain rfl:pc=k:=by omega
     go_upto_region 15 with fail
     refine wp_region_mixT (fun _=>True) 10 (.quiet 0 (.quiet 1 (.quiet 2 (.quiet 3 (.quiet 4 (.quiet 5 (.quiet 6 (.quiet 7 (.quiet 8 (.quiet 9 (.one 10 .done))))))))))) (by kernel_rfl) (by kernel_rfl) (by kernel_rfl) (by kernel_rfl) (by kernel_rfl) (by kernel_rfl) (by kernel_rfl) (by kernel_rfl) (fun _ _ d _ _ h=>by cases d <;> exact h) ?_ ?_
     ·trivial
     (repeat (apply mixT_take;(focus rfl);(focus rfl);(focus (intro w' hw';go_simp;exact rfl));refine tput ?_))
     have hdr:=(In.self wr).drew
     (apply mixT_run;(focus rfl);(focus rfl);intro K hK;go_simp)
     refine hK _ _ (fun h=>absurd h (by decide)) ?_
     clear hK K
     refine mixT_done ?_
     have hbel:=((⟨hbel,hbel.size⟩:In w.heap.size w wr).call hdr.bel).bel
     have HG3:=Lib.hid (HG3.out.call hdr.bel)
     have HI:=Lib.hid hdr
     clear hdr
     go_wp2_with fail
     exact bodyPost_ret (v:=.tuple #[.slice (some ⟨g,0,none⟩) pc pc,.slice (some ⟨g,0,none⟩) (pc - pc) (pc - pc),.slice a3 O c3]) (by simp[results,Tryz.results22,go_sem]) rfl ⟨⟨_,_,_,rfl,grp_mk LI.out (H1.out.call HI.out.bel),grp_mk (by simp) (ints_zero (by simp)),HG3.out⟩,hbel⟩
    ·go_upto_region 15 with fail
     refine wp_region_mixT (fun _=>True) 10 (.quiet 0 (.quiet 1 (.quiet 2 (.quiet 3 (.quiet 4 (.quiet 5 (.quiet 6 (.quiet 7 (.quiet 8 (.quiet 9 (.one 10 .done))))))))))) (by kernel_rfl) (by kernel_rfl) (by kernel_rfl) (by kernel_rfl) (by kernel_rfl) (by kernel_rfl) (by kernel_rfl) (by kernel_rfl) (fun _ _ d _ _ h=>by cases d <;> exact h) ?_ ?_
     ·trivial
     (repeat (apply mixT_take;(focus rfl);(focus rfl);(focus (intro w' hw';go_simp;exact rfl));refine tput ?_))
     have hdr:=(In.self wr).drew
     (apply mixT_run;(focus rfl);(focus rfl);intro K hK;go_simp)
     refine hK _ _ (fun h=>absurd h (by decide)) ?_
     clear hK K
     refine mixT_done ?_
     have hbel:=((⟨hbel,hbel.size⟩:In w.heap.size w wr).call hdr.bel).bel
     have HG3:=Lib.hid (HG3.out.call hdr.bel)
     have HI:=Lib.hid hdr
     clear hdr
     go_wp2_with fail
     exact bodyPost_ret (v:=.tuple #[.slice (some ⟨g,0,none⟩) i pc,.slice (some ⟨g,i,none⟩) (k - i) (pc - i),.slice a3 O c3]) (by simp[results,Tryz.results22,go_sem]) rfl ⟨⟨_,_,_,rfl,grp_mk LI.out (H1.out.call HI.out.bel),grp_mk LK.out (H2.out.call HI.out.bel),HG3.out⟩,hbel⟩
end Gus
end
