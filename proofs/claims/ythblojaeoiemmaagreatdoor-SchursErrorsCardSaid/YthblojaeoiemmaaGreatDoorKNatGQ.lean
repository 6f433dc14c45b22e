/- Proved here: parts of the proof: KNatG KNatH KNatI. Conditions: those that each theorem states. -/
import Derived.Test.YthblojaeoiemmaaGreatDoorKNatEQ
section
namespace Gus
open Go Go.RowKit Go.Proofs
theorem val_set:∀ (l:List Nat) (i d:Nat),i<l.length→val (l.set i d)+4294967296 ^ i*l.getD i 0=val l+4294967296 ^ i*d
 | [],i,d,h=>by simp at h
 | e :: l,0,d,_=>by simp[val];omega
 | e :: l,i+1,d,h=>by
  have:=val_set l i d (by simpa using h)
  simp only[List.set_cons_succ,val,List.getD_cons_succ,Nat.pow_succ]
  generalize val (l.set i d)=a at *
  generalize val l=b at *
  generalize l.getD i 0=x at *
  have e1:4294967296 ^ i*4294967296*x=4294967296*(4294967296 ^ i*x):=by rw[Nat.mul_comm (4294967296 ^ i),Nat.mul_assoc]
  have e2:4294967296 ^ i*4294967296*d=4294967296*(4294967296 ^ i*d):=by rw[Nat.mul_comm (4294967296 ^ i),Nat.mul_assoc]
  rw[e1,e2]
  generalize 4294967296 ^ i*x=X at *
  generalize 4294967296 ^ i*d=Y at *
  omega
theorem val_replicate (n:Nat):val (List.replicate n 0)=0:=by
 induction n with
 | zero=>rfl
 | succ n ih=>rw[List.replicate_succ,val,ih]
theorem digs_replicate (n:Nat):Digs (List.replicate n 0):=fun d h=>by rw[(List.mem_replicate.1 h).2];decide
theorem set_getD (l:List Nat) (i j d:Nat) (h:i≠j):(l.set i d).getD j 0=l.getD j 0:=by
 rw[List.getD_eq_getElem?_getD,List.getD_eq_getElem?_getD,List.getElem?_set_ne h]
theorem mul_step {a b t T K x y V c o s a':Nat} (ht:t=T*K) (h:a+t*c=b+T*(x*V)) (hs:s=c+(x*y+o)) (ha:a'+t*o=a+t*(s % 4294967296)):a'+t*4294967296*(s / 4294967296)=b+T*(x*(V+K*y)):=by
 have:=Nat.div_add_mod s 4294967296
 generalize s / 4294967296=q at *
 generalize s % 4294967296=r at *
 have e:t*(4294967296*q+r)=t*(c+(x*y+o)):=by rw[this,hs]
 subst ht
 grind
theorem mul_row {a b t T x V W n c a':Nat} (h:a+t*c=b+T*(x*n)) (ha:a'=a+t*c) (hb:b=V*n) (hW:W=V+T*x):a'=W*n:=by
 subst ha;rw[h,hb,hW,Nat.add_mul,Nat.mul_assoc]
set_option maxRecDepth 100000 in
set_option maxHeartbeats 1000000 in
theorem mul_small (m n:Nat) (h1:m<18446744073709551616) (h2:n<18446744073709551616) (w:World) :
  Calls Tryz.prog 93 #[.agg #[.int .u64 m,.string ⟨#[]⟩],.agg #[.int .u64 n,.string ⟨#[]⟩]] w fun e w'=>e=.returned (natV (m*n))∧Below w.heap.size w w':=by
 have hM:=fun w=>Tryz.bits_Mul64 m n h1 h2 w
 obtain⟨H,hH⟩:∃ H,H=m*n / 18446744073709551616:=⟨_,rfl⟩
 obtain⟨W,hW⟩:∃ W,W=m*n % 18446744073709551616:=⟨_,rfl⟩
 have hH1:H<18446744073709551616:=by
  rw[hH];apply Nat.div_lt_of_lt_mul
  exact Nat.mul_lt_mul_of_lt_of_le h1 (Nat.le_of_lt h2) (by omega)
 have hW1:W<18446744073709551616:=by rw[hW];exact Nat.mod_lt _ (by decide)
 have hsum:W+18446744073709551616*H=m*n:=by rw[hH,hW];exact Nat.mod_add_div _ _
 rw[←hH,←hW] at hM
 have HS:=Lib.hid hsum
 have HM:=Lib.hid hM
 clear hH hW hsum hM
 have hd:Digs [W % 4294967296,W / 4294967296,H % 4294967296,H / 4294967296]:=.cons (by omega) (.cons (by omega) (.cons (by omega) (.cons (by omega) .nil)))
 have hv:val ([W % 4294967296,W / 4294967296,H % 4294967296,H / 4294967296].take 4)=m*n:=by
  rw[←HS.out];simp[val];omega
 have HD:=Lib.hid hd
 have HV:=Lib.hid hv
 clear hd hv
 go_enter Tryz.func93,Tryz.ntmps93
 go_wp2_with fail
 refine(HM.out _).mono ?_
 rintro e w' ⟨rfl,rfl⟩
 go_wp2_with fail
 have hof:∀ (w:World) (g:Nat) (cs:Array Value),g=w.heap.size→cs=([W % 4294967296,W / 4294967296,H % 4294967296,H / 4294967296].map u32v).toArray→Calls Tryz.prog 141 #[.slice (some ⟨g,0,none⟩) 4 4] (w.alloc (.cells cs 99 (0,0))) fun e w'=>e=.returned (natV (m*n))∧Below (w.alloc (.cells cs 99 (0,0))).heap.size (w.alloc (.cells cs 99 (0,0))) w':=by
  rintro w g cs rfl hcs
  have:=of_any _ w.heap.size 4 4 [W % 4294967296,W / 4294967296,H % 4294967296,H / 4294967296] (Blk.new w cs hcs) HD.out (Nat.le_refl _) (by decide) (by decide) (by decide)
  rwa [HV.out] at this
 refine(hof _ _ _ (by simp only[World.size_alloc]) (by simp[u32v])).mono ?_
 rintro e w' ⟨rfl,hb⟩
 have h:=(In.self _).call hb
 simp only[World.size_alloc] at h
 have hc:=h.cell
 have hf:=h.frozen
 clear hb
 go_wp2_with fail
 exact bodyPost_ret (v:=natV (m*n)) (by simp[results,Tryz.results93,go_sem, *]) rfl ⟨rfl,by exact tfin⟩
set_option maxRecDepth 100000 in
set_option maxHeartbeats 4000000 in
theorem mul_big (m n:Nat) (hb:¬ (m<18446744073709551616∧n<18446744073709551616)) (hm:(wd m).length≤549755813888) (hn:(wd n).length≤549755813888) (w:World) :
  Calls Tryz.prog 93 #[natV m,natV n] w fun e w'=>e=.returned (natV (m*n))∧Below w.heap.size w w':=by
 have he1:=smallB_eq m
 have he2:=smallB_eq n
 have hsb:(smallB m && smallB n)=false:=by
  cases h1:smallB m with
  | false=>rfl
  | true=>
   cases h2:smallB n with
   | false=>rfl
   | true=>exact absurd ⟨of_decide_eq_true h1,of_decide_eq_true h2⟩ hb
 obtain⟨W0,hW0⟩:∃ W0,W0=((w.alloc (.cells #[.int .u64 (lo m),.string (bg m)] 66)).alloc (.cells #[.int .u64 (lo n),.string (bg n)] 66)).alloc (.cells #[.int .u64 0,.string ⟨#[]⟩] 66):=⟨_,rfl⟩
 have HW:=Lib.hid hW0
 clear hW0 hb
 go_enter Tryz.func93,Tryz.ntmps93
 go_upto_region 1 with fail
 rw[←HW.out]
 go_cut [22] (fun s wx=>s=.bool false∧W0=wx)
 case first=>
  as_aux_lemma=>
   have c0:W0.cell? ⟨w.heap.size,1,none⟩=some (.string (bg m)):=by rw[HW.out];simp[go_sem]
   have c1:W0.cell? ⟨w.heap.size+1,1,none⟩=some (.string (bg n)):=by rw[HW.out];simp[go_sem]
   cases hs:smallB m with
   | true=>rw[hs] at he1 hsb;simp only[Bool.true_and] at hsb;rw[hsb] at he2;go_wp2_with fail;go_meet;exact⟨rfl,rfl⟩
   | false=>rw[hs] at he1;go_wp2_with fail;go_meet;exact⟨rfl,rfl⟩
 case rest=>
  as_aux_lemma=>
   obtain⟨rfl,rfl⟩:=hcut
   have c0:W0.cell? ⟨w.heap.size,0,none⟩=some (.int .u64 (lo m)):=by rw[HW.out];simp[go_sem]
   have c1:W0.cell? ⟨w.heap.size,1,none⟩=some (.string (bg m)):=by rw[HW.out];simp[go_sem]
   have c2:W0.cell? ⟨w.heap.size+1,0,none⟩=some (.int .u64 (lo n)):=by rw[HW.out];simp[go_sem]
   have c3:W0.cell? ⟨w.heap.size+1,1,none⟩=some (.string (bg n)):=by rw[HW.out];simp[go_sem]
   have c4:W0.cell? ⟨w.heap.size+1+1,0,none⟩=some (.int .u64 0):=by rw[HW.out];simp[go_sem]
   have c5:W0.cell? ⟨w.heap.size+1+1,1,none⟩=some (.string ⟨#[]⟩):=by rw[HW.out];simp[go_sem]
   have f4:W0.frozen? ⟨w.heap.size+1+1,0,none⟩=false:=by rw[HW.out];simp[go_sem]
   have f5:W0.frozen? ⟨w.heap.size+1+1,1,none⟩=false:=by rw[HW.out];simp[go_sem]
   have hin:In w.heap.size w W0:=by rw[HW.out];exact(((In.self w).alloc _).alloc _).alloc _
   have h0:In (w.heap.size+1+1+1) W0 W0:=by have:=In.self W0;rw[HW.out,World.size_alloc,World.size_alloc,World.size_alloc,←HW.out] at this;exact this
   have HIN:=Lib.hid hin
   clear hin
   go_upto_region 4 with fail
   refine wp_region_mix (In (w.heap.size+1+1+1) W0) [(0,true),(2,true),(1,false),(3,false),(4,true),(5,true)] (by kernel_rfl) (by kernel_rfl) (by kernel_rfl) (by kernel_rfl) (fun _ _ d _ _ h=>by cases d <;> exact h) ?_ ?_
   ·exact h0.drew
   repeat (apply mix_take;(focus rfl);(focus rfl);(focus (intro w' hw';have hc:=hw'.cell;go_simp;exact rfl));refine tput ?_)
   (apply mix_run;(focus rfl);(focus rfl);intro K hK;go_simp)
   refine(words_any m (by omega) _).mono ?_
   rintro e w1 ⟨b1,xs,rfl,hx,hx1,hx2,hx3,hx4,hx5,hb1⟩
   have h1:=h0.drew.call hb1
   have A1:WordsAt w1 b1 xs m:=⟨hx,hx1,hx2,hx3,hx4⟩
   clear hx hx1 hx2 hx3 hx4 hx5 hb1
   (refine hK _ _ (h1) ?_;clear hK K;refine tput ?_)
   (apply mix_run;(focus rfl);(focus rfl);intro K hK;go_simp)
   refine(words_any n (by omega) _).mono ?_
   rintro e w2 ⟨b2,ys,rfl,hy,hy1,hy2,hy3,hy4,hy5,hb2⟩
   have h2:=h1.call hb2
   have A2:WordsAt w2 b2 ys n:=⟨hy,hy1,hy2,hy3,hy4⟩
   replace A1:=A1.call hb2
   clear hy hy1 hy2 hy3 hy4 hy5 hb2 h1
   (refine hK _ _ (h2) ?_;clear hK K;refine tput ?_)
   repeat (apply mix_take;(focus rfl);(focus rfl);(focus (intro w' hw';go_simp;exact rfl));refine tput ?_)
   refine mix_done ?_
   obtain⟨L,hL⟩:∃ L,L=(wd m).length:=⟨_,rfl⟩
   obtain⟨M,hM⟩:∃ M,M=(wd n).length:=⟨_,rfl⟩
   rw[←hL] at hm ⊢
   rw[←hM] at hn ⊢
   have HL:=Lib.hid hL
   have HM:=Lib.hid hM
   clear hL hM
   have hmk:=mk_u32 (L+M) (by omega)
   rw[show(((L+M:Nat)):Int)=(L:Int)+M by omega] at hmk
   go_upto_region 6 with fail
   obtain⟨g,hg⟩:∃ g,g=w2.heap.size:=⟨_,rfl⟩
   rw[←hg]
   have hB3:=Blk.made w2 (L+M)
   rw[←hg] at hB3
   have A3:=A1.call (Below.refl w2.heap.size w2 |>.alloc (Nat.le_refl _) (.cells (zrow (L+M)) 99))
   have A4:=A2.call (Below.refl w2.heap.size w2 |>.alloc (Nat.le_refl _) (.cells (zrow (L+M)) 99))
   have hI3:=h2.alloc (.cells (zrow (L+M)) 99)
   have hne1:g≠b1:=by have:=A1.blk.lt;omega
   have hne2:g≠b2:=by have:=A2.blk.lt;omega
   have hN:w.heap.size+1+1+1≤g:=by rw[hg];exact h2.siz
   clear hg hmk A1 A2 h2
   generalize w2.alloc (.cells (zrow (L+M)) 99)=w3 at *
   go_wp2
   go_loopw [55] (fun v55 wr=>∃ i zs,i≤L∧v55=.int .i64 (i:Nat)∧zs.length=L+M∧Digs zs∧Blk wr g zs∧WordsAt wr b1 xs m∧WordsAt wr b2 ys n∧In (w.heap.size+1+1+1) W0 wr ∧
    val zs=val ((wd m).take i)*n∧∀ j,i+M≤j→zs.getD j 0=0) (fun v55 _=>L - (intOf v55).toNat)
   case atStart=>exact⟨0,List.replicate (L+M) 0,Nat.zero_le _,rfl,List.length_replicate,digs_replicate _,hB3,A3,A4,hI3,by simp[val,val_replicate],fun j _=>by simp[List.getD_eq_getElem?_getD,List.getElem?_replicate];split <;> rfl⟩
   case round=>
    as_aux_lemma=>
     obtain⟨i,zs,hi,rfl,hz,hdz,hblk,A1,A2,hI,hv,hj0⟩:=hrel
     have HV:=Lib.hid hv
     have HZ:=Lib.hid hz
     clear hv hz
     by_cases hlt:i<L
     ·obtain⟨x,hx⟩:∃ x,x=(wd m).getD i 0:=⟨_,rfl⟩
      have hxl:x<4294967296:=by rw[hx];exact(wd_digs m).getD i
      have hcx:wr.cell? ⟨b1,i,none⟩=some (.int .u32 (x:Nat)):=by
       have:=A1.blk.cell (i:=i) (by have:=A1.le;rw[←HL.out] at this;omega)
       rw[←getD_take (l:=xs) (k:=(wd m).length) (by rw[←HL.out];exact hlt),A1.tk,←hx] at this
       exact this
      have HX:=Lib.hid hx
      clear hx
      have hle1:L≤xs.length:=by have:=A1.le;rw[←HL.out] at this;exact this
      go_upto_region 10 with fail
      go_wp2
      go_loopw [12,62] (fun v12 v62 wi=>∃ k c zi,k≤M∧v62=.int .i64 (k:Nat)∧v12=.int .u64 (c:Nat)∧c<4294967296∧zi.length=L+M∧Digs zi∧Blk wi g zi∧WordsAt wi b1 xs m∧WordsAt wi b2 ys n∧In (w.heap.size+1+1+1) W0 wi ∧
       val zi+4294967296 ^ (i+k)*c=val zs+4294967296 ^ i*(x*val ((wd n).take k))∧∀ j,i+M≤j→zi.getD j 0=0) (fun _ v62 _=>M - (intOf v62).toNat)
      case atStart=>exact⟨0,0,zs,Nat.zero_le _,rfl,rfl,by decide,HZ.out,hdz,hblk,A1,A2,hI,by simp[val],hj0⟩
      case round=>
       as_aux_lemma=>
        clear hblk A1 A2 hI hdz hj0 hcx hB3 A3 A4 hI3
        obtain⟨k,c,zi,hk,rfl,rfl,hcl,hzi,hdi,hblk,A1,A2,hI,hvi,hji⟩:=hrel
        have HVI:=Lib.hid hvi
        have HZI:=Lib.hid hzi
        have HJI:=Lib.hid hji
        clear hvi hzi hji
        by_cases hlk:k<M
        ·obtain⟨y,hy⟩:∃ y,y=(wd n).getD k 0:=⟨_,rfl⟩
         have hyl:y<4294967296:=by rw[hy];exact(wd_digs n).getD k
         have hcy:wr.cell? ⟨b2,k,none⟩=some (.int .u32 (y:Nat)):=by
          have:=A2.blk.cell (i:=k) (by have:=A2.le;rw[←HM.out] at this;omega)
          rw[←getD_take (l:=ys) (k:=(wd n).length) (by rw[←HM.out];exact hlk),A2.tk,←hy] at this
          exact this
         obtain⟨o,ho⟩:∃ o,o=zi.getD (i+k) 0:=⟨_,rfl⟩
         have hol:o<4294967296:=by rw[ho];exact hdi.getD _
         have hco:=hblk.cell (i:=i+k) (by rw[HZI.out];omega)
         rw[←ho] at hco
         have hfo:=hblk.frozen (i+k)
         have hle2:M≤ys.length:=by have:=A2.le;rw[←HM.out] at this;exact this
         have hxy:x*y≤18446744065119617025:=Nat.mul_le_mul (show x≤4294967295 by omega) (show y≤4294967295 by omega)
         obtain⟨s,hs⟩:∃ s,s=c+(x*y+o):=⟨_,rfl⟩
         have hsl:s<18446744073709551616:=by omega
         have hsI:(s:Int)=(c:Int)+((x:Int)*y+o):=by rw[hs];push_cast;rfl
         have hxyI:(0:Int)≤(x:Int)*y∧(x:Int)*y≤18446744065119617025:=by
          have:((x*y:Nat):Int)=(x:Int)*y:=by push_cast;rfl
          omega
         obtain⟨hxy0,hxy1⟩:=hxyI
         have hst:=mul_step (K:=4294967296 ^ k) (Nat.pow_add _ i k) HVI.out hs (a':=val (zi.set (i+k) (s % 4294967296))) (by rw[ho];exact val_set zi (i+k) _ (by rw[HZI.out];omega))
         rw[hy,←val_take_succ,←Nat.pow_succ] at hst
         have HS:=Lib.hid hst
         have HSI:=Lib.hid hsI
         have HY:=Lib.hid hy
         have HO:=Lib.hid ho
         have hB':=Lib.hid (hblk.set (i+k) (s % 4294967296))
         have hoff:(0:Int)≤(i:Int)+k∧(i:Int)+k<L+M:=by omega
         have hof2:((i:Int)+k).toNat=i+k:=by omega
         clear hst hsI hy ho hs hxy
         go_wp2_with fail
         rw[←HSI.out]
         refine⟨⟨k+1,s / 4294967296,zi.set (i+k) (s % 4294967296),hlk,by go_num,by go_num,by omega,by rw[List.length_set,HZI.out],hdi.set _ _ (Nat.mod_lt _ (by decide)), ?_,A1.other hne1 _,A2.other hne2 _,hI.setCell hN _,HS.out, ?_⟩,by simp[intOf];omega⟩
         ·have:=hB'.out
          rw[show(((s % 4294967296:Nat)):Int)=(s:Int) % 4294967296 by omega] at this
          exact this
         ·intro j hj
          rw[set_getD _ _ _ _ (by omega)]
          exact HJI.out j hj
        ·have hkM:k=M:=by omega
         have hvM:val zi+4294967296 ^ (i+M)*c=val zs+4294967296 ^ i*(x*n):=by
          have:=HVI.out
          rw[hkM,List.take_of_length_le (by have:=HM.out;omega),wd_val] at this
          exact this
         have hfo:=hblk.frozen (i+M)
         have hco:=hblk.cell (i:=i+M) (by rw[HZI.out];omega)
         have hst:=mul_row (a':=val (zi.set (i+M) c)) (W:=val ((wd m).take (i+1))) hvM (by have:=val_set zi (i+M) c (by rw[HZI.out];omega);rw[HJI.out _ (Nat.le_refl _)] at this;omega) HV.out (by rw[val_take_succ,←HX.out])
         have HS:=Lib.hid hst
         have hB':=Lib.hid (hblk.set (i+M) c)
         have hoff:(0:Int)≤(i:Int)+M∧(i:Int)+M<L+M:=by omega
         have hof2:((i:Int)+M).toNat=i+M:=by omega
         have hcm:(c:Int) % 4294967296=c:=by omega
         clear hst hkM hvM
         go_wp2_with fail
         exact⟨⟨i+1,zi.set (i+M) c,hlt,by go_num,by rw[List.length_set,HZI.out],hdi.set _ _ hcl,hB'.out,A1.other hne1 _,A2.other hne2 _,hI.setCell hN _,HS.out,fun j hj=>by rw[set_getD _ _ _ _ (by omega)];exact HJI.out j (by omega)⟩,by simp[intOf];omega⟩
     ·have hiL:i=L:=by omega
      have hval:val zs=m*n:=by
       have:=HV.out
       rw[hiL,List.take_of_length_le (by have:=HL.out;omega),wd_val] at this
       exact this
      have hof:=of_any wr g (L+M) (L+M) zs hblk hdz (by have:=HZ.out;omega) (Nat.le_refl _) (by omega) (by omega)
      rw[List.take_of_length_le (by have:=HZ.out;omega),hval] at hof
      have HOF:=Lib.hid hof
      have HN:=Lib.hid hN
      clear hiL hval hof hblk A1 A2 hB3 A3 A4 hI3 hN hj0
      go_wp2_with fail
      refine HOF.out.mono ?_
      rintro e w' ⟨rfl,hb⟩
      have h:=hI.call hb
      have hc':=h.cell
      have hf':=h.frozen
      clear hb hI
      go_wp2_with fail
      exact bodyPost_ret (v:=natV (m*n)) (by simp[results,Tryz.results93,go_sem,hc',c4,c5]) rfl ⟨rfl,(((HIN.out.trans (h.mono (by omega))).setCell (by simp;omega) _).setCell (by simp;omega) _).bel⟩
theorem mul_any (m n:Nat) (hm:(wd m).length≤549755813888) (hn:(wd n).length≤549755813888) (w:World) :
  Calls Tryz.prog 93 #[natV m,natV n] w fun e w'=>e=.returned (natV (m*n))∧Below w.heap.size w w':=by
 by_cases h:m<18446744073709551616∧n<18446744073709551616
 ·have:=mul_small m n h.1 h.2 w
  rw[show natV m=.agg #[.int .u64 m,.string ⟨#[]⟩] by rw[natV,lo_small h.1,bg_small h.1];rfl,show natV n=.agg #[.int .u64 n,.string ⟨#[]⟩] by rw[natV,lo_small h.2,bg_small h.2];rfl]
  exact this
 ·exact mul_big m n h hm hn w
end Gus
end
section
namespace Gus
open Go Go.RowKit Go.Proofs
theorem val_drop_step (l:List Nat) (k:Nat) (h:k<l.length):val (l.drop k)=l.getD k 0+4294967296*val (l.drop (k+1)):=by
 rw[List.drop_eq_getElem_cons h,val];simp[h]
set_option maxRecDepth 100000 in
set_option maxHeartbeats 1000000 in
theorem short_any (w:World) (b K cap y:Nat) (xs:List Nat) (hb:Blk w b xs) (hd:Digs xs) (hK:K≤xs.length) (hs:K≤1099511627776) (hy0:0<y) (hy:y<4294967296) :
  Calls Tryz.prog 167 #[.slice (some ⟨b,0,none⟩) K cap,.int .u32 (y:Nat)] w fun e w'=>∃ qs r,e=.returned (.tuple #[.slice (some ⟨w.heap.size,0,none⟩) K K,.int .u32 ((r:Nat):Int)])∧Blk w' w.heap.size qs∧qs.length=K∧Digs qs∧r<y ∧
   val (xs.take K)=val qs*y+r∧Below w.heap.size w w':=by
 have hmk:=mk_u32 K (by omega)
 have hB:=Blk.made w K
 have hB2:=hb.alloc (.cells (zrow K) 99)
 have hbel:Below w.heap.size w (w.alloc (.cells (zrow K) 99)):=(Below.refl _ w).alloc (Nat.le_refl _) _
 have hne:w.heap.size≠b:=by have:=hb.lt;omega
 go_enter Tryz.func167,Tryz.ntmps167
 go_upto_region 2 with fail
 generalize w.alloc (.cells (zrow K) 99)=w1 at *
 clear hmk
 go_wp2
 go_loopw [5,6] (fun v5 v6 wr=>∃ k qs r,k≤K∧v6=.int .i64 ((k:Nat) - 1)∧v5=.int .u32 ((r:Nat):Int)∧r<y∧qs.length=K - k∧Digs qs∧Blk wr w.heap.size (List.replicate k 0 ++ qs)∧Blk wr b xs∧Below w.heap.size w wr∧val ((xs.take K).drop k)=val qs*y+r) (fun _ v6 _=>(intOf v6+1).toNat)
 case atStart=>exact⟨K,[],0,Nat.le_refl _,rfl,rfl,hy0,by simp,.nil,by simpa using hB,hB2,hbel,by rw[List.drop_of_length_le (by rw[List.length_take];omega)];simp[val]⟩
 case round=>
  obtain⟨k,qs,r,hk,rfl,rfl,hr,hq,hdq,hbl,hbx,hbe,hv⟩:=hrel
  have HV:=Lib.hid hv
  have HQ:=Lib.hid hq
  clear hv hq hB hB2 hbel hb
  by_cases hk0:0<k
  ·obtain⟨j,rfl⟩:∃ j,k=j+1:=⟨k - 1,by omega⟩
   clear hk0
   rw[show(((j+1:Nat)):Int) - 1=(j:Int) by omega]
   obtain⟨x,hx⟩:∃ x,x=xs.getD j 0:=⟨_,rfl⟩
   have hxl:x<4294967296:=by rw[hx];exact hd.getD j
   have hcx:=hbx.cell (i:=j) (by omega)
   rw[←hx] at hcx
   have hcq:=hbl.cell (i:=j) (by rw[List.length_append,List.length_replicate];omega)
   have hfq:=hbl.frozen j
   obtain⟨q,hq⟩:∃ q,q=(r*4294967296+x) / y:=⟨_,rfl⟩
   obtain⟨s,hs⟩:∃ s,s=(r*4294967296+x) % y:=⟨_,rfl⟩
   have hqs:y*q+s=r*4294967296+x:=by rw[hq,hs];exact Nat.div_add_mod _ _
   have hsl:s<y:=by rw[hs];exact Nat.mod_lt _ hy0
   have hql:q<4294967296:=by rw[hq];apply Nat.div_lt_of_lt_mul;have:=Nat.mul_le_mul_right 4294967296 (show r+1≤y from hr);omega
   have hqI:((r:Int)*4294967296+x) / y=(q:Int):=by rw[hq,Int.natCast_ediv,Int.natCast_add,Int.natCast_mul];rfl
   have hsI:((r:Int)*4294967296+x) % y=(s:Int):=by rw[hs,Int.natCast_emod,Int.natCast_add,Int.natCast_mul];rfl
   have e:(List.replicate (j+1) 0 ++ qs).set j q=List.replicate j 0 ++ (q :: qs):=by
    rw[List.replicate_succ',List.append_assoc,List.set_append_right _ _ (by rw[List.length_replicate];exact Nat.le_refl _),List.length_replicate,Nat.sub_self];rfl
   have hval:val ((xs.take K).drop j)=val (q :: qs)*y+s:=by
    rw[val_drop_step _ _ (by rw[List.length_take];omega),HV.out,getD_take (by omega),←hx,val]
    grind
   have HE:=Lib.hid e
   have HVL:=Lib.hid hval
   have HX:=Lib.hid hx
   have HQI:=Lib.hid hqI
   have HSI:=Lib.hid hsI
   have hxI:(x:Int)<4294967296:=by omega
   clear hval hx hqI hsI hq hs hqs e
   go_wp2_with fail
   refine(div32 _ _ _ (by omega) (by omega) (by omega) (by omega) (by omega) _).mono ?_
   rintro e w' ⟨rfl,hb'⟩
   rw[HQI.out,HSI.out]
   have hcq':=keepCell hb' hcq
   have hfq':w'.frozen? ⟨w.heap.size,j,none⟩=false:=(hbl.call hb').frozen j
   clear hcq hfq hcx
   go_wp2_with fail
   refine⟨⟨j,q :: qs,s,by omega,rfl,rfl,hsl,by rw[List.length_cons,HQ.out];omega,hdq.cons hql, ?_,(hbx.call hb').other hne _,(hbe.trans (hb'.mono hbe.size)).setCell (Nat.le_refl _) _,HVL.out⟩,by simp[intOf]⟩
   rw[←HE.out]
   exact(hbl.call hb').set j q
  ·obtain rfl:k=0:=by omega
   have hv:=HV.out
   have hq:=HQ.out
   rw[List.drop_zero] at hv
   rw[Nat.sub_zero] at hq
   rw[List.replicate_zero,List.nil_append] at hbl
   have HV:=Lib.hid hv
   have HQ:=Lib.hid hq
   clear hv hq
   go_wp2_with fail
   refine bodyPost_ret (v:=.tuple #[.slice (some ⟨w.heap.size,0,none⟩) K K,.int .u32 ((r:Nat):Int)]) (by simp[results,Tryz.results167,go_sem]) rfl ⟨qs,r,rfl,hbl,HQ.out,hdq,hr,HV.out,hbe⟩
theorem shl_split (x s c:Nat) (hs:s<32) (hc:c<2 ^ s):((x*2 ^ s) % 4294967296)||| c=(x*2 ^ s) % 4294967296+c:=by
 have e:(x*2 ^ s) % 4294967296=2 ^ s*(x % 2 ^ (32 - s)):=by
  have h1:(4294967296:Nat)=2 ^ s*2 ^ (32 - s):=by rw[←Nat.pow_add,show s+(32 - s)=32 by omega]
  rw[h1,Nat.mul_comm x,Nat.mul_mod_mul_left]
 rw[e]
 exact(Nat.two_pow_add_eq_or_of_lt hc _).symm
set_option maxRecDepth 100000 in
set_option maxHeartbeats 1000000 in
theorem shifted_any (w:World) (b K cap s:Nat) (xs:List Nat) (hb:Blk w b xs) (hd:Digs xs) (hK:K≤xs.length) (hs:K≤1099511627776) (hs1:s<32) :
  Calls Tryz.prog 193 #[.slice (some ⟨b,0,none⟩) K cap,.int .i64 (s:Nat)] w fun e w'=>∃ zs,e=.returned (.slice (some ⟨w.heap.size,0,none⟩) ((K+1:Nat)) ((K+1:Nat)))∧Blk w' w.heap.size zs∧zs.length=K+1∧Digs zs ∧
   val zs=val (xs.take K)*2 ^ s∧Below w.heap.size w w':=by
 have hmk:=mk_u32 (K+1) (by omega)
 rw[show(((K+1:Nat)):Int)=(K:Int)+1 by omega] at hmk
 have hB:=Blk.made w (K+1)
 have hB2:=hb.alloc (.cells (zrow (K+1)) 99)
 have hbel:Below w.heap.size w (w.alloc (.cells (zrow (K+1)) 99)):=(Below.refl _ w).alloc (Nat.le_refl _) _
 have hne:w.heap.size≠b:=by have:=hb.lt;omega
 go_enter Tryz.func193,Tryz.ntmps193
 go_upto_region 3 with fail
 generalize w.alloc (.cells (zrow (K+1)) 99)=w1 at *
 clear hmk
 go_wp2
 go_loopw [6,15] (fun v6 v15 wr=>∃ k zs c,k≤K∧v15=.int .i64 (k:Nat)∧v6=.int .u32 ((c:Nat):Int)∧c<2 ^ s∧zs.length=k∧Digs zs∧Blk wr w.heap.size (zs ++ List.replicate (K+1 - k) 0)∧Blk wr b xs∧Below w.heap.size w wr∧val zs+4294967296 ^ k*c=val (xs.take k)*2 ^ s) (fun _ v15 _=>K - (intOf v15).toNat)
 case atStart=>exact⟨0,[],0,Nat.zero_le _,rfl,rfl,Nat.two_pow_pos _,rfl,.nil,by simpa using hB,hB2,hbel,by simp[val]⟩
 case round=>
  obtain⟨k,zs,c,hk,rfl,rfl,hc,hz,hdz,hbl,hbx,hbe,hv⟩:=hrel
  have HV:=Lib.hid hv
  have HZ:=Lib.hid hz
  clear hv hz hB hB2 hbel hb
  have hcB:c<4294967296:=Nat.lt_of_lt_of_le hc (by have:2 ^ s≤2 ^ 32:=Nat.pow_le_pow_right (by decide) (by omega);simpa using this)
  have hcq:=hbl.cell (i:=k) (by rw[List.length_append,List.length_replicate,HZ.out];omega)
  have hfq:=hbl.frozen k
  by_cases hlt:k<K
  ·obtain⟨x,hx⟩:∃ x,x=xs.getD k 0:=⟨_,rfl⟩
   have hxl:x<4294967296:=by rw[hx];exact hd.getD k
   have hcx:=hbx.cell (i:=k) (by omega)
   rw[←hx] at hcx
   obtain⟨P,hP⟩:∃ P,P=x*2 ^ s:=⟨_,rfl⟩
   have hPI:(x:Int)*2 ^ s=(P:Int):=by rw[hP,Int.natCast_mul,Int.natCast_pow];rfl
   have hsp:=shl_split x s c hs1 hc
   rw[←hP] at hsp
   obtain⟨z,hz⟩:∃ z,z=P % 4294967296+c:=⟨_,rfl⟩
   have hzl:z<4294967296:=by
    rw[hz,←hsp]
    exact Nat.or_lt_two_pow (n:=32) (Nat.mod_lt _ (by decide)) hcB
   have hzI:bits .or .u32 ((P:Int) % 4294967296) (c:Int)=(z:Int):=by
    rw[show(P:Int) % 4294967296=((P % 4294967296:Nat):Int) by omega,u32_or_nat _ _ (Nat.mod_lt _ (by decide)) hcB,hsp,←hz]
   have hPl:P<4294967296*2 ^ s:=by rw[hP];exact Nat.mul_lt_mul_of_pos_right hxl (Nat.two_pow_pos _)
   have hcn:P / 4294967296<2 ^ s:=Nat.div_lt_of_lt_mul hPl
   have hPl2:P<18446744073709551616:=Nat.lt_of_lt_of_le hPl (by have:2 ^ s≤2 ^ 32:=Nat.pow_le_pow_right (by decide) (by omega);omega)
   have hval:val (zs ++ [z])+4294967296 ^ (k+1)*(P / 4294967296)=val (xs.take (k+1))*2 ^ s:=by
    rw[val_snoc,HZ.out,val_take_succ,←hx,Nat.add_mul,←HV.out,Nat.mul_assoc,←hP,hz,Nat.pow_succ]
    have:=Nat.div_add_mod P 4294967296
    generalize P / 4294967296=q at *
    generalize P % 4294967296=r at *
    rw[←this];grind
   have hset:=hbl.set k z
   have e:(zs ++ List.replicate (K+1 - k) 0).set k z=(zs ++ [z]) ++ List.replicate (K+1 - (k+1)) 0:=by
    rw[List.set_append_right _ _ (by rw[HZ.out];exact Nat.le_refl _),HZ.out,Nat.sub_self,show K+1 - k=(K+1 - (k+1))+1 by omega,List.replicate_succ,List.set_cons_zero,List.append_assoc];rfl
   rw[e] at hset
   have HS:=Lib.hid hset
   have HVL:=Lib.hid hval
   have HX:=Lib.hid hx
   have HCN:=Lib.hid hcn
   have HC:=Lib.hid hc
   have hpo:(0:Int)≤(P:Int) / 4294967296∧(P:Int) / 4294967296<4294967296:=by omega
   clear hset hval hx hcn hsp hz e hP hPl hc
   go_wp2_with fail
   refine⟨⟨k+1,zs ++ [z],P / 4294967296,hlt,by go_num,by go_num,HCN.out,by rw[List.length_append,HZ.out];rfl,hdz.append (.cons hzl .nil),HS.out,hbx.other hne _,hbe.setCell (Nat.le_refl _) _,HVL.out⟩,by simp[intOf];omega⟩
  ·have hkK:k=K:=by omega
   have hlast:zs ++ List.replicate (K+1 - k) 0=zs ++ [0]:=by rw[hkK,show K+1 - K=1 by omega];rfl
   rw[hlast] at hbl
   have hset:=hbl.set k c
   have e:(zs ++ [0]).set k c=zs ++ [c]:=by
    rw[List.set_append_right _ _ (by rw[HZ.out];exact Nat.le_refl _),HZ.out,Nat.sub_self];rfl
   rw[e,hkK] at hset
   have hval:val (zs ++ [c])=val (xs.take K)*2 ^ s:=by
    rw[val_snoc,HZ.out,HV.out,hkK]
   have hKk:=Lib.hid hkK
   have HS:=Lib.hid hset
   have HVL:=Lib.hid hval
   rw[hkK] at hcq hfq
   clear hset hval e hlast hkK
   go_wp2_with fail
   exact bodyPost_ret (v:=.slice (some ⟨w.heap.size,0,none⟩) ((K:Nat)+1:Nat) ((K:Nat)+1:Nat)) (by simp[results,Tryz.results193,go_sem]) rfl ⟨zs ++ [c],rfl,HS.out,by rw[List.length_append,HZ.out,hKk.out];rfl,hdz.append (.cons hcB .nil),HVL.out,hbe.setCell (Nat.le_refl _) _⟩
end Gus
end
section
namespace Gus
open Go Go.RowKit Go.Proofs
section
variable {w0 w w':World} {b:Nat} {row:Option Nat}
theorem gr_refl (w:World) (row:Option Nat):w.grownBy w row:=⟨rfl,rfl,rfl,Nat.le_refl _,fun _ _ _=>rfl⟩
theorem gr_set (h:w0.grownBy w (some b)) (i:Nat) (v:Value):w0.grownBy (w.setCell ⟨b,i,none⟩ v) (some b):=
 ⟨by rw[←h.os];rfl,by rw[←h.tape];rfl,by rw[←h.output];rfl,by rw[World.size_setCell];exact h.size,fun j hj hne=>by
  rw[heap_setCell_other w ⟨b,i,none⟩ j v (fun e=>hne (congrArg some e))];exact h.block j hj hne⟩
theorem gr_call (h:w0.grownBy w row) (hb:Below w.heap.size w w'):w0.grownBy w' row:=
 ⟨hb.os.trans h.os,hb.tape.trans h.tape,hb.output.trans h.output,Nat.le_trans h.size hb.size,fun j hj hne=>(hb.block j (Nat.lt_of_lt_of_le hj h.size)).trans (h.block j hj hne)⟩
theorem gr_below {N:Nat} (h:w.grownBy w' (some b)) (hb:N≤b) (hs:N≤w.heap.size):Below N w w':=
 ⟨h.os,h.tape,h.output,h.size,fun j hj=>h.block j (by omega) (fun e=>by cases e;omega)⟩
theorem gr_drew (h:w0.grownBy w row):w0.grownBy w.drew row:=gr_call h ((Below.refl _ _).drew)
end
theorem half_or (x y:Nat) (hx:x<4294967296):bits .or .u32 ((x:Int) / 2) (IntKind.u32.wrap ((y:Int)*2147483648))=((x / 2+2147483648*(y % 2):Nat):Int):=by
 rw[IntKind.wrap_u32,show(x:Int) / 2=((x / 2:Nat):Int) by omega,show(y:Int)*2147483648 % 4294967296=((2 ^ 31*(y % 2):Nat):Int) by omega,u32_or_nat _ _ (by omega) (by omega),Nat.or_comm,
  ←Nat.two_pow_add_eq_or_of_lt (show x / 2<2 ^ 31 by omega),Nat.add_comm]
theorem half_step {zs z o x y t v:Nat} (h:2*zs+o=v+t*(x % 2)) (hz:z=x / 2+2147483648*(y % 2)):2*(zs+t*z)+o=v+t*x+t*4294967296*(y % 2):=by
 have e:t*(2*z)=t*(2*(x / 2)+4294967296*(y % 2)):=by rw[hz];congr 1;omega
 have e2:t*(2*(x / 2)+x % 2)=t*x:=by congr 1;omega
 grind
set_option maxRecDepth 100000 in
set_option maxHeartbeats 1000000 in
theorem half_any (w:World) (b L cap:Nat) (xs:List Nat) (hb:Blk w b xs) (hd:Digs xs) (hL:L=xs.length) (hs:L≤1099511627776) :
  Calls Tryz.prog 195 #[.slice (some ⟨b,0,none⟩) L cap] w fun e w'=>∃ zs,e=.returned (.tuple #[])∧Blk w' b zs∧zs.length=L∧Digs zs∧val zs=val xs / 2∧w.grownBy w' (some b):=by
 have HL:=Lib.hid hL
 clear hL
 go_enter Tryz.func195,Tryz.ntmps195
 go_wp2_with fail
 go_loopw [5] (fun v5 wr=>∃ k zs,k≤L∧v5=.int .i64 (k:Nat)∧zs.length=k∧Digs zs∧Blk wr b (zs ++ xs.drop k)∧w.grownBy wr (some b)∧2*val zs+xs.getD 0 0 % 2=val (xs.take k)+4294967296 ^ k*(xs.getD k 0 % 2)) (fun v5 _=>L - (intOf v5).toNat)
 case atStart=>exact⟨0,[],Nat.zero_le _,rfl,rfl,.nil,hb,gr_refl _ _,by simp[val]⟩
 case round=>
  obtain⟨k,zs,hk,rfl,hz,hdz,hbl,hgr,hv⟩:=hrel
  have HV:=Lib.hid hv
  have HZ:=Lib.hid hz
  clear hv hz hb
  by_cases hlt:k<L
  ·obtain⟨x,hx⟩:∃ x,x=xs.getD k 0:=⟨_,rfl⟩
   have hxl:x<4294967296:=by rw[hx];exact hd.getD k
   have hlen:(zs ++ xs.drop k).length=L:=by rw[List.length_append,List.length_drop,←HL.out,HZ.out];omega
   have hcq:=hbl.cell (i:=k) (by rw[hlen];exact hlt)
   have e0:(zs ++ xs.drop k).getD k 0=x:=by
    rw[List.getD_eq_getElem?_getD,List.getElem?_append_right (by rw[HZ.out];exact Nat.le_refl _),HZ.out,Nat.sub_self,List.getElem?_drop,Nat.add_zero,hx,List.getD_eq_getElem?_getD]
   rw[e0] at hcq
   have hfq:=hbl.frozen k
   have e:∀ z,(zs ++ xs.drop k).set k z=(zs ++ [z]) ++ xs.drop (k+1):=fun z=>by
    rw[List.set_append_right _ _ (by rw[HZ.out];exact Nat.le_refl _),HZ.out,Nat.sub_self,List.drop_eq_getElem_cons (by rw[←HL.out];exact hlt),List.set_cons_zero,List.append_assoc];rfl
   have hset:=hbl.set k (x / 2)
   rw[e] at hset
   have hg2:=gr_set hgr k (.int .u32 ((x / 2:Nat):Int))
   rw[show(((x / 2:Nat)):Int)=(x:Int) / 2 by omega] at hset hg2
   have HX:=Lib.hid hx
   have HE:=Lib.hid e
   clear hlen e0 e hx
   go_upto_region 4 with fail
   generalize wr.setCell ⟨b,k,none⟩ (.int .u32 ((x:Int) / 2))=w1 at *
   clear hcq hfq hbl hgr
   obtain⟨y,hy⟩:∃ y,y=xs.getD (k+1) 0:=⟨_,rfl⟩
   have hyl:y<4294967296:=by rw[hy];exact hd.getD _
   have hcq:=hset.cell (i:=k) (by rw[List.length_append,List.length_append,HZ.out,List.length_drop,←HL.out,List.length_singleton];omega)
   have e0:((zs ++ [x / 2]) ++ xs.drop (k+1)).getD k 0=x / 2:=by
    rw[List.getD_eq_getElem?_getD,List.append_assoc,List.getElem?_append_right (by rw[HZ.out];exact Nat.le_refl _),HZ.out,Nat.sub_self];rfl
   rw[e0] at hcq
   have hfq:=hset.frozen k
   have hset2:∀ z,((zs ++ [x / 2]) ++ xs.drop (k+1)).set k z=(zs ++ [z]) ++ xs.drop (k+1):=fun z=>by
    rw[List.append_assoc,List.set_append_right _ _ (by rw[HZ.out];exact Nat.le_refl _),HZ.out,Nat.sub_self,List.append_assoc];rfl
   rw[show(((x / 2:Nat)):Int)=(x:Int) / 2 by omega] at hcq
   by_cases hl2:k+1<L
   ·have hcy:=hset.cell (i:=k+1) (by rw[List.length_append,List.length_append,HZ.out,List.length_drop,←HL.out,List.length_singleton];omega)
    have e1:((zs ++ [x / 2]) ++ xs.drop (k+1)).getD (k+1) 0=y:=by
     rw[List.getD_eq_getElem?_getD,List.getElem?_append_right (by rw[List.length_append,HZ.out];exact Nat.le_refl _),List.length_append,HZ.out,List.length_singleton,Nat.sub_self,List.getElem?_drop,Nat.add_zero,hy,List.getD_eq_getElem?_getD]
    rw[e1] at hcy
    obtain⟨z,hz⟩:∃ z,z=x / 2+2147483648*(y % 2):=⟨_,rfl⟩
    have hor:=half_or x y hxl
    rw[←hz] at hor
    have hzl:z<4294967296:=by omega
    have hst:=half_step (z:=z) (y:=y) HV.out (by rw[←HX.out];exact hz)
    rw[←val_take_succ,←Nat.pow_succ] at hst
    have hset3:=hset.set k z
    rw[hset2] at hset3
    have hst':2*val (zs ++ [z])+xs.getD 0 0 % 2=val (xs.take (k+1))+4294967296 ^ (k+1)*(xs.getD (k+1) 0 % 2):=by
     rw[val_snoc,HZ.out,←hy];exact hst
    have HS:=Lib.hid hset3
    have HST:=Lib.hid hst'
    clear hz hy hst hset3 hst' e0 e1
    have hwk:IntKind.i64.wrap ((k:Int)+1)=(k:Int)+1:=by simp[IntKind.wrap,IntKind.bits,IntKind.signed];omega
    have hk1:(0:Int)≤(k:Int)+1:=by omega
    have hk2:(k:Int)+1<L:=by omega
    have hk3:((k:Int)+1).toNat=k+1:=by omega
    go_upto_region 5 with fail
    (refine wp_region_tail (fun w'=>w'=w1.drew) 12 (by kernel_rfl) (by kernel_rfl) rfl ?_;simp only[List.take_succ_cons,List.take_zero,List.drop_succ_cons,List.drop_zero];(repeat (first |(apply wpQuiet_run;(focus rfl);(focus (rintro _ rfl;go_simp;exact rfl));refine tput ?_)|(apply wpQuiet_skip;(focus rfl);refine tput ?_)));refine wpQuiet_nil ?_;rintro _ rfl)
    have hcq2:w1.drew.cell? ⟨b,k,none⟩=some (.int .u32 ((x:Int) / 2)):=hcq
    have hfq2:w1.drew.frozen? ⟨b,k,none⟩=false:=hfq
    have hg3:=gr_drew hg2
    have hB3:Blk (w1.drew.setCell ⟨b,k,none⟩ (.int .u32 (z:Int))) b (zs ++ [z] ++ xs.drop (k+1)):=by
     rw[←hset2];exact hset.drew.set k z
    generalize w1.drew=w2 at *
    clear hor hwk hcq hfq hset hg2 hk3 HS hset2
    go_wp2_with fail
    refine⟨⟨k+1,zs ++ [z],hlt,by go_num,by rw[List.length_append,HZ.out];rfl,hdz.append (.cons hzl .nil),hB3,gr_set hg3 k _,HST.out⟩,by simp[intOf];omega⟩
   ·have hy0:y=0:=by rw[hy,List.getD_eq_getElem?_getD,List.getElem?_eq_none (by rw[←HL.out];omega)];rfl
    have hst:=half_step (z:=x / 2) (y:=y) HV.out (by rw[←HX.out,hy0];omega)
    rw[←val_take_succ,←Nat.pow_succ] at hst
    have hst':2*val (zs ++ [x / 2])+xs.getD 0 0 % 2=val (xs.take (k+1))+4294967296 ^ (k+1)*(xs.getD (k+1) 0 % 2):=by
     rw[val_snoc,HZ.out,←hy];exact hst
    have HST:=Lib.hid hst'
    clear hy hst hst' e0 hset2 hy0
    go_wp2_with fail
    exact⟨⟨k+1,zs ++ [x / 2],hlt,by go_num,by rw[List.length_append,HZ.out];rfl,hdz.append (.cons (by omega) .nil),hset,hg2,HST.out⟩,by simp[intOf];omega⟩
  ·have hkL:k=L:=by omega
   have hv:=HV.out
   rw[hkL,List.take_of_length_le (by rw[←HL.out];exact Nat.le_refl _),show xs.getD L 0=0 by rw[List.getD_eq_getElem?_getD,List.getElem?_eq_none (by rw[←HL.out];exact Nat.le_refl _)];rfl] at hv
   have hz2:=HZ.out
   rw[hkL] at hz2
   rw[hkL,List.drop_of_length_le (by rw[←HL.out];exact Nat.le_refl _),List.append_nil] at hbl
   have hval:val zs=val xs / 2:=by rw[Nat.zero_mod,Nat.mul_zero] at hv;omega
   have HVL:=Lib.hid hval
   have HZ2:=Lib.hid hz2
   clear hval hv hkL hz2
   go_wp2_with fail
   exact bodyPost_end (v:=.tuple #[]) (by simp[results,Tryz.results195,go_sem]) rfl ⟨zs,rfl,hbl,HZ2.out,hdz,HVL.out,hgr⟩
end Gus
end
