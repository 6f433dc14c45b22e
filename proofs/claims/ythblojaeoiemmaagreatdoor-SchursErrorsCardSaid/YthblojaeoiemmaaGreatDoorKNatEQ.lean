/- Proved here: parts of the proof: KNatE KNatF. Conditions: those that each theorem states. -/
import Derived.Test.YthblojaeoiemmaaGreatDoorShelfAQ
import Derived.Laws.CopyOwn
import Derived.Deep.DeepCutAuto
section
namespace Gus
open Go Go.RowKit Go.Proofs
theorem val_take_succ (l:List Nat) (i:Nat):val (l.take (i+1))=val (l.take i)+4294967296 ^ i*l.getD i 0:=by
 by_cases h:i<l.length
 ·rw[List.take_succ_eq_append_getElem h,val_snoc,List.length_take,Nat.min_eq_left (by omega)]
  simp[h]
 ·rw[List.take_of_length_le (by omega),List.take_of_length_le (by omega)]
  simp[show l.length≤i by omega]
def smallB (m:Nat):Bool:=decide (m<18446744073709551616)
theorem smallB_eq (m:Nat):(bg m).toList.isEmpty=smallB m:=by
 unfold smallB
 by_cases h:m<18446744073709551616
 ·rw[(bg_small_iff m).2 h];simp[h]
 ·have:¬ (bg m).toList=[]:=fun e=>h ((bg_small_iff m).1 e)
  cases he:(bg m).toList with
  | nil=>exact absurd he this
  | cons _ _=>simp[h]
theorem smallB_true {m:Nat} (h:m<18446744073709551616):smallB m=true:=by unfold smallB;simp[h]
theorem smallB_false {m:Nat} (h:¬ m<18446744073709551616):smallB m=false:=by unfold smallB;simp[h]
structure WordsAt (w:World) (b:Nat) (xs:List Nat) (n:Nat):Prop where
 blk:Blk w b xs
 tk:xs.take (wd n).length=wd n
 le:(wd n).length≤xs.length
 cap:xs.length≤1099511627776
 dig:Digs xs
theorem WordsAt.call {w w':World} {b:Nat} {xs:List Nat} {n:Nat} (h:WordsAt w b xs n) (hb:Below w.heap.size w w'):WordsAt w' b xs n:=⟨h.blk.call hb,h.tk,h.le,h.cap,h.dig⟩
theorem sz_u32:(Tryz.prog.info? 99).map (·.size)=some 1:=by kernel_rfl
theorem u32v_one:∀ (l:List Nat),∀ v∈l.map u32v,v.oneCell'=true:=by
 intro l v hv
 obtain⟨d,_,rfl⟩:=List.mem_map.1 hv
 rfl
theorem wpList_copy_words {ops:Array Oper} {rest:List Oper} {o:Oper} {a:Act} {Q:Exit→Act→World→Prop} {w:World} (hgd:o.guard=none) (d s:Operand)
  (ho:o.op=.call { callee:=.builtin .copy,args:=#[d,s],argTypes:=#[206,206] }) (g b L K c1 c2:Nat) (hd:a.eval d=.slice (some ⟨g,0,none⟩) L c1) (hs:a.eval s=.slice (some ⟨b,0,none⟩) K c2)
  (zs xs:List Nat) (hz:Blk w g zs) (hx:Blk w b xs) (hK:K≤xs.length) (hKL:K≤L) (hL:L≤zs.length)
  (h:∀ w',Blk w' g (xs.take K ++ zs.drop K)→Below g w w'→wpList Tryz.prog ops Q rest (a.put o.dst (goInt K)) w'):wpList Tryz.prog ops Q (o :: rest) a w:=by
 refine wpList_copy_splice hgd d s 206 206 ho 99 Tryz.underlying206 sz_u32 _ _ L c1 K c2 hd hs g 0 (zs.map u32v) 99 hz ((xs.take K).map u32v) ?_ ?_ ?_ (u32v_one _) g w (.refl _ _) (Nat.le_refl _) ?_
 ·rw[List.length_map,List.length_take,Nat.min_eq_left hK];exact(Nat.min_eq_left hKL).symm
 ·refine fun _=>⟨rfl,_,rfl,fun j v hj=>?_⟩
  have hjl:j<K:=by
   rcases Nat.lt_or_ge j K with h | h
   ·exact h
   ·rw[List.getElem?_eq_none (by simp;omega)] at hj;cases hj
  have h1:=hx.cell (i:=j) (by omega)
  have e:(⟨b,0,none⟩:Addr).add j=⟨b,j,none⟩:=by unfold Addr.add;split <;> simp_all
  rw[e,h1,←hj]
  simp[u32v,show j<K from hjl,show j<xs.length by omega]
 ·rw[List.length_map,List.length_map,List.length_take];omega
 ·intro w' hg hb
  have hlen:((xs.take K).map u32v).length=K:=by rw[List.length_map,List.length_take,Nat.min_eq_left hK]
  have hsp:splice (zs.map u32v) 0 ((xs.take K).map u32v)=(xs.take K ++ zs.drop K).map u32v:=by
   unfold splice
   rw[List.take_zero,List.nil_append,List.map_append,hlen,Nat.zero_add,List.map_drop]
  have hB:Blk w' g (xs.take K ++ zs.drop K):=by
   have:=hg.out
   rw[hsp] at this
   exact this
  have:=h w' hB hb
  rwa [←hlen] at this
theorem step_sum (zs c x y t:Nat):zs+t*((x+y+c) % 4294967296)+t*4294967296*((x+y+c) / 4294967296)=(zs+t*c)+t*x+t*y:=by
 have:=Nat.div_add_mod (x+y+c) 4294967296
 generalize (x+y+c) / 4294967296=a at *
 generalize (x+y+c) % 4294967296=b at *
 have e:t*(4294967296*a+b)=t*(x+y+c):=by rw[this]
 grind
theorem WordsAt.other {w:World} {b:Nat} {xs:List Nat} {n:Nat} (h:WordsAt w b xs n) {a:Addr} (hne:a.block≠b) (v:Value):WordsAt (w.setCell a v) b xs n:=⟨h.blk.other hne v,h.tk,h.le,h.cap,h.dig⟩
theorem top_zero' {P p q zs c:Nat} (hp:p<P) (hq:q<P) (h:zs+P*4294967296*c=p+q):zs=p+q:=by
 cases c with
 | zero=>rw[Nat.mul_zero] at h;exact h
 | succ d=>
  rw[Nat.mul_succ] at h
  generalize P*4294967296*d=Z at h
  omega
theorem top_zero {L M p q zs c:Nat} (hp:p<4294967296 ^ L) (hq:q<4294967296 ^ M) (hM:M≤L) (h:zs+4294967296 ^ (L+1)*c=p+q):zs=p+q:=by
 rw[Nat.pow_succ] at h
 exact top_zero' hp (Nat.lt_of_lt_of_le hq (Nat.pow_le_pow_right (by decide) hM)) h
def AddP (N:Nat) (W0:World) (sum:Nat) (v7 v8:Value) (w:World):Prop:=∃ b1 xs p b2 ys q,v7=.slice (some ⟨b1,0,none⟩) (wd p).length xs.length∧v8=.slice (some ⟨b2,0,none⟩) (wd q).length ys.length ∧
 WordsAt w b1 xs p∧WordsAt w b2 ys q∧p+q=sum∧(wd q).length≤(wd p).length∧(wd p).length≤549755813888∧In N W0 w
set_option maxRecDepth 100000 in
set_option maxHeartbeats 4000000 in
theorem add_any (m n:Nat) (hm:(wd m).length≤549755813888) (hn:(wd n).length≤549755813888) (w:World) :
  Calls Tryz.prog 143 #[natV m,natV n] w fun e w'=>e=.returned (natV (m+n))∧Below w.heap.size w w':=by
 have he1:=smallB_eq m
 have he2:=smallB_eq n
 obtain⟨W0,hW0⟩:∃ W0,W0=((w.alloc (.cells #[.int .u64 (lo m),.string (bg m)] 66)).alloc (.cells #[.int .u64 (lo n),.string (bg n)] 66)).alloc (.cells #[.int .u64 0,.string ⟨#[]⟩] 66):=⟨_,rfl⟩
 have HW:=Lib.hid hW0
 clear hW0
 go_enter Tryz.func143,Tryz.ntmps143
 go_upto_region 1 with fail
 rw[←HW.out]
 go_cut [20] (fun s wx=>s=.bool (smallB m && smallB n)∧W0=wx)
 case first=>
  as_aux_lemma=>
   have c0:W0.cell? ⟨w.heap.size,1,none⟩=some (.string (bg m)):=by rw[HW.out];simp[go_sem]
   have c1:W0.cell? ⟨w.heap.size+1,1,none⟩=some (.string (bg n)):=by rw[HW.out];simp[go_sem]
   cases hs:smallB m with
   | true=>rw[hs] at he1;go_wp2_with fail;go_meet;exact⟨by simp[hs],rfl⟩
   | false=>rw[hs] at he1;go_wp2_with fail;go_meet;exact⟨by simp[hs],rfl⟩
 case rest=>
  as_aux_lemma=>
   obtain⟨rfl,rfl⟩:=hcut
   have c0:W0.cell? ⟨w.heap.size,0,none⟩=some (.int .u64 (lo m)):=by rw[HW.out];simp[go_sem]
   have c1:W0.cell? ⟨w.heap.size,1,none⟩=some (.string (bg m)):=by rw[HW.out];simp[go_sem]
   have c2:W0.cell? ⟨w.heap.size+1,0,none⟩=some (.int .u64 (lo n)):=by rw[HW.out];simp[go_sem]
   have c3:W0.cell? ⟨w.heap.size+1,1,none⟩=some (.string (bg n)):=by rw[HW.out];simp[go_sem]
   have c4:W0.cell? ⟨w.heap.size+1+1,0,none⟩=some (.int .u64 0):=by rw[HW.out];simp[go_sem]
   have c5:W0.cell? ⟨w.heap.size+1+1,1,none⟩=some (.string ⟨#[]⟩):=by rw[HW.out];simp[go_sem]
   have f4:W0.frozen? ⟨w.heap.size+1+1,0,none⟩=false:=by rw[HW.out];simp[go_sem]
   have f5:W0.frozen? ⟨w.heap.size+1+1,1,none⟩=false:=by rw[HW.out];simp[go_sem]
   have hin:In w.heap.size w W0:=by rw[HW.out];exact(((In.self w).alloc _).alloc _).alloc _
   have h0:In (w.heap.size+1+1+1) W0 W0:=by have:=In.self W0;rw[HW.out,World.size_alloc,World.size_alloc,World.size_alloc,←HW.out] at this;exact this
   have HIN:=Lib.hid hin
   clear hin
   by_cases hsum:m+n<18446744073709551616
   ·have h1:m<18446744073709551616:=by omega
    have h2:n<18446744073709551616:=by omega
    rw[smallB_true h1,smallB_true h2]
    rw[lo_small h1] at c0
    rw[lo_small h2] at c2
    rw[bg_small h1] at c1
    rw[bg_small h2] at c3
    have ha:=add64_run m n (by omega) (by omega) W0
    rw[show((m:Int)+n) % 18446744073709551616=((m+n:Nat):Int) by omega,show((m:Int)+n) / 18446744073709551616=0 by omega] at ha
    have e:natV (m+n)=.agg #[.int .u64 ((m+n:Nat):Int),.string ⟨#[]⟩]:=by rw[natV,lo_small hsum,bg_small hsum];rfl
    have HE:=Lib.hid e
    have HS:=Lib.hid hsum
    clear e hsum
    go_wp2_with fail
    exact bodyPost_ret (v:=.agg #[.int .u64 ((m+n:Nat):Int),.string ⟨#[]⟩]) (by simp[results,Tryz.results143,go_sem,c4,c5]) rfl ⟨by rw[HE.out],(((HIN.out).setCell (by simp;omega) _).setCell (by simp;omega) _).bel⟩
   ·have HS:=Lib.hid hsum
    clear hsum
    go_upto_if 20 with fail
    go_cut [] (fun wx=>W0=wx)
    case first=>
     as_aux_lemma=>
      by_cases hb:m<18446744073709551616∧n<18446744073709551616
      ·obtain⟨h1,h2⟩:=hb
       rw[lo_small h1] at c0
       rw[lo_small h2] at c2
       have ha:=add64_run m n (by omega) (by omega) W0
       rw[show((m:Int)+n) / 18446744073709551616=1 by have:=HS.out;omega] at ha
       have e1:=smallB_true h1
       have e2:=smallB_true h2
       have hsb:(smallB m && smallB n)=true:=by rw[e1,e2];rfl
       rw[hsb]
       go_wp2_with fail
       go_meet
       exact rfl
      ·have hsb:(smallB m && smallB n)=false:=by
        cases h1:smallB m with
        | false=>rfl
        | true=>
         cases h2:smallB n with
         | false=>rfl
         | true=>exact absurd ⟨of_decide_eq_true h1,of_decide_eq_true h2⟩ hb
       rw[hsb]
       clear hb
       go_wp2_with fail
       go_meet
       exact rfl
    case rest=>
     as_aux_lemma=>
      subst hcut
      go_upto_region 5 with fail
      refine wp_region_mix (In (w.heap.size+1+1+1) W0) [(0,true),(2,true),(1,false),(3,false),(4,true),(5,true)] (by kernel_rfl) (by kernel_rfl) (by kernel_rfl) (by kernel_rfl) (fun _ _ d _ _ h=>by cases d <;> exact h) ?_ ?_
      ·exact h0.drew
      repeat (apply mix_take;(focus rfl);(focus rfl);(focus (intro w' hw';have hc:=hw'.cell;go_simp;exact rfl));refine tput ?_)
      (apply mix_run;(focus rfl);(focus rfl);intro K hK;go_simp)
      refine(words_any m (by omega) _).mono ?_
      rintro e w1 ⟨b1,xs,rfl,hx,hx1,hx2,hx3,hx4,hx5,hb1⟩
      have h1:=h0.drew.call hb1
      have A1:WordsAt w1 b1 xs m:=⟨hx,hx1,hx2,hx3,hx4⟩
      clear hx hx1 hx2 hx3 hx4 hx5 hb1
      (refine hK _ _ (h1) ?_;clear hK K;refine tput ?_)
      (apply mix_run;(focus rfl);(focus rfl);intro K hK;go_simp)
      refine(words_any n (by omega) _).mono ?_
      rintro e w2 ⟨b2,ys,rfl,hy,hy1,hy2,hy3,hy4,hy5,hb2⟩
      have h2:=h1.call hb2
      have A2:WordsAt w2 b2 ys n:=⟨hy,hy1,hy2,hy3,hy4⟩
      replace A1:=A1.call hb2
      clear hy hy1 hy2 hy3 hy4 hy5 hb2 h1
      (refine hK _ _ (h2) ?_;clear hK K;refine tput ?_)
      repeat (apply mix_take;(focus rfl);(focus rfl);(focus (intro w' hw';go_simp;exact rfl));refine tput ?_)
      refine mix_done ?_
      go_upto_if 41 with fail
      go_cut [7,8] (fun v7 v8 wx=>AddP (w.heap.size+1+1+1) W0 (m+n) v7 v8 wx)
      case first=>
       as_aux_lemma=>
        by_cases hl:(wd m).length<(wd n).length
        ·go_wp2_with fail
         go_meet
         exact⟨b2,ys,n,b1,xs,m,rfl,rfl,A2,A1,by omega,by omega,by omega,h2⟩
        ·go_wp2_with fail
         go_meet
         exact⟨b1,xs,m,b2,ys,n,rfl,rfl,A1,A2,rfl,by omega,by omega,h2⟩
      case rest=>
       as_aux_lemma=>
        clear A1 A2 h2
        obtain⟨b1,xs,p,b2,ys,q,rfl,rfl,A1,A2,hpq,hle,hlim,hI⟩:=hcut
        have HPQ:=Lib.hid hpq
        clear hpq
        obtain⟨L,hL⟩:∃ L,L=(wd p).length:=⟨_,rfl⟩
        obtain⟨M,hM⟩:∃ M,M=(wd q).length:=⟨_,rfl⟩
        rw[←hL] at hle hlim ⊢
        rw[←hM] at hle ⊢
        have HL:=Lib.hid hL
        have HM:=Lib.hid hM
        clear hL hM
        have hmk:=mk_u32 (L+1) (by omega)
        rw[show(((L+1:Nat)):Int)=(L:Int)+1 by omega] at hmk
        go_wp2_with ((with_reducible show wpList _ _ _ _ _ _);refine wpList_copy_words (o:=⟨some 50,_,_,_,_,_⟩) rfl (.tmp 48) (.tmp 49) rfl wc.heap.size b1 (L+1) L (L+1) xs.length rfl rfl (List.replicate (L+1) 0) xs (Blk.made wc (L+1)) (A1.blk.alloc _) ?c1 (by omega) ?c2 ?_)
        case c1=>have:=A1.le;rw[←HL.out] at this;exact this
        case c2=>rw[List.length_replicate];exact Nat.le_refl _
        intro w3 hg3 hb3
        have hB3:Blk w3 wc.heap.size (wd p ++ [0]):=by
         have e:xs.take L=wd p:=by rw[HL.out,A1.tk]
         rw[←e];simpa using hg3
        replace hb3:Below wc.heap.size wc w3:=((Below.refl _ wc).alloc (Nat.le_refl _) _).trans hb3
        have A3:=A2.call hb3
        have hI3:=hI.call hb3
        have hsz3:wc.heap.size<w3.heap.size:=hB3.lt
        have hN:w.heap.size+1+1+1≤wc.heap.size:=hI.siz
        have hgb:b2<wc.heap.size:=A2.blk.lt
        generalize wc.heap.size=g at *
        clear hmk hg3 A1 A2 hI hb3
        go_wp2
        go_loopw [10,53] (fun v10 v53 wr=>∃ k zs c,k≤L+1∧v53=.int .i64 (k:Nat)∧v10=.int .u32 (c:Nat)∧c≤1∧zs.length=k∧Digs zs∧Blk wr g (zs ++ (wd p ++ [0]).drop k)∧WordsAt wr b2 ys q∧In (w.heap.size+1+1+1) W0 wr ∧
          val zs+4294967296 ^ k*c=val ((wd p).take k)+val ((wd q).take k)) (fun _ v53 _=>L+1 - (intOf v53).toNat)
        case atStart=>exact⟨0,[],0,Nat.zero_le _,rfl,rfl,by omega,rfl,.nil,hB3,A3,hI3,by simp[val]⟩
        case round=>
         as_aux_lemma=>
          obtain⟨k,zs,c,hk,rfl,rfl,hc,hz,hdz,hblk,hw2,hI,hv⟩:=hrel
          have HV:=Lib.hid hv
          have HZ:=Lib.hid hz
          clear hv hz
          by_cases hlt:k<L+1
          ·obtain⟨x,hx⟩:∃ x,x=(wd p).getD k 0:=⟨_,rfl⟩
           obtain⟨y,hy⟩:∃ y,y=(wd q).getD k 0:=⟨_,rfl⟩
           have hxl:x<4294967296:=by rw[hx];exact(wd_digs p).getD k
           have hyl:y<4294967296:=by rw[hy];exact(wd_digs q).getD k
           have hlen:(wd p ++ [0]).length=L+1:=by simp[←HL.out]
           have hcell:=hblk.cell (i:=k) (by rw[List.length_append,List.length_drop,hlen,HZ.out];omega)
           have hg0:(zs ++ (wd p ++ [0]).drop k).getD k 0=x:=by
            rw[List.getD_eq_getElem?_getD,List.getElem?_append_right (by have:=HZ.out;omega),HZ.out,Nat.sub_self,List.getElem?_drop,hx,Nat.add_zero]
            by_cases h:k<(wd p).length
            ·rw[List.getElem?_append_left h,List.getD_eq_getElem?_getD]
            ·rw[List.getElem?_append_right (by omega)]
             have e:k - (wd p).length=0:=by rw[←HL.out];omega
             have e2:(wd p)[k]?=none:=List.getElem?_eq_none (by omega)
             rw[e,List.getD_eq_getElem?_getD,e2];rfl
           rw[hg0] at hcell
           have hfr:=hblk.frozen k
           have hset:(zs ++ (wd p ++ [0]).drop k).set k ((x+y+c) % 4294967296)=(zs ++ [(x+y+c) % 4294967296]) ++ (wd p ++ [0]).drop (k+1):=by
            rw[List.set_append_right _ _ (by have:=HZ.out;omega),HZ.out,Nat.sub_self,List.drop_eq_getElem_cons (by rw[hlen];exact hlt),List.set_cons_zero,List.append_assoc];rfl
           have hstep:val (zs ++ [(x+y+c) % 4294967296])+4294967296 ^ (k+1)*((x+y+c) / 4294967296)=val ((wd p).take (k+1))+val ((wd q).take (k+1)):=by
            rw[val_snoc,HZ.out,val_take_succ,val_take_succ,←hx,←hy,Nat.pow_succ]
            have:=step_sum (val zs) c x y (4294967296 ^ k)
            rw[HV.out] at this
            omega
           have hb':=hblk.set k ((x+y+c) % 4294967296)
           rw[hset] at hb'
           have HB:=Lib.hid hb'
           have HS2:=Lib.hid hstep
           have HX:=Lib.hid hx
           clear hb' hstep hset hg0 hlen hx
           have hcy:k<M→wr.cell? ⟨b2,k,none⟩=some (.int .u32 (y:Nat)):=fun h=>by
            have:=hw2.blk.cell (i:=k) (by have:=hw2.le;rw[←HM.out] at this;omega)
            rw[←getD_take (l:=ys) (k:=(wd q).length) (by rw[←HM.out];exact h),hw2.tk,←hy] at this
            exact this
           have hy0:¬ k<M→y=0:=fun h=>by rw[hy,List.getD_eq_getElem?_getD,List.getElem?_eq_none (by rw[←HM.out];omega)];rfl
           clear hy
           by_cases hkM:k<M
           ·replace hcy:=hcy hkM
            clear hy0
            go_wp2_with fail
            refine(add32 _ _ _ (by omega) (by omega) (by omega) (by omega) (by omega) (by omega) _).mono ?_
            rintro e w' ⟨rfl,rfl⟩
            go_wp2_with fail
            refine⟨⟨k+1,zs ++ [(x+y+c) % 4294967296],(x+y+c) / 4294967296,by omega,by go_num,by go_num,by omega,by simp[HZ.out],hdz.append (.cons (by omega) .nil), ?_,hw2.other (by simp;omega) _,hI.setCell (by simp;omega) _,HS2.out⟩,by simp[intOf];omega⟩
            have:=HB.out
            rw[show((((x+y+c) % 4294967296:Nat)):Int)=((x:Int)+y+c) % 4294967296 by omega] at this
            exact this
           ·have hyz:=hy0 hkM
            subst hyz
            clear hcy hy0
            go_wp2_with fail
            refine(add32 _ _ _ (by omega) (by omega) (by omega) (by omega) (by omega) (by omega) _).mono ?_
            rintro e w' ⟨rfl,rfl⟩
            go_wp2_with fail
            refine⟨⟨k+1,zs ++ [(x+0+c) % 4294967296],(x+0+c) / 4294967296,by omega,by go_num,by go_num,by omega,by simp[HZ.out],hdz.append (.cons (by omega) .nil), ?_,hw2.other (by simp;omega) _,hI.setCell (by simp;omega) _,HS2.out⟩,by simp[intOf];omega⟩
            have:=HB.out
            rw[show((((x+0+c) % 4294967296:Nat)):Int)=((x:Int)+c) % 4294967296 by omega] at this
            exact this
          ·have hkL:k=L+1:=by omega
           have hz1:zs.length=L+1:=by rw[HZ.out,hkL]
           have hdr:(wd p ++ [0]).drop k=[]:=List.drop_eq_nil_of_le (by simp[←HL.out];omega)
           rw[hdr,List.append_nil] at hblk
           have hval:val zs=m+n:=by
            have h1:=HV.out
            rw[hkL,List.take_of_length_le (by rw[←HL.out];omega),List.take_of_length_le (by rw[←HM.out];omega),wd_val,wd_val] at h1
            have h2:=val_lt (wd_digs p)
            have h3:=val_lt (wd_digs q)
            rw[wd_val,←HL.out] at h2
            rw[wd_val,←HM.out] at h3
            rw[←HPQ.out];exact top_zero h2 h3 hle h1
           have hof:=of_any wr g (L+1) (L+1) zs hblk hdz (by omega) (Nat.le_refl _) (by omega) (by omega)
           rw[List.take_of_length_le (by omega),hval] at hof
           have HOF:=Lib.hid hof
           have HN:=Lib.hid hN
           clear hkL hz1 hdr hval hof hblk hw2 hB3 A3 hI3
           go_wp2_with fail
           refine HOF.out.mono ?_
           rintro e w' ⟨rfl,hb⟩
           have h:=hI.call hb
           have hc':=h.cell
           have hf':=h.frozen
           clear hb hI
           go_wp2_with fail
           exact bodyPost_ret (v:=natV (m+n)) (by simp[results,Tryz.results143,go_sem,hc',c4,c5]) rfl ⟨rfl,(((HIN.out.trans (h.mono (by omega))).setCell (by simp;omega) _).setCell (by simp;omega) _).bel⟩
end Gus
end
section
namespace Gus
open Go Go.RowKit Go.Proofs
theorem step_sub' {x y c z c':Nat} {zs a d t:Nat} (h:zs+d=a+t*c) (hz:z+y+c=x+4294967296*c'):zs+t*z+(d+t*y)=a+t*x+t*4294967296*c':=by
 have e:t*(z+y+c)=t*(x+4294967296*c'):=by rw[hz]
 grind
theorem sub_end {P zs n m c:Nat} (hz:zs<P) (hnm:n≤m) (h:zs+n=m+P*c):zs=m - n:=by
 cases c with
 | zero=>rw[Nat.mul_zero] at h;omega
 | succ d=>
  rw[Nat.mul_succ] at h
  generalize P*d=Z at h
  omega
theorem bor_nat (x y c:Nat) (hx:x<4294967296) (hy:y<4294967296) (hc:c≤1):∃ z c':Nat,((x:Int) - y - c) % 4294967296=(z:Int)∧bor32 x y c=(c':Int)∧c'≤1∧z<4294967296∧z+y+c=x+4294967296*c':=by
 rcases bor32_cases x y c with ⟨h,e⟩|⟨h,e⟩
 ·exact⟨x+4294967296 - y - c,1,by omega,e,by omega,by omega,by omega⟩
 ·exact⟨x - y - c,0,by omega,e,by omega,by omega,by omega⟩
set_option maxRecDepth 100000 in
set_option maxHeartbeats 400000 in
theorem sub_lt (m n:Nat) (hmn:m<n) (hm:(wd m).length≤549755813888) (hn:(wd n).length≤549755813888) (w:World) :
  Calls Tryz.prog 137 #[natV m,natV n] w fun e w'=>e=.returned (.tuple #[natV 0,.bool false])∧Below w.heap.size w w':=by
 have hq:=cmpN_lt hmn
 go_enter Tryz.func137,Tryz.ntmps137
 go_wp2_with fail
 (refine(Cmp_any m n (by omega) (by omega) _).mono ?_;rintro e w' ⟨rfl,hb⟩;have h:=tsz ((In.self _).call hb);clear hb;have hc:=h.cell;have hf:=h.frozen)
 go_wp2_with fail
 exact bodyPost_ret (v:=.tuple #[.agg #[.int .u64 0,.string ⟨#[]⟩],.bool false]) (by simp[results,Tryz.results137,go_sem,hc]) rfl ⟨rfl,by exact tfin⟩
set_option maxRecDepth 100000 in
set_option maxHeartbeats 400000 in
theorem sub_ge (m n:Nat) (hmn:n≤m) (hm:(wd m).length≤549755813888) (hn:(wd n).length≤549755813888) (w:World) :
  Calls Tryz.prog 137 #[natV m,natV n] w fun e w'=>e=.returned (.tuple #[natV (m - n),.bool true])∧Below w.heap.size w w':=by
 have hcn:¬ cmpN m n<0:=fun h=>by have:=(cmpN_neg m n).1 h;omega
 have he1:=smallB_eq m
 obtain⟨W0,hW0⟩:∃ W0,W0=((w.alloc (.cells #[.int .u64 (lo m),.string (bg m)] 66)).alloc (.cells #[.int .u64 (lo n),.string (bg n)] 66)).alloc (.cells #[.int .u64 0,.string ⟨#[]⟩] 66):=⟨_,rfl⟩
 have c0:W0.cell? ⟨w.heap.size,0,none⟩=some (.int .u64 (lo m)):=by rw[hW0];simp[go_sem]
 have c1:W0.cell? ⟨w.heap.size,1,none⟩=some (.string (bg m)):=by rw[hW0];simp[go_sem]
 have c2:W0.cell? ⟨w.heap.size+1,0,none⟩=some (.int .u64 (lo n)):=by rw[hW0];simp[go_sem]
 have c3:W0.cell? ⟨w.heap.size+1,1,none⟩=some (.string (bg n)):=by rw[hW0];simp[go_sem]
 have c4:W0.cell? ⟨w.heap.size+1+1,0,none⟩=some (.int .u64 0):=by rw[hW0];simp[go_sem]
 have c5:W0.cell? ⟨w.heap.size+1+1,1,none⟩=some (.string ⟨#[]⟩):=by rw[hW0];simp[go_sem]
 have f4:W0.frozen? ⟨w.heap.size+1+1,0,none⟩=false:=by rw[hW0];simp[go_sem]
 have f5:W0.frozen? ⟨w.heap.size+1+1,1,none⟩=false:=by rw[hW0];simp[go_sem]
 have hin:In w.heap.size w W0:=by rw[hW0];exact(((In.self w).alloc _).alloc _).alloc _
 have h0:In (w.heap.size+1+1+1) W0 W0:=by have:=In.self W0;rw[hW0,World.size_alloc,World.size_alloc,World.size_alloc,←hW0] at this;exact this
 have HIN:=Lib.hid hin
 have HW:=Lib.hid hW0
 clear hin hW0
 go_enter Tryz.func137,Tryz.ntmps137
 go_upto_region 1 with fail
 rw[←HW.out]
 go_wp2_with fail
 refine(Cmp_any m n (by omega) (by omega) _).mono ?_
 rintro e wa ⟨rfl,hba⟩
 have h:=h0.call hba
 clear hba
 have hc':=h.cell
 have hf':=h.frozen
 by_cases hs:m<18446744073709551616
 ·rw[smallB_true hs] at he1
  have hn1:n<18446744073709551616:=by omega
  rw[lo_small hs] at c0
  rw[lo_small hn1] at c2
  have e:natV (m - n)=.agg #[.int .u64 ((m:Int) - n),.string ⟨#[]⟩]:=by
   rw[natV,lo_small (by omega),bg_small (by omega)]
   rw[show(((m - n:Nat)):Int)=(m:Int) - n by omega];rfl
  have HE:=Lib.hid e
  clear e
  go_wp2_with fail
  exact bodyPost_ret (v:=.tuple #[.agg #[.int .u64 ((m:Int) - n),.string ⟨#[]⟩],.bool true]) (by simp[results,Tryz.results137,go_sem,hc',c4,c5]) rfl ⟨by rw[HE.out],(((HIN.out.trans (h.mono (by omega))).setCell (by simp;omega) _).setCell (by simp;omega) _).bel⟩
 ·rw[smallB_false hs] at he1
  go_upto_region 5 with fail
  refine wp_region_mix (In (w.heap.size+1+1+1) W0) [(0,true),(2,true),(1,false),(3,false),(4,true),(5,true)] (by kernel_rfl) (by kernel_rfl) (by kernel_rfl) (by kernel_rfl) (fun _ _ d _ _ h=>by cases d <;> exact h) ?_ ?_
  ·exact h.drew
  clear hc' hf'
  repeat (apply mix_take;(focus rfl);(focus rfl);(focus (intro w' hw';have hc':=hw'.cell;go_simp;exact rfl));refine tput ?_)
  (apply mix_run;(focus rfl);(focus rfl);intro K hK;go_simp)
  refine(words_any m (by omega) _).mono ?_
  rintro e w1 ⟨b1,xs,rfl,hx,hx1,hx2,hx3,hx4,hx5,hb1⟩
  have h1:=h.drew.call hb1
  have A1:WordsAt w1 b1 xs m:=⟨hx,hx1,hx2,hx3,hx4⟩
  have hN1:w.heap.size+1+1+1≤b1:=Nat.le_trans h.siz hx5
  clear hx hx1 hx2 hx3 hx4 hx5 hb1
  (refine hK _ _ (h1) ?_;clear hK K;refine tput ?_)
  (apply mix_run;(focus rfl);(focus rfl);intro K hK;go_simp)
  refine(words_any n (by omega) _).mono ?_
  rintro e w2 ⟨b2,ys,rfl,hy,hy1,hy2,hy3,hy4,hy5,hb2⟩
  have h2:=h1.call hb2
  have A2:WordsAt w2 b2 ys n:=⟨hy,hy1,hy2,hy3,hy4⟩
  have hne:b1≠b2:=by have:=A1.blk.lt;omega
  replace A1:=A1.call hb2
  have HNE:=Lib.hid hne
  clear hy hy1 hy2 hy3 hy4 hy5 hb2 h1 hne
  (refine hK _ _ (h2) ?_;clear hK K;refine tput ?_)
  repeat (apply mix_take;(focus rfl);(focus rfl);(focus (intro w' hw';go_simp;exact rfl));refine tput ?_)
  refine mix_done ?_
  obtain⟨L,hL⟩:∃ L,L=(wd m).length:=⟨_,rfl⟩
  obtain⟨M,hM⟩:∃ M,M=(wd n).length:=⟨_,rfl⟩
  obtain⟨X,hX⟩:∃ X,X=xs.length:=⟨_,rfl⟩
  have hLX:L≤X:=by rw[hL,hX];exact A1.le
  have hXl:X≤1099511627776:=by rw[hX];exact A1.cap
  have hLM:M≤L:=by
   rw[hL,hM]
   refine Decidable.by_contra fun hh=>?_
   have:=lt_of_length (m:=m) (n:=n) (by omega)
   omega
  rw[←hL,←hM,←hX]
  rw[←hL] at hm
  have HL:=Lib.hid hL
  have HM:=Lib.hid hM
  have HX:=Lib.hid hX
  clear hL hM hX h
  go_wp2_with fail
  have hB:=A1.blk
  have hdx:=A1.dig
  have htx:=Lib.hid A1.tk
  clear A1
  go_loopw [8,31] (fun v8 v31 wr=>∃ k zs c,k≤L∧v31=.int .i64 (k:Nat)∧v8=.int .u32 (c:Nat)∧c≤1∧zs.length=k∧Digs zs∧Blk wr b1 (zs ++ xs.drop k)∧WordsAt wr b2 ys n∧In (w.heap.size+1+1+1) W0 wr ∧
   val zs+val ((wd n).take k)=val ((wd m).take k)+4294967296 ^ k*c) (fun _ v31 _=>L - (intOf v31).toNat)
  case atStart=>exact⟨0,[],0,Nat.zero_le _,rfl,rfl,by omega,rfl,.nil,hB,A2,h2,by simp[val]⟩
  case round=>
   obtain⟨k,zs,c,hk,rfl,rfl,hc,hz,hdz,hblk,hw2,hI,hv⟩:=hrel
   have HV:=Lib.hid hv
   have HZ:=Lib.hid hz
   clear hv hz
   by_cases hlt:k<L
   ·obtain⟨x,hx⟩:∃ x,x=(wd m).getD k 0:=⟨_,rfl⟩
    obtain⟨y,hy⟩:∃ y,y=(wd n).getD k 0:=⟨_,rfl⟩
    have hxl:x<4294967296:=by rw[hx];exact(wd_digs m).getD k
    have hyl:y<4294967296:=by rw[hy];exact(wd_digs n).getD k
    have hlX:xs.length=X:=HX.out.symm
    have hcell:=hblk.cell (i:=k) (by rw[List.length_append,List.length_drop,hlX,HZ.out];omega)
    have hg0:(zs ++ xs.drop k).getD k 0=x:=by
     rw[List.getD_eq_getElem?_getD,List.getElem?_append_right (by have:=HZ.out;omega),HZ.out,Nat.sub_self,List.getElem?_drop,hx,Nat.add_zero,←htx.out,getD_take (by rw[←HL.out];exact hlt),List.getD_eq_getElem?_getD]
    rw[hg0] at hcell
    have hfr:=hblk.frozen k
    obtain⟨z,c',hz1,hz2,hc',hzl,hzv⟩:=bor_nat x y c hxl hyl hc
    have hset:(zs ++ xs.drop k).set k z=(zs ++ [z]) ++ xs.drop (k+1):=by
     rw[List.set_append_right _ _ (by have:=HZ.out;omega),HZ.out,Nat.sub_self,List.drop_eq_getElem_cons (by omega),List.set_cons_zero,List.append_assoc];rfl
    have hstep:val (zs ++ [z])+val ((wd n).take (k+1))=val ((wd m).take (k+1))+4294967296 ^ (k+1)*c':=by
     rw[val_snoc,HZ.out,val_take_succ,val_take_succ,←hx,←hy,Nat.pow_succ]
     exact step_sub' HV.out hzv
    have hb':=hblk.set k z
    rw[hset] at hb'
    have HB:=Lib.hid hb'
    have HS2:=Lib.hid hstep
    have HX2:=Lib.hid hx
    have HZ1:=Lib.hid hz1
    have HZ2:=Lib.hid hz2
    clear hb' hstep hset hg0 hlX hx hz1 hz2 hzv
    have hcy:k<M→wr.cell? ⟨b2,k,none⟩=some (.int .u32 (y:Nat)):=fun h=>by
     have:=hw2.blk.cell (i:=k) (by have:=hw2.le;rw[←HM.out] at this;omega)
     rw[←getD_take (l:=ys) (k:=(wd n).length) (by rw[←HM.out];exact h),hw2.tk,←hy] at this
     exact this
    have hy0:¬ k<M→y=0:=fun h=>by rw[hy,List.getD_eq_getElem?_getD,List.getElem?_eq_none (by rw[←HM.out];omega)];rfl
    clear hy
    by_cases hkM:k<M
    ·replace hcy:=hcy hkM
     clear hy0
     go_wp2_with fail
     refine(sub32 _ _ _ (by omega) (by omega) (by omega) (by omega) (by omega) (by omega) _).mono ?_
     rintro e w' ⟨rfl,rfl⟩
     rw[HZ1.out,HZ2.out]
     go_wp2_with fail
     exact⟨⟨k+1,zs ++ [z],c',by omega,by go_num,rfl,hc',by simp[HZ.out],hdz.append (.cons hzl .nil),HB.out,hw2.other (by simpa using HNE.out) _,hI.setCell (by simp;omega) _,HS2.out⟩,by simp[intOf];omega⟩
    ·have hyz:=hy0 hkM
     subst hyz
     clear hcy hy0
     go_wp2_with fail
     refine(sub32 _ _ _ (by omega) (by omega) (by omega) (by omega) (by omega) (by omega) _).mono ?_
     rintro e w' ⟨rfl,rfl⟩
     have e1:=HZ1.out
     have e2:=HZ2.out
     simp only[Int.natCast_zero] at e1 e2
     rw[e1,e2]
     clear e1 e2
     go_wp2_with fail
     exact⟨⟨k+1,zs ++ [z],c',by omega,by go_num,rfl,hc',by simp[HZ.out],hdz.append (.cons hzl .nil),HB.out,hw2.other (by simpa using HNE.out) _,hI.setCell (by simp;omega) _,HS2.out⟩,by simp[intOf];omega⟩
   ·have hkL:k=L:=by omega
    have hz1:zs.length=L:=by rw[HZ.out,hkL]
    have hval:val zs=m - n:=by
     have h1:=HV.out
     rw[hkL,List.take_of_length_le (by have:=HM.out;omega),List.take_of_length_le (by have:=HL.out;omega),wd_val,wd_val] at h1
     have h2:=val_lt hdz
     rw[hz1] at h2
     exact sub_end h2 hmn h1
    have htk:(zs ++ xs.drop k).take L=zs:=by rw[List.take_append_of_le_length (by omega),List.take_of_length_le (by omega)]
    have hof:=of_any wr b1 L X (zs ++ xs.drop k) hblk (hdz.append (hdx.drop k)) (by rw[List.length_append];omega) hLX (by omega) (by omega)
    rw[htk,hval] at hof
    have HOF:=Lib.hid hof
    clear hkL hz1 hval htk hof hblk hw2 hB A2 h2
    go_wp2_with fail
    refine HOF.out.mono ?_
    rintro e w' ⟨rfl,hb⟩
    have h:=hI.call hb
    have hc':=h.cell
    have hf':=h.frozen
    clear hb hI
    go_wp2_with fail
    exact bodyPost_ret (v:=.tuple #[natV (m - n),.bool true]) (by simp[results,Tryz.results137,go_sem,hc',c4,c5]) rfl ⟨rfl,(((HIN.out.trans (h.mono (by omega))).setCell (by simp;omega) _).setCell (by simp;omega) _).bel⟩
end Gus
end
