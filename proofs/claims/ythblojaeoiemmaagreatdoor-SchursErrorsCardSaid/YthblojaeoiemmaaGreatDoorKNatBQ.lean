/- Proved here: parts of the proof: KNatB KNatC. Conditions: those that each theorem states. -/
import Derived.Test.YthblojaeoiemmaaGreatDoorKNumQ
import Derived.Lib.Hide
import Derived.Laws.BitsAllLaws
import Derived.Laws.BytesArg
section
namespace Gus
open Go Go.RowKit Go.Proofs
def CutP (xs:List Nat) (k0 b cap:Nat) (e:Ending):Prop:=∃ k,k≤k0∧e=.returned (.slice (some ⟨b,0,none⟩) k cap)∧xs.take k=wd (val (xs.take k0))
theorem cut_end {xs:List Nat} (hd:Digs xs) {k k0:Nat} (hk:k≤k0) (hk0:k0≤xs.length) (hz:∀ i,k≤i→i<k0→xs.getD i 0=0) (hl:k=0∨xs.getD (k - 1) 0≠0) :
  xs.take k=wd (val (xs.take k0)):=by
 refine eq_wd (hd.take k) (nrm_take (by omega) hl) ?_
 have:=val_take_of_zero (xs.take k0) k (fun i h1 h2=>by
  have h3:i<k0:=by rw[List.length_take] at h2;omega
  have:=hz i h1 h3
  simpa[List.getElem?_take,h3] using this)
 rwa [List.take_take,Nat.min_eq_left hk] at this
set_option maxHeartbeats 400000 in
theorem cut_any (w:World) (b k0 cap:Nat) (xs:List Nat) (hb:Blk w b xs) (hd:Digs xs) (hk0:k0≤xs.length) (hc:k0≤cap) (hs:cap≤9223372036854775807) :
  Calls Tryz.prog 170 #[.slice (some ⟨b,0,none⟩) k0 cap] w fun e w'=>CutP xs k0 b cap e∧w=w':=by
 go_enter Tryz.func170,Tryz.ntmps170
 go_wp2
 go_loop [0] (fun v=>∃ k:Nat,k≤k0∧v=.slice (some ⟨b,0,none⟩) k cap∧∀ i,k≤i→i<k0→xs.getD i 0=0) (fun v=>match v with | .slice _ n _=>n | _=>0)
 case atStart=>exact⟨k0,Nat.le_refl _,rfl,fun i h1 h2=>by omega⟩
 case round=>
  obtain⟨k,hk,rfl,hz⟩:=hrel
  have HZ:Hid (∀ i,k≤i→i<k0→xs.getD i 0=0):=hz
  clear hz
  by_cases h0:k=0
  ·subst h0
   go_wp2
   go_ret
   exact⟨⟨0,hk,rfl,cut_end hd hk hk0 HZ.out (.inl rfl)⟩,rfl⟩
  ·have hk1:0<k:=by omega
   have hcell:=hb.cell (i:=k - 1) (by omega)
   clear h0
   by_cases hv:xs.getD (k - 1) 0=0
   ·rw[hv] at hcell
    have HV:Hid (xs.getD (k - 1) 0=0):=hv
    clear hv
    go_wp2
    refine⟨⟨k - 1,by omega,rfl,fun i h1 h2=>?_⟩,by show k - 1<k;omega⟩
    by_cases hi:i=k - 1
    ·rw[hi];exact HV.out
    ·exact HZ.out i (by omega) h2
   ·have HV:Hid (xs.getD (k - 1) 0≠0):=hv
    obtain⟨x,hx⟩:∃ x,x=xs.getD (k - 1) 0:=⟨_,rfl⟩
    rw[←hx] at hcell
    have hpos:0<x:=by omega
    clear hx hv
    go_wp2
    go_ret
    exact⟨⟨k,hk,rfl,cut_end hd hk hk0 HZ.out (.inr HV.out)⟩,rfl⟩
theorem or_join_u32 (a b m:Nat) (ha:a<2 ^ m) (hb:b % 2 ^ m=0) (h1:a<4294967296) (h2:b<4294967296):bits .or .u32 (a:Int) (b:Int)=((a+b:Nat):Int):=by
 rw[u32_or_nat a b h1 h2,Nat.or_comm,nat_join m b a hb ha,Nat.add_comm]
theorem or_join_u64 (a b m:Nat) (ha:a<2 ^ m) (hb:b % 2 ^ m=0) (h1:a<18446744073709551616) (h2:b<18446744073709551616):bits .or .u64 (a:Int) (b:Int)=((a+b:Nat):Int):=by
 rw[u64_or_nat a b h1 h2,Nat.or_comm,nat_join m b a hb ha,Nat.add_comm]
theorem byte_step (d k:Nat) (hd:d<4294967296) (hk:k<4) (c:UInt8) (hc:c=UInt8.ofNat (d / 256 ^ k)) :
  bits .or .u32 ((d % 256 ^ k:Nat):Int) ((c.toNat:Int) % 4294967296*2 ^ (8*k) % 4294967296)=((d % 256 ^ (k+1):Nat):Int):=by
 have hc':c.toNat=d / 256 ^ k % 256:=by rw[hc,UInt8.toNat_ofNat']
 clear hc
 generalize c.toNat=y at *
 have hp:∀ m:Nat,((2:Int) ^ m)=((2 ^ m:Nat):Int):=fun m=>by simp
 rw[hp]
 have hk':k=0∨k=1∨k=2∨k=3:=by omega
 rcases hk' with rfl | rfl | rfl | rfl
 ·have e:((y:Int) % 4294967296*((2 ^ (8*0):Nat):Int) % 4294967296)=((y:Nat):Int):=by simp only[Nat.reduceMul,Nat.reducePow] at *;omega
  rw[e,or_join_u32 _ _ 0 (by simp only[Nat.reducePow];omega) (by simp only[Nat.reducePow];omega) (by simp only[Nat.reducePow];omega) (by omega)]
  simp only[Nat.reduceAdd,Nat.reducePow] at *;omega
 ·have e:((y:Int) % 4294967296*((2 ^ (8*1):Nat):Int) % 4294967296)=((y*256:Nat):Int):=by simp only[Nat.reduceMul,Nat.reducePow] at *;omega
  rw[e,or_join_u32 _ _ 8 (by simp only[Nat.reducePow];omega) (by simp only[Nat.reducePow];omega) (by simp only[Nat.reducePow];omega) (by omega)]
  simp only[Nat.reduceAdd,Nat.reducePow] at *;omega
 ·have e:((y:Int) % 4294967296*((2 ^ (8*2):Nat):Int) % 4294967296)=((y*65536:Nat):Int):=by simp only[Nat.reduceMul,Nat.reducePow] at *;omega
  rw[e,or_join_u32 _ _ 16 (by simp only[Nat.reducePow];omega) (by simp only[Nat.reducePow];omega) (by simp only[Nat.reducePow];omega) (by omega)]
  simp only[Nat.reduceAdd,Nat.reducePow] at *;omega
 ·have e:((y:Int) % 4294967296*((2 ^ (8*3):Nat):Int) % 4294967296)=((y*16777216:Nat):Int):=by simp only[Nat.reduceMul,Nat.reducePow] at *;omega
  rw[e,or_join_u32 _ _ 24 (by simp only[Nat.reducePow];omega) (by simp only[Nat.reducePow];omega) (by simp only[Nat.reducePow];omega) (by omega)]
  simp only[Nat.reduceAdd,Nat.reducePow] at *;omega
theorem mid_get (l:List Nat) (i y m:Nat) (hi:i<l.length):(l.take i ++ [y] ++ List.replicate m 0).getD i 0=y:=by
 have h1:(l.take i).length=i:=by simp;omega
 rw[List.append_assoc,List.getD_eq_getElem?_getD,List.getElem?_append_right (by omega),h1];simp
theorem mid_set (l:List Nat) (i y z m:Nat) (hi:i<l.length):(l.take i ++ [y] ++ List.replicate m 0).set i z=l.take i ++ [z] ++ List.replicate m 0:=by
 have h1:(l.take i).length=i:=by simp;omega
 rw[List.append_assoc,List.set_append_right _ _ (by omega),h1];simp
theorem mid_len (l:List Nat) (i y m:Nat) (hi:i<l.length):(l.take i ++ [y] ++ List.replicate m 0).length=i+1+m:=by simp;omega
def WordsP (n:Nat) (w:World) (e:Ending) (w':World):Prop:=∃ b xs,e=.returned (.slice (some ⟨b,0,none⟩) (wd n).length xs.length)∧Blk w' b xs∧xs.take (wd n).length=wd n ∧
 (wd n).length≤xs.length∧xs.length≤1099511627776∧Digs xs∧w.heap.size≤b∧Below w.heap.size w w'
set_option maxRecDepth 100000 in
set_option maxHeartbeats 400000 in
theorem words_small (n:Nat) (hn:n<18446744073709551616) (w:World) :
  Calls Tryz.prog 142 #[.agg #[.int .u64 (n:Int),.string ⟨#[]⟩]] w fun e w'=>WordsP n w e w':=by
 have hd:Digs [n % 4294967296,n / 4294967296]:=.cons (by omega) (.cons (by omega) .nil)
 have hv:val ([n % 4294967296,n / 4294967296].take 2)=n:=by simp[val];omega
 have HD:=Lib.hid hd
 have HV:=Lib.hid hv
 clear hd hv
 go_enter Tryz.func142,Tryz.ntmps142
 go_wp2_with fail
 have hb:=Blk.new (xs:=[n % 4294967296,n / 4294967296]) (w.alloc (Obj.cells #[Value.int IntKind.u64 n,Value.string { data:=#[] }] 66)) #[Value.int IntKind.u32 (n % 4294967296),Value.int IntKind.u32 (n / 4294967296)] (by simp[u32v])
 rw[World.size_alloc] at hb
 refine(cut_any _ _ 2 2 _ hb HD.out (by simp) (Nat.le_refl _) (by omega)).mono ?_
 rintro e w' ⟨⟨k,hk,rfl,ht⟩,rfl⟩
 rw[HV.out] at ht
 have hkl:k=(wd n).length:=by rw[←ht];simp;omega
 have HT:=Lib.hid ht
 have HK:=Lib.hid hkl
 have HB:=Lib.hid hb
 clear ht hkl hb
 go_wp2
 go_ret
 refine⟨w.heap.size+1,[n % 4294967296,n / 4294967296], ?_,HB.out, ?_, ?_,by simp,HD.out,by omega,by exact tfin⟩
 ·rw[←HK.out];rfl
 ·rw[←HK.out];exact HT.out
 ·rw[←HK.out];exact hk
set_option maxRecDepth 100000 in
set_option maxHeartbeats 400000 in
theorem words_big (n:Nat) (L:Nat) (l:List Nat) (hL:Hid (l.length=L)) (hlw:Hid (l=wd n)) (hl:(bg n).toList.isEmpty=false) (hbg:Hid (bg n=⟨(byts l).toArray⟩)) (hsz:(bg n).size=4*L) (hsz2:L≤1099511627776)  (w:World)  :
  Calls Tryz.prog 142 #[.agg #[.int .u64 0,.string (bg n)]] w fun e w'=>WordsP n w e w':=by
 have hmk:=mk_u32 L (by omega)
 go_enter Tryz.func142,Tryz.ntmps142
 go_wp2_with fail
 clear hmk
 obtain⟨B,hB⟩:∃ B,B=w.heap.size:=⟨_,rfl⟩
 rw[←hB]
 have HBw:=Lib.hid hB;clear hB
 go_loopw [25] (fun i wr=>∃ k:Nat,k≤L∧i=.int .i64 k∧Blk wr (B+1) (l.take k ++ List.replicate (L - k) 0)∧wr.cell? ⟨B,1,none⟩=some (.string (bg n))∧Below B w wr) (fun i _=>L - (intOf i).toNat)
 case atStart=>
  refine⟨0,Nat.zero_le _,rfl, ?_, ?_, ?_⟩
  ·have:=Blk.made (w.alloc (.cells #[Value.int IntKind.u64 0,Value.string (bg n)] 66)) L
   rw[World.size_alloc,←HBw.out] at this
   simpa using this
  ·rw[HBw.out];simp[go_sem]
  ·rw[HBw.out];exact tfin
 case round=>
  obtain⟨i,hi,rfl,hblk,hbox,hbel⟩:=hrel
  by_cases hlt:i<L
  ·have HBI:=Lib.hid hblk
   clear hblk
   go_wp2
   have hbel0:=Lib.hid hbel
   clear hbel
   obtain⟨wo,hwo⟩:∃ wo:World,wo=wr:=⟨_,rfl⟩
   subst hwo
   go_loopw [28] (fun j wr=>∃ k:Nat,k≤4∧j=.int .i64 k∧Blk wr (B+1) (l.take i ++ [l.getD i 0 % 256 ^ k] ++ List.replicate (L - i - 1) 0)∧wr.cell? ⟨B,1,none⟩=some (.string (bg n))∧Below B w wr) (fun j _=>4 - (intOf j).toNat)
   case atStart=>
    refine⟨0,by omega,rfl, ?_,hbox,hbel0.out⟩
    have:=HBI.out
    rw[show L - i=(L - i - 1)+1 by omega,List.replicate_succ] at this
    simpa[Nat.mod_one] using this
   case round=>
    obtain⟨k,hk,rfl,hblk,hbox,hbel⟩:=hrel
    have hil:i<l.length:=by rw[hL.out];exact hlt
    by_cases hlk:k<4
    ·have hcell:=hblk.cell (i:=i) (by rw[mid_len _ _ _ _ hil];omega)
     rw[mid_get _ _ _ _ hil] at hcell
     have hfr:=hblk.frozen i
     obtain⟨x,hx⟩:∃ x,x=l.getD i 0 % 256 ^ k:=⟨_,rfl⟩
     rw[←hx] at hcell
     have HX:=Lib.hid hx
     have HB:=Lib.hid hblk
     have HBL:=Lib.hid hbel
     have HIL:=Lib.hid hil
     clear hx hblk hbel hil
     have hsk:4*i+k<(bg n).size:=by rw[hsz];omega
     have hsk2:(4*(i:Int)+k)<((bg n).size:Int):=by omega
     have hge:(0:Int)≤4*i+k:=by omega
     have hix:(4*(i:Int)+k)<4*L:=by omega
     have hw3:IntKind.i64.wrap (8*(k:Int))=8*k:=IntWalk.i64_in _ (by omega)
     have hw1:IntKind.i64.wrap (4*(i:Int))=4*i:=IntWalk.i64_in _ (by omega)
     have hw2:IntKind.i64.wrap (4*(i:Int)+k)=4*i+k:=IntWalk.i64_in _ (by omega)
     have hw4:(4*(i:Int)+k).toNat=4*i+k:=by omega
     go_wp2
     (refine wp_region_tail (fun w'=>w'=wr.drew) 17 (by kernel_rfl) (by kernel_rfl) rfl ?_;simp only[List.take_succ_cons,List.take_zero,List.drop_succ_cons,List.drop_zero];(repeat (first |(apply wpQuiet_run;(focus rfl);(focus (rintro _ rfl;go_simp;exact rfl));refine tput ?_)|(apply wpQuiet_skip;(focus rfl);refine tput ?_)));refine wpQuiet_nil ?_;rintro _ rfl)
     clear hw1 hw2 hw3
     go_wp2
     go_roundw
     case rel=>
      have hbyte:(bg n)[4*i+k]=UInt8.ofNat (l.getD i 0 / 256 ^ k):=by
       have h1:∀ (s:ByteArray) (hs:s=⟨(byts l).toArray⟩) (hk:4*i+k<s.size),s[4*i+k]=UInt8.ofNat (l.getD i 0 / 256 ^ k):=by
        rintro s rfl hk
        have:=byts_get l i HIL.out k hlk
        have e:l.getD i 0=l[i]'HIL.out:=by simp[HIL.out]
        rw[e,←this];rfl
       exact h1 _ hbg.out hsk
      have hdl:l.getD i 0<4294967296:=by rw[hlw.out];exact(wd_digs n).getD i
      have hst:=byte_step (l.getD i 0) k hdl hlk _ hbyte
      rw[←HX.out] at hst
      refine⟨k+1,by omega,by go_num, ?_, ?_, ?_⟩
      ·rw[hst]
       have:=HB.out.set i (l.getD i 0 % 256 ^ (k+1))
       rw[mid_set _ _ _ _ _ HIL.out] at this
       exact this
      ·exact(World.cell?_setCell_other _ _ _ _ (by simp)).trans hbox
      ·exact((HBL.out).setCell (by simp) _).drew
     case measure=>simp[intOf];omega
    ·have hk4:k=4:=by omega
     have HB:=Lib.hid hblk
     have HBL:=Lib.hid hbel
     have HIL:=Lib.hid hil
     have HK:=Lib.hid hk4
     clear hblk hbel hil hk4
     go_wp2
     go_roundw
     case rel=>
      refine⟨i+1,by omega,by go_num, ?_,hbox,HBL.out⟩
      have:=HB.out
      rw[HK.out] at this
      have hdl:l.getD i 0<4294967296:=by rw[hlw.out];exact(wd_digs n).getD i
      rw[Nat.mod_eq_of_lt (by omega)] at this
      rw[List.take_succ_eq_append_getElem HIL.out]
      have e:l.getD i 0=l[i]'HIL.out:=by simp[HIL.out]
      rw[e] at this
      rw[show L - (i+1)=L - i - 1 by omega]
      exact this
     case measure=>simp[intOf];omega
  ·have hiL:i=L:=by omega
   have HB:=Lib.hid hblk
   have HI:=Lib.hid hiL
   clear hblk hiL
   go_wp2
   go_ret
   have h1:=HB.out
   rw[HI.out] at h1
   have h2:l.take L ++ List.replicate (L - L) 0=l:=by rw[←hL.out];simp
   rw[h2] at h1
   refine⟨B+1,l, ?_,h1, ?_, ?_,by rw[hL.out];exact hsz2,by rw[hlw.out];exact wd_digs n,by rw[HBw.out];omega,by rw[←HBw.out];exact hbel⟩
   ·rw[←hlw.out,hL.out];rfl
   ·rw[←hlw.out];simp
   ·rw[←hlw.out];exact Nat.le_refl _
theorem words_any (n:Nat) (hn:(wd n).length≤1099511627776) (w:World) :
  Calls Tryz.prog 142 #[natV n] w fun e w'=>WordsP n w e w':=by
 by_cases h:n<18446744073709551616
 ·have:=words_small n h w
  rw[natV,lo_small h,bg_small h];exact this
 ·have hs:(bg n).size=4*(wd n).length:=by rw[bg_size,if_neg h]
  have:=words_big n _ _ rfl rfl (by
   have:¬ (bg n).toList=[]:=fun e=>h ((bg_small_iff n).1 e)
   cases he:(bg n).toList with
   | nil=>exact absurd he this
   | cons _ _=>rfl) (bg_big h) hs hn w
  rw[natV,lo_big h];exact this
end Gus
end
section
namespace Gus
open Go Go.RowKit Go.Proofs
def u8v (c:UInt8):Value:=.int .u8 (c.toNat:Int)
theorem info_u8:(Tryz.prog.info? 5).map (fun i=>(i.zero,i.size,i.bytes))=some (some (.int .u8 0),1,1):=by kernel_rfl
theorem acc_step (v x j:Nat) (hj:j<2) (hx:x<4294967296) (hv:v<4294967296 ^ j) :
  bits .or .u64 (v:Int) (IntKind.u64.wrap ((x:Int)*2 ^ (32*j)))=((v+x*4294967296 ^ j:Nat):Int):=by
 have hp:∀ m:Nat,((2:Int) ^ m)=((2 ^ m:Nat):Int):=fun m=>by simp
 rw[hp]
 have hw:∀ n:Int,IntKind.u64.wrap n=n % 18446744073709551616:=fun n=>by simp[IntKind.wrap,IntKind.bits,IntKind.signed]
 rw[hw]
 have hj':j=0∨j=1:=by omega
 rcases hj' with rfl | rfl
 ·simp only[Nat.mul_zero,Nat.pow_zero,Nat.mul_one] at *
  have e:((x:Int)*((1:Nat):Int) % 18446744073709551616)=((x:Nat):Int):=by omega
  rw[e,or_join_u64 _ _ 0 (by simp only[Nat.pow_zero];omega) (by simp only[Nat.pow_zero];omega) (by omega) (by omega)]
 ·simp only[Nat.mul_one,Nat.pow_one,Nat.reducePow] at *
  have e:((x:Int)*((4294967296:Nat):Int) % 18446744073709551616)=((x*4294967296:Nat):Int):=by omega
  rw[e,or_join_u64 _ _ 32 (by simp only[Nat.reducePow];omega) (by simp only[Nat.reducePow];omega) (by omega) (by omega)]
theorem byts_take_succ (xs:List Nat) (j:Nat) (hj:j<xs.length):byts (xs.take (j+1))=byts (xs.take j) ++ b4 (xs.getD j 0):=by
 rw[List.take_succ_eq_append_getElem hj,byts_append]
 have:xs.getD j 0=xs[j]:=by simp[hj]
 rw[this];simp[byts]
theorem u8v_b4 (x:Nat) (hx:x<4294967296):(b4 x).map u8v=[.int .u8 (x % 256),.int .u8 (x / 256 % 256),.int .u8 (x / 65536 % 256),.int .u8 (x / 16777216)]:=by
 simp only[b4,u8v,List.map_cons,List.map_nil,UInt8.toNat_ofNat',Nat.reducePow]
 have:x / 16777216 % 256=x / 16777216:=by omega
 rw[this];simp
theorem strOfNums_byts (l:List Nat):strOfNums ((byts l).map fun c=>(c.toNat:Int))=⟨(byts l).toArray⟩:=by
 unfold strOfNums
 rw[List.map_map]
 have:((fun n:Int=>UInt8.ofNat n.toNat) ∘ fun c:UInt8=>(c.toNat:Int))=id:=by funext c;simp
 rw[this,List.map_id]
set_option maxRecDepth 100000 in
set_option maxHeartbeats 400000 in
theorem of_big (w:World) (b k0 cap k:Nat) (xs:List Nat) (hb:Blk w b xs) (hd:Hid (Digs xs)) (hk0:k0≤xs.length) (hc:k0≤cap) (hs:cap≤9223372036854775807) (hkk:Hid (k=(wd (val (xs.take k0))).length)) (hk2:2<k) (hk3:k≤k0) (hs3:k≤4398046511104) :
  Calls Tryz.prog 141 #[.slice (some ⟨b,0,none⟩) k0 cap] w fun e w'=>e=.returned (natV (val (xs.take k0)))∧Below w.heap.size w w':=by
 obtain⟨i0,hi,hz0,hz1,hz2⟩:=info_parts info_u8
 go_enter Tryz.func141,Tryz.ntmps141
 go_wp2_with fail
 refine(cut_any _ b k0 cap xs (hb.alloc _) hd.out hk0 hc hs).mono ?_
 rintro e w' ⟨⟨k',hk',rfl,ht⟩,rfl⟩
 obtain rfl:k=k':=by
  have:=congrArg List.length ht
  rw[List.length_take,←hkk.out] at this
  omega
 have HT:=Lib.hid ht
 clear ht
 go_wp2_with (at_make;refine wpList_make_own _ rfl _ _ 52 rfl (w.heap.size+1) 5 i0 (.int .u8 0) 1 Tryz.underlying52 hi hz0 hz1 _ _ _ (4*k) rfl rfl (by omega) ?b1 ?b2 ?b3 ?_)
 case b1=>rw[hz2];omega
 case b2=>unfold maxLen;omega
 case b3=>simp
 intro w1 hown hgrow
 have hbel:Below (w.heap.size+1) (w.alloc (.cells #[Value.int IntKind.u64 0,Value.string ⟨#[]⟩] 66)) w1:=(Below.refl _ _).grown hgrow (by simp) (by intro k h;cases h)
 have hb1:=(hb.alloc (.cells #[Value.int IntKind.u64 0,Value.string ⟨#[]⟩] 66)).grown hgrow (by simp)
 obtain⟨B,hB⟩:∃ B,B=w.heap.size:=⟨_,rfl⟩
 rw[←hB] at hown hbel
 rw[←hB]
 have HB:=Lib.hid hB;clear hB
 have hbl:b<B:=by rw[HB.out];exact hb.lt
 obtain⟨W1,hW1⟩:∃ W1,W1=w.alloc (.cells #[Value.int IntKind.u64 0,Value.string ⟨#[]⟩] 66):=⟨_,rfl⟩
 rw[←hW1] at hbel
 have HW:=Lib.hid hW1;clear hW1
 clear hgrow hb
 go_wp2
 go_loopw [6,37] (fun v i wr=>∃ j:Nat,j≤k∧i=.int .i64 j∧v=.slice (some ⟨B+1,0,none⟩) (4*j) (4*k)∧wr.ownsRow (B+1) 5 1 (.slice (some ⟨B+1,0,none⟩) (4*j) (4*k)) (4*j) ((byts (xs.take j)).map u8v)∧Blk wr b xs∧Below (B+1) W1 wr) (fun _ i _=>k - (intOf i).toNat)
 case atStart=>exact⟨0,Nat.zero_le _,rfl,rfl,by simpa[byts] using hown,hb1,hbel⟩
 case round=>
  obtain⟨j,hj,rfl,rfl,hown,hblk,hbel⟩:=hrel
  by_cases hlt:j<k
  ·have hcell:=hblk.cell (i:=j) (by omega)
   obtain⟨x,hx⟩:∃ x,x=xs.getD j 0:=⟨_,rfl⟩
   rw[←hx] at hcell
   have HX:=Lib.hid hx
   have hxl:x<4294967296:=by rw[hx];exact hd.out.getD j
   clear hx
   go_wp2_with (at_builtin;refine wpList_append_fits _ rfl (.tmp 41) (.tmp 53) 52 rfl (B+1) 5 i0 1 Tryz.underlying52 hi hz1 (B+1) (4*j) (4*k) _ rfl (hown.alloc _) ⟨wr.heap.size,0,none⟩ 4 4 [.int .u8 (x % 256),.int .u8 (x / 256 % 256),.int .u8 (x / 65536 % 256),.int .u8 (x / 16777216)] rfl rfl ?c1 ?c2 ?c3 ?_)
   case c1=>
    intro q u hq
    match q,hq with
    | 0,hq=>simp at hq;subst hq;simp[Addr.add]
    | 1,hq=>simp at hq;subst hq;simp[Addr.add]
    | 2,hq=>simp at hq;subst hq;simp[Addr.add]
    | 3,hq=>simp at hq;subst hq;simp[Addr.add]
   case c2=>intro u hu;simp at hu;rcases hu with rfl | rfl | rfl | rfl <;> rfl
   case c3=>omega
   intro w2 hown2 hgrow2
   have hbelN:Below (B+1) W1 w2:=(hbel.alloc (by have:=(hown.lt (B+1) rfl).2;omega) _).grown hgrow2 (by have:=(hown.lt (B+1) rfl).2;simp;omega) (by intro k h;simp at h;omega)
   have hblkN:Blk w2 b xs:=(hblk.alloc _).grown hgrow2 (by simp;omega)
   clear hown hblk hbel hgrow2
   go_wp2
   go_roundw
   case rel=>
    refine⟨j+1,by omega,by go_num,rfl, ?_,hblkN,hbelN⟩
    have e:(byts (xs.take (j+1))).map u8v=(byts (xs.take j)).map u8v ++ [.int .u8 (x % 256),.int .u8 (x / 256 % 256),.int .u8 (x / 65536 % 256),.int .u8 (x / 16777216)]:=by
     rw[byts_take_succ xs j (by omega),List.map_append,←HX.out,u8v_b4 x hxl]
    rw[e];exact hown2
   case measure=>simp[intOf];omega
  ·have hjk:j=k:=by omega
   have hbs:strOfNums ((byts (xs.take j)).map fun c=>(c.toNat:Int))=bg (val (xs.take k0)):=by
    rw[hjk,HT.out,strOfNums_byts,bg_big]
    intro hlt
    have:=wd_length (n:=val (xs.take k0)) (k:=2) (by omega)
    rw[←hkk.out] at this;omega
   have hconv:=run_convert_bytes_arg (P:=Tryz.prog) wr 52 5 Tryz.underlying52 Tryz.underlying5 (B+1) 0 (4*j) (4*k) ((byts (xs.take j)).map fun c=>(c.toNat:Int))
    (by rw[List.length_map,byts_length,List.length_take];omega)
    (fun q hq=>by
     rw[hown.cellAt (0+q) (by omega),Nat.zero_add]
     have hq2:q<(byts (xs.take j)).length:=by rw[byts_length,List.length_take];omega
     simp[u8v,hq2]) 9 Tryz.underlying9
   rw[hbs] at hconv
   have hc':=In.cell ⟨hbel,by have:=hbel.size;have:=(hown.lt (B+1) rfl).2;omega⟩
   have hf':=In.frozen ⟨hbel,by have:=hbel.size;have:=(hown.lt (B+1) rfl).2;omega⟩
   have h1:W1.cell? ⟨B,0,none⟩=some (.int .u64 0):=by rw[HW.out,HB.out];simp[go_sem]
   have h2:W1.cell? ⟨B,1,none⟩=some (.string ⟨#[]⟩):=by rw[HW.out,HB.out];simp[go_sem]
   have h3:W1.frozen? ⟨B,0,none⟩=false:=by rw[HW.out,HB.out];simp[go_sem]
   have h4:W1.frozen? ⟨B,1,none⟩=false:=by rw[HW.out,HB.out];simp[go_sem]
   have HJ:=Lib.hid hjk
   have HBS:=Lib.hid hbs
   clear hjk hbs
   have hlo:lo (val (xs.take k0))=0:=lo_big (by
    intro hlt
    have:=wd_length (n:=val (xs.take k0)) (k:=2) (by omega)
    rw[←hkk.out] at this;omega)
   have hbelw:Below w.heap.size w wr:=((Below.refl _ w).alloc (Nat.le_refl _) _).trans (HW.out ▸ hbel.mono (by rw[HB.out];omega))
   have hfin:=(hbelw.setCell (p:=⟨B,0,none⟩) (by rw[HB.out];exact Nat.le_refl _) (.int .u64 0)).setCell (p:=⟨B,1,none⟩) (by rw[HB.out];exact Nat.le_refl _) (.string (bg (val (xs.take k0))))
   have HF:=Lib.hid hfin
   have HL:=Lib.hid hlo
   clear hbelw hfin hlo
   go_wp2_with fail
   exact bodyPost_ret (v:=.agg #[.int .u64 0,.string (bg (val (xs.take k0)))]) (by simp[results,Tryz.results141,go_sem,hc',h1,h2]) rfl ⟨by rw[natV,HL.out],HF.out⟩
set_option maxRecDepth 100000 in
set_option maxHeartbeats 400000 in
theorem of_small (w:World) (b k0 cap k:Nat) (xs:List Nat) (hb:Blk w b xs) (hd:Hid (Digs xs)) (hk0:k0≤xs.length) (hc:k0≤cap) (hs:cap≤9223372036854775807) (hkk:Hid (k=(wd (val (xs.take k0))).length)) (hk2:k≤2) (hk3:k≤k0) :
  Calls Tryz.prog 141 #[.slice (some ⟨b,0,none⟩) k0 cap] w fun e w'=>e=.returned (natV (val (xs.take k0)))∧Below w.heap.size w w':=by
 go_enter Tryz.func141,Tryz.ntmps141
 go_wp2_with fail
 refine(cut_any _ b k0 cap xs (hb.alloc _) hd.out hk0 hc hs).mono ?_
 rintro e w' ⟨⟨k',hk',rfl,ht⟩,rfl⟩
 obtain rfl:k=k':=by
  have:=congrArg List.length ht
  rw[List.length_take,←hkk.out] at this
  omega
 have HT:=Lib.hid ht
 clear ht
 have hb1:=hb.alloc (.cells #[Value.int IntKind.u64 0,Value.string ⟨#[]⟩] 66)
 have hk2':(k:Int)≤2:=by omega
 go_wp2_with fail
 go_loop [3,16] (fun v i=>∃ j:Nat,j≤k∧i=.int .i64 j∧v=.int .u64 (val (xs.take j))) (fun _ i=>k - (intOf i).toNat)
 case atStart=>exact⟨0,Nat.zero_le _,rfl,rfl⟩
 case round=>
  obtain⟨j,hj,rfl,rfl⟩:=hrel
  obtain⟨v,hv⟩:∃ v,v=val (xs.take j):=⟨_,rfl⟩
  rw[←hv]
  have HV:=Lib.hid hv
  clear hv
  by_cases hlt:j<k
  ·have hcell:=hb1.cell (i:=j) (by omega)
   obtain⟨x,hx⟩:∃ x,x=xs.getD j 0:=⟨_,rfl⟩
   rw[←hx] at hcell
   have HX:=Lib.hid hx
   have hxl:x<4294967296:=by rw[hx];exact hd.out.getD j
   clear hx
   have hvl:v<4294967296 ^ j:=by
    rw[HV.out]
    have:=val_lt (hd.out.take j)
    rwa [List.length_take,Nat.min_eq_left (by omega)] at this
   have hst:=acc_step v x j (by omega) hxl hvl
   have hvs:val (xs.take (j+1))=v+x*4294967296 ^ j:=by
    rw[List.take_succ_eq_append_getElem (by omega),val_snoc,List.length_take,Nat.min_eq_left (by omega),←HV.out,HX.out,Nat.mul_comm]
    simp[show j<xs.length by omega]
   have HS:=Lib.hid hst
   have HVS:=Lib.hid hvs
   clear hst hvs hvl
   go_wp2
   exact⟨⟨j+1,by omega,by go_num,by rw[HS.out,HVS.out]⟩,by simp[intOf];omega⟩
  ·have hjk:j=k:=by omega
   have HJ:=Lib.hid hjk
   have hjk1:k≤j:=by omega
   clear hjk
   have hvn:v=val (xs.take k0):=by rw[HV.out,HJ.out,HT.out,wd_val]
   have hvl:v<18446744073709551616:=by
    have:=val_lt (wd_digs (val (xs.take k0)))
    rw[wd_val,←hkk.out,←hvn] at this
    have h2:4294967296 ^ k≤4294967296 ^ 2:=Nat.pow_le_pow_right (by decide) hk2
    have h3:(4294967296:Nat) ^ 2=18446744073709551616:=by decide
    omega
   have hlo:=lo_small hvl
   have hbg:bg v=⟨#[]⟩:=bg_small hvl
   have HN:=Lib.hid hvn
   have HL:=Lib.hid hlo
   have HG:=Lib.hid hbg
   clear hvn hlo hbg
   go_wp2
   exact bodyPost_ret (v:=.agg #[.int .u64 v,.string ⟨#[]⟩]) (by simp[results,Tryz.results141,go_sem]) rfl ⟨by rw[←HN.out,natV,HL.out,HG.out],by exact tfin⟩
theorem of_any (w:World) (b k0 cap:Nat) (xs:List Nat) (hb:Blk w b xs) (hd:Digs xs) (hk0:k0≤xs.length) (hc:k0≤cap) (hs:cap≤9223372036854775807) (hs3:k0≤4398046511104) :
  Calls Tryz.prog 141 #[.slice (some ⟨b,0,none⟩) k0 cap] w fun e w'=>e=.returned (natV (val (xs.take k0)))∧Below w.heap.size w w':=by
 have hlen:(wd (val (xs.take k0))).length≤k0:=by
  have:=val_lt (hd.take k0)
  rw[List.length_take,Nat.min_eq_left hk0] at this
  exact wd_length this
 by_cases h:(wd (val (xs.take k0))).length≤2
 ·exact of_small w b k0 cap _ xs hb hd hk0 hc hs rfl h hlen
 ·exact of_big w b k0 cap _ xs hb hd hk0 hc hs rfl (by omega) hlen (by omega)
end Gus
end
