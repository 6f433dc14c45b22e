/- Proved here: parts of the proof: ShelfA KBits KNatD. Conditions: those that each theorem states. -/
import Derived.Shelf.Small.Bits
import Derived.Shelf.Small.Wraps
import Derived.Shelf.Bits.Mul64
import Derived.Test.YthblojaeoiemmaaGreatDoorProg
import Derived.Test.YthblojaeoiemmaaGreatDoorKNatBQ
import Derived.Laws.BitsAllLaws
import Derived.Laws.Externs
section
namespace Go.Proofs
open Go.Shelf
def Tryz.lays133_ren:Go.Shelf.Ren:=⟨fun | 133=>192 | 128=>187 | n=>n,fun | 51=>99 | 3=>3 | 4=>4 | 46=>205 | 5=>5 | 9=>9 | n=>n,fun | n=>n⟩
theorem Tryz.lays133:Go.Proofs.Lays.n133 Tryz.prog Tryz.lays133_ren:={
 mixed:=by kernel_rfl
 f128:=Tryz.func187.trans (congrArg some (by kernel_rfl))
 f133:=Tryz.func192.trans (congrArg some (by kernel_rfl))
 t3:=Tryz.underlying3
 a3:=Tryz.isAgg3
 z3:=Tryz.sizeOf3
 v3:=Tryz.zeroValue3
 t4:=Tryz.underlying4
 a4:=Tryz.isAgg4
 z4:=Tryz.sizeOf4
 v4:=Tryz.zeroValue4
 t5:=Tryz.underlying5
 a5:=Tryz.isAgg5
 z5:=Tryz.sizeOf5
 v5:=Tryz.zeroValue5
 t9:=Tryz.underlying9
 a9:=Tryz.isAgg9
 z9:=Tryz.sizeOf9
 v9:=Tryz.zeroValue9
 t46:=Tryz.underlying205
 a46:=Tryz.isAgg205
 z46:=Tryz.sizeOf205
 v46:=Tryz.zeroValue205
 t51:=Tryz.underlying99
 a51:=Tryz.isAgg99
 z51:=Tryz.sizeOf99
 v51:=Tryz.zeroValue99 }
theorem Tryz.bits_LeadingZeros32 (x:Int) (w:World) (h0:0≤x) (h1:x≤4294967295) :
  Calls Tryz.prog 192 #[.int .u32 x] w fun e w'=>e=.returned (.int .i64 (32 - (Lib.bitLen x.toNat:Int)))∧w'=w:=Any.bits_LeadingZeros32 Tryz.lays133 x w h0 h1
def Tryz.lays122_ren:Go.Shelf.Ren:=⟨fun | 122=>108 | 215=>153 | n=>n,fun | 3=>3 | 4=>4 | n=>n,fun | n=>n⟩
theorem Tryz.lays122:Go.Proofs.Lays.n122 Tryz.prog Tryz.lays122_ren:={
 mixed:=by kernel_rfl
 f122:=Tryz.func108.trans (congrArg some (by kernel_rfl))
 f215:=Tryz.func153.trans (congrArg some (by kernel_rfl))
 t3:=Tryz.underlying3
 a3:=Tryz.isAgg3
 z3:=Tryz.sizeOf3
 v3:=Tryz.zeroValue3
 t4:=Tryz.underlying4
 a4:=Tryz.isAgg4
 z4:=Tryz.sizeOf4
 v4:=Tryz.zeroValue4 }
open Go.RowKit in
theorem Tryz.cmp_Compare_int (x y:Int) (w:World) :
  Calls Tryz.prog 108 #[.int .i64 x,.int .i64 y] w fun e w'=>e=.returned (.int .i64 (Lib.compareInt x y))∧w'=w:=Any.cmp_Compare_int Tryz.lays122 x y w
def Tryz.lays264_ren:Go.Shelf.Ren:=⟨fun | 264=>140 | n=>n,fun | 53=>64 | 46=>205 | n=>n,fun | n=>n⟩
theorem Tryz.lays264:Go.Proofs.Lays.n264 Tryz.prog Tryz.lays264_ren:={
 mixed:=by kernel_rfl
 f264:=Tryz.func140.trans (congrArg some (by kernel_rfl))
 t46:=Tryz.underlying205
 a46:=Tryz.isAgg205
 z46:=Tryz.sizeOf205
 v46:=Tryz.zeroValue205
 t53:=Tryz.underlying64
 a53:=Tryz.isAgg64
 z53:=Tryz.sizeOf64
 v53:=Tryz.zeroValue64 }
open Go.RowKit Go.Lib in
theorem Tryz.bits_Mul64 (x y:Nat) (hx:x<18446744073709551616) (hy:y<18446744073709551616) (w:World) :
  Calls Tryz.prog 140 #[.int .u64 x,.int .u64 y] w fun e w'=>e=.returned (.tuple #[.int .u64 ((x*y / 18446744073709551616:Nat):Int),.int .u64 ((x*y % 18446744073709551616:Nat):Int)])∧w'=w:=Any.bits_Mul64 Tryz.lays264 x y hx hy w
end Go.Proofs
end
section
namespace Gus
open Go Go.RowKit Go.Proofs
theorem add32 (x y c:Int) (hx:0≤x) (hx1:x<4294967296) (hy:0≤y) (hy1:y<4294967296) (hc:0≤c) (hc1:c≤1) (w:World) :
  Calls Tryz.prog 172 #[.int .u32 x,.int .u32 y,.int .u32 c] w fun e w'=>e=.returned (.tuple #[.int .u32 ((x+y+c) % 4294967296),.int .u32 ((x+y+c) / 4294967296)])∧w=w':=by
 go_enter Tryz.func172,Tryz.ntmps172
 go_wp2
 go_ret2
 exact⟨rfl,rfl⟩
theorem or_join_hi (hi lo:Int) (h0:0≤hi) (h1:hi<4294967296) (hl:0≤lo) (hl1:lo<4294967296):bits .or .u64 (hi*4294967296) lo=hi*4294967296+lo:=by
 obtain⟨a,rfl⟩:=Int.eq_ofNat_of_zero_le h0
 obtain⟨b,rfl⟩:=Int.eq_ofNat_of_zero_le hl
 have e:((a:Int)*4294967296)=((a*4294967296:Nat):Int):=by omega
 rw[e,u64_or_nat _ _ (by omega) (by omega),nat_join 32 _ _ (by simp only[Nat.reducePow];omega) (by simp only[Nat.reducePow];omega)]
 omega
set_option maxRecDepth 100000 in
theorem div32 (hi lo y:Int) (h0:0≤hi) (h1:hi<y) (hl:0≤lo) (hl1:lo<4294967296) (hy:y<4294967296) (w:World) :
  Calls Tryz.prog 191 #[.int .u32 hi,.int .u32 lo,.int .u32 y] w fun e w'=>e=.returned (.tuple #[.int .u32 ((hi*4294967296+lo) / y),.int .u32 ((hi*4294967296+lo) % y)])∧Below w.heap.size w w':=by
 have hy0:(y == 0)=false:=by simp;omega
 have hyn:(y != 0)=true:=by simp;omega
 have hle:decide (y≤hi)=false:=by simp;omega
 have hyz:y≠0:=by omega
 have hor:=or_join_hi hi lo h0 (by omega) hl hl1
 have hd:(hi*4294967296+lo) / y<4294967296:=by
  apply Int.ediv_lt_of_lt_mul (by omega);omega
 have hd0:0≤(hi*4294967296+lo) / y:=Int.ediv_nonneg (by omega) (by omega)
 have hr:=Int.emod_lt_of_pos (hi*4294967296+lo) (b:=y) (by omega)
 have hr0:=Int.emod_nonneg (hi*4294967296+lo) (b:=y) (by omega)
 have hq1:(hi*4294967296+lo).tdiv y=(hi*4294967296+lo) / y:=Int.tdiv_eq_ediv_of_nonneg (by omega)
 have hq2:(hi*4294967296+lo).tmod y=(hi*4294967296+lo) % y:=Int.tmod_eq_emod_of_nonneg (by omega)
 have hw1:IntKind.u64.wrap ((hi*4294967296+lo) / y)=(hi*4294967296+lo) / y:=by simp[IntKind.wrap,IntKind.bits,IntKind.signed];omega
 have hw2:IntKind.u64.wrap ((hi*4294967296+lo) % y)=(hi*4294967296+lo) % y:=by simp[IntKind.wrap,IntKind.bits,IntKind.signed];omega
 have hw3:IntKind.u32.wrap ((hi*4294967296+lo) / y)=(hi*4294967296+lo) / y:=by rw[IntKind.wrap_u32];omega
 have hw4:IntKind.u32.wrap ((hi*4294967296+lo) % y)=(hi*4294967296+lo) % y:=by rw[IntKind.wrap_u32];omega
 have hw5:IntKind.u64.wrap y=y:=by simp[IntKind.wrap,IntKind.bits,IntKind.signed];omega
 go_enter Tryz.func191,Tryz.ntmps191
 go_wp2
 (refine wp_region_all (fun w'=>w'=w.drew) (by kernel_rfl) (by kernel_rfl) rfl ?_;(repeat (first |(apply wpQuiet_run;(focus rfl);(focus (rintro _ rfl;go_simp;exact rfl));refine tput ?_)|(apply wpQuiet_skip;(focus rfl);refine tput ?_)));refine wpQuiet_nil ?_;rintro _ rfl)
 clear hw1 hw2 hw3 hw4 hw5 hq1 hq2
 go_wp2
 go_ret2
 exact⟨rfl,(Below.refl _ _).drew⟩
def bor32 (x y b:Int):Int:=if x<y+b then 1 else 0
theorem bor32_cases (x y b:Int):(x<y+b∧bor32 x y b=1)∨(y+b≤x∧bor32 x y b=0):=by
 unfold bor32;by_cases h:x<y+b
 ·exact .inl ⟨h,if_pos h⟩
 ·exact .inr ⟨by omega,if_neg h⟩
theorem top_bit (p q r:Nat) (hp:p<2) (hq:q<2) (hr:r<2):((1 ^^^ p) &&& q |||(1 ^^^ (p ^^^ q)) &&& r)=if p<q then 1 else if p=q then r else 0:=by
 have hp':p=0∨p=1:=by omega
 have hq':q=0∨q=1:=by omega
 have hr':r=0∨r=1:=by omega
 rcases hp' with rfl | rfl <;> rcases hq' with rfl | rfl <;> rcases hr' with rfl | rfl <;> rfl
theorem sub_top (x y b:Nat) (hx:x<4294967296) (hy:y<4294967296) (hb:b≤1) :
  bits .or .u32 (bits .and .u32 (bits .xor .u32 (IntKind.u32.max) (x:Int)) (y:Int)) (bits .and .u32 (bits .xor .u32 (IntKind.u32.max) (bits .xor .u32 (x:Int) (y:Int))) (((x:Int) - y - b) % 4294967296)) / 2147483648=bor32 x y b:=by
 obtain⟨d,hd⟩:∃ d:Nat,(((x:Int) - y - b) % 4294967296)=(d:Int):=⟨(((x:Int) - y - b) % 4294967296).toNat,by omega⟩
 have hdl:d<4294967296:=by omega
 rw[hd]
 have hm:(IntKind.u32.max:Int)=((4294967295:Nat):Int):=by decide
 have pw:(4294967296:Nat)=2 ^ 32:=by decide
 have xor_lt:∀ a c:Nat,a<4294967296→c<4294967296→a ^^^ c<4294967296:=fun a c h1 h2=>by rw[pw] at *;exact Nat.xor_lt_two_pow h1 h2
 have and_lt:∀ a c:Nat,c<4294967296→a &&& c<4294967296:=fun a c h2=>by rw[pw] at *;exact Nat.and_lt_two_pow _ h2
 have h1:=xor_lt 4294967295 x (by decide) hx
 have h2:=xor_lt x y hx hy
 have h3:=xor_lt 4294967295 _ (by decide) h2
 have h4:=and_lt (4294967295 ^^^ x) y hy
 have h5:=and_lt (4294967295 ^^^ (x ^^^ y)) d hdl
 rw[hm,u32_xor_nat _ _ (by decide) hx,u32_and_nat _ _ h1 hy,u32_xor_nat _ _ hx hy,u32_xor_nat _ _ (by decide) h2,u32_and_nat _ _ h3 hdl,u32_or_nat _ _ h4 h5]
 have e:((4294967295 ^^^ x) &&& y |||(4294967295 ^^^ (x ^^^ y)) &&& d) / 2147483648=if x / 2147483648<y / 2147483648 then 1 else if x / 2147483648=y / 2147483648 then d / 2147483648 else 0:=by
  have sh:∀ n:Nat,n / 2147483648=n >>> 31:=fun n=>by rw[Nat.shiftRight_eq_div_pow]
  rw[sh,Nat.shiftRight_or_distrib,Nat.shiftRight_and_distrib,Nat.shiftRight_and_distrib,Nat.shiftRight_xor_distrib,Nat.shiftRight_xor_distrib,Nat.shiftRight_xor_distrib,←sh,←sh,←sh,←sh]
  exact top_bit (x / 2147483648) (y / 2147483648) (d / 2147483648) (by omega) (by omega) (by omega)
 have e2:((((4294967295 ^^^ x) &&& y |||(4294967295 ^^^ (x ^^^ y)) &&& d:Nat):Int)) / 2147483648=((((4294967295 ^^^ x) &&& y |||(4294967295 ^^^ (x ^^^ y)) &&& d) / 2147483648:Nat):Int):=by omega
 rw[e2,e]
 unfold bor32
 split
 ·rw[if_pos (by omega)];rfl
 ·split
  ·by_cases hlt:(x:Int)<y+b
   ·rw[if_pos hlt];omega
   ·rw[if_neg hlt];omega
  ·rw[if_neg (by omega)];rfl
theorem sub_topI (x y b:Int) (hx:0≤x) (hx1:x<4294967296) (hy:0≤y) (hy1:y<4294967296) (hb:0≤b) (hb1:b≤1) :
  bits .or .u32 (bits .and .u32 (bits .xor .u32 (IntKind.u32.max) x) y) (bits .and .u32 (bits .xor .u32 (IntKind.u32.max) (bits .xor .u32 x y)) ((x - y - b) % 4294967296)) / 2147483648=bor32 x y b:=by
 obtain⟨x,rfl⟩:=Int.eq_ofNat_of_zero_le hx
 obtain⟨y,rfl⟩:=Int.eq_ofNat_of_zero_le hy
 obtain⟨b,rfl⟩:=Int.eq_ofNat_of_zero_le hb
 exact sub_top x y b (by omega) (by omega) (by omega)
theorem sub32 (x y b:Int) (hx:0≤x) (hx1:x<4294967296) (hy:0≤y) (hy1:y<4294967296) (hb:0≤b) (hb1:b≤1) (w:World) :
  Calls Tryz.prog 169 #[.int .u32 x,.int .u32 y,.int .u32 b] w fun e w'=>e=.returned (.tuple #[.int .u32 ((x - y - b) % 4294967296),.int .u32 (bor32 x y b)])∧w=w':=by
 have hs:=sub_topI x y b hx hx1 hy hy1 hb hb1
 go_enter Tryz.func169,Tryz.ntmps169
 go_wp2
 go_ret2
 exact⟨rfl,rfl⟩
theorem lead32 (x:Int) (h0:0≤x) (h1:x≤4294967295) (w:World) :
  Calls Tryz.prog 192 #[.int .u32 x] w fun e w'=>e=.returned (.int .i64 (32 - (Lib.bitLen x.toNat:Int)))∧w'=w:=Tryz.bits_LeadingZeros32 x w h0 h1
set_option maxRecDepth 100000 in
theorem add64_run (x y:Int) (hx:0≤x) (hy:0≤y) (w:World):(callFunc 171 #[.int .u64 x,.int .u64 y,.int .u64 0]).run Tryz.prog w =
  .ok (.value (.tuple #[.int .u64 ((x+y) % 18446744073709551616),.int .u64 ((x+y) / 18446744073709551616)])) w:=by
 obtain⟨x,rfl⟩:=Int.eq_ofNat_of_zero_le hx
 obtain⟨y,rfl⟩:=Int.eq_ofNat_of_zero_le hy
 rw[run_callFunc_extern Tryz.func171 (by kernel_rfl) (by kernel_rfl) (by kernel_rfl) (e:=add64Entry) (by kernel_rfl),run_add64 x y 0 (by omega) (by omega) (by omega) (by omega)]
 simp only[Result.andThen]
 congr 5 <;> omega
end Gus
end
section
namespace Gus
open Go Go.RowKit Go.Proofs
def cmpN (m n:Nat):Int:=if m<n then -1 else if n<m then 1 else 0
theorem cmpN_lt {m n:Nat} (h:m<n):cmpN m n=-1:=if_pos h
theorem cmpN_gt {m n:Nat} (h:n<m):cmpN m n=1:=by unfold cmpN;rw[if_neg (by omega),if_pos h]
theorem cmpN_eq {m n:Nat} (h:m=n):cmpN m n=0:=by unfold cmpN;rw[if_neg (by omega),if_neg (by omega)]
theorem cmpN_neg (m n:Nat):cmpN m n<0↔m<n:=by unfold cmpN;split <;> (try split) <;> omega
theorem val_split (l:List Nat) (i:Nat):val l=val (l.take i)+4294967296 ^ (min i l.length)*val (l.drop i):=by
 conv=>lhs;rw[←List.take_append_drop i l]
 rw[val_append,List.length_take]
theorem val_at (l:List Nat) (i:Nat) (hi:i<l.length):val l=val (l.take i)+4294967296 ^ i*(l.getD i 0+4294967296*val (l.drop (i+1))):=by
 rw[val_split l i,Nat.min_eq_left (by omega),List.drop_eq_getElem_cons hi]
 simp[val,hi]
theorem val_lt_at {l m:List Nat} (dl:Digs l) (i:Nat) (hl:i<l.length) (hm:i<m.length) (hd:l.drop (i+1)=m.drop (i+1)) (h:l.getD i 0<m.getD i 0):val l<val m:=by
 rw[val_at l i hl,val_at m i hm,hd]
 have h1:=val_lt (dl.take i)
 rw[List.length_take,Nat.min_eq_left (by omega)] at h1
 generalize val (m.drop (i+1))=D at *
 generalize l.getD i 0=p at *
 generalize m.getD i 0=q at *
 generalize val (l.take i)=a at *
 generalize val (m.take i)=c at *
 have h2:4294967296 ^ i*(p+4294967296*D+1)≤4294967296 ^ i*(q+4294967296*D):=Nat.mul_le_mul_left _ (by omega)
 rw[Nat.mul_add _ _ 1] at h2
 omega
theorem drop_eq_of {l m:List Nat} {k i:Nat} (hl:l.length=k) (hm:m.length=k) (h:∀ j,i≤j→j<k→l.getD j 0=m.getD j 0):l.drop i=m.drop i:=by
 apply List.ext_getElem?
 intro j
 rw[List.getElem?_drop,List.getElem?_drop]
 by_cases hj:i+j<k
 ·have:=h (i+j) (by omega) hj
  simpa[hl,hm,hj] using this
 ·rw[List.getElem?_eq_none (by omega),List.getElem?_eq_none (by omega)]
theorem lt_of_length {m n:Nat} (h:(wd m).length<(wd n).length):m<n:=by
 have h1:=val_lt (wd_digs m)
 rw[wd_val] at h1
 rcases List.eq_nil_or_concat (wd n) with h0 |⟨l,d,h0⟩
 ·rw[h0] at h;simp at h
 ·rw[List.concat_eq_append] at h0
  have hn:=wd_nrm n;rw[h0,Nrm.snoc] at hn
  have hv:=wd_val n;rw[h0] at hv
  have:=val_ge_of_nrm l d hn
  rw[h0,List.length_append,List.length_singleton] at h
  have h3:4294967296 ^ (wd m).length≤4294967296 ^ l.length:=Nat.pow_le_pow_right (by decide) (by omega)
  omega
theorem getD_take {l:List Nat} {k j:Nat} (h:j<k):(l.take k).getD j 0=l.getD j 0:=by
 rw[List.getD_eq_getElem?_getD,List.getD_eq_getElem?_getD,List.getElem?_take,if_pos h]
set_option maxRecDepth 100000 in
set_option maxHeartbeats 400000 in
theorem cmp_same (w:World) (b1 b2 k c1 c2 m n:Nat) (xs ys:List Nat) (hx:Blk w b1 xs) (hy:Blk w b2 ys) (h1:Hid (xs.take k=wd m)) (h2:Hid (ys.take k=wd n)) (hk1:k≤xs.length) (hk2:k≤ys.length) (hs:k≤1099511627776) :
  Calls Tryz.prog 190 #[.slice (some ⟨b1,0,none⟩) k c1,.slice (some ⟨b2,0,none⟩) k c2] w fun e w'=>e=.returned (.int .i64 (cmpN m n))∧Below w.heap.size w w':=by
 go_enter Tryz.func190,Tryz.ntmps190
 go_wp2_with fail
 go_loopw [5] (fun v wr=>∃ i:Nat,i≤k∧v=.int .i64 ((i:Int) - 1)∧(∀ j,i≤j→j<k→xs.getD j 0=ys.getD j 0)∧Blk wr b1 xs∧Blk wr b2 ys∧Below w.heap.size w wr) (fun v _=>(intOf v+1).toNat)
 case atStart=>exact⟨k,Nat.le_refl _,rfl,fun j h1 h2=>by omega,hx,hy,.refl _ _⟩
 case round=>
  obtain⟨i,hi,rfl,heq,hbx,hby,hbel⟩:=hrel
  have HE:Hid (∀ j,i≤j→j<k→xs.getD j 0=ys.getD j 0):=heq
  clear heq
  by_cases h0:i=0
  ·subst h0
   have hz:cmpN m n=0:=cmpN_eq (by
    have e:xs.take k=ys.take k:=by
     have:=drop_eq_of (l:=xs.take k) (m:=ys.take k) (k:=k) (i:=0) (by simp;omega) (by simp;omega) (fun j h1 h2=>by rw[getD_take h2,getD_take h2];exact HE.out j h1 h2)
     simpa using this
    rw[h1.out,h2.out] at e
    rw[←wd_val m,←wd_val n,e])
   have HZ:=Lib.hid hz
   clear hz
   go_wp2_with fail
   go_ret
   exact⟨by rw[HZ.out];rfl,hbel⟩
  ·have hp:1≤i:=by omega
   have hcx:=hbx.cell (i:=i - 1) (by omega)
   have hcy:=hby.cell (i:=i - 1) (by omega)
   obtain⟨p,hp0⟩:∃ p,p=xs.getD (i - 1) 0:=⟨_,rfl⟩
   obtain⟨q,hq0⟩:∃ q,q=ys.getD (i - 1) 0:=⟨_,rfl⟩
   rw[←hp0] at hcx
   rw[←hq0] at hcy
   have HP:=Lib.hid hp0
   have HQ:=Lib.hid hq0
   clear hp0 hq0 h0
   have ht:((i:Int) - 1).toNat=i - 1:=by omega
   have hr1:(0:Int)≤(i:Int) - 1:=by omega
   have hr2:((i:Int) - 1)<k:=by omega
   by_cases hpq:p=q
   ·subst hpq
    go_wp2_with fail
    (refine wp_region_all (fun w'=>w'=wr.drew) (by kernel_rfl) (by kernel_rfl) rfl ?_;(repeat (first |(apply wpQuiet_run;(focus rfl);(focus (rintro _ rfl;go_simp;exact rfl));refine tput ?_)|(apply wpQuiet_skip;(focus rfl);refine tput ?_)));refine wpQuiet_nil ?_;rintro _ rfl)
    go_wp2_with fail
    refine⟨⟨i - 1,by omega,by go_num,fun j h1 h2=>?_,hbx,hby,hbel.drew⟩,by simp[intOf];omega⟩
    by_cases hj:j=i - 1
    ·rw[hj,←HP.out,←HQ.out]
    ·exact HE.out j (by omega) h2
   ·have hlx:(xs.take k).length=k:=by simp;omega
    have hly:(ys.take k).length=k:=by simp;omega
    have hdr:(xs.take k).drop (i - 1+1)=(ys.take k).drop (i - 1+1):=drop_eq_of hlx hly (fun j h1 h2=>by rw[getD_take h2,getD_take h2];exact HE.out j (by omega) h2)
    have hgx:(xs.take k).getD (i - 1) 0=p:=by rw[getD_take (by omega),HP.out]
    have hgy:(ys.take k).getD (i - 1) 0=q:=by rw[getD_take (by omega),HQ.out]
    rw[h1.out] at hlx hdr hgx
    rw[h2.out] at hly hdr hgy
    rcases Nat.lt_or_gt_of_ne hpq with hlt | hgt
    ·have hc:cmpN m n=-1:=cmpN_lt (by
      have:=val_lt_at (wd_digs m) (i - 1) (by omega) (by omega) hdr (by omega)
      rwa [wd_val,wd_val] at this)
     have HC:=Lib.hid hc
     clear hc hlx hly hdr hgx hgy
     go_wp2_with fail
     (refine wp_region_all (fun w'=>w'=wr.drew) (by kernel_rfl) (by kernel_rfl) rfl ?_;(repeat (first |(apply wpQuiet_run;(focus rfl);(focus (rintro _ rfl;go_simp;exact rfl));refine tput ?_)|(apply wpQuiet_skip;(focus rfl);refine tput ?_)));refine wpQuiet_nil ?_;rintro _ rfl)
     go_wp2_with fail
     (refine wp_region_all (fun w'=>w'=wr.drew.drew) (by kernel_rfl) (by kernel_rfl) rfl ?_;(repeat (first |(apply wpQuiet_run;(focus rfl);(focus (rintro _ rfl;go_simp;exact rfl));refine tput ?_)|(apply wpQuiet_skip;(focus rfl);refine tput ?_)));refine wpQuiet_nil ?_;rintro _ rfl)
     go_wp2_with fail
     go_ret
     exact⟨by rw[HC.out];rfl,hbel.drew.drew⟩
    ·have hc:cmpN m n=1:=cmpN_gt (by
      have:=val_lt_at (wd_digs n) (i - 1) (by omega) (by omega) hdr.symm (by omega)
      rwa [wd_val,wd_val] at this)
     have HC:=Lib.hid hc
     clear hc hlx hly hdr hgx hgy
     go_wp2_with fail
     (refine wp_region_all (fun w'=>w'=wr.drew) (by kernel_rfl) (by kernel_rfl) rfl ?_;(repeat (first |(apply wpQuiet_run;(focus rfl);(focus (rintro _ rfl;go_simp;exact rfl));refine tput ?_)|(apply wpQuiet_skip;(focus rfl);refine tput ?_)));refine wpQuiet_nil ?_;rintro _ rfl)
     go_wp2_with fail
     (refine wp_region_all (fun w'=>w'=wr.drew.drew) (by kernel_rfl) (by kernel_rfl) rfl ?_;(repeat (first |(apply wpQuiet_run;(focus rfl);(focus (rintro _ rfl;go_simp;exact rfl));refine tput ?_)|(apply wpQuiet_skip;(focus rfl);refine tput ?_)));refine wpQuiet_nil ?_;rintro _ rfl)
     go_wp2_with fail
     go_ret
     exact⟨by rw[HC.out];rfl,hbel.drew.drew⟩
set_option maxRecDepth 100000 in
theorem cmp_any (w:World) (b1 b2 k1 k2 c1 c2 m n:Nat) (xs ys:List Nat) (hx:Blk w b1 xs) (hy:Blk w b2 ys) (h1:xs.take k1=wd m) (h2:ys.take k2=wd n) (hk1:k1≤xs.length) (hk2:k2≤ys.length) (hs1:k1≤1099511627776) (hs2:k2≤1099511627776) :
  Calls Tryz.prog 190 #[.slice (some ⟨b1,0,none⟩) k1 c1,.slice (some ⟨b2,0,none⟩) k2 c2] w fun e w'=>e=.returned (.int .i64 (cmpN m n))∧Below w.heap.size w w':=by
 by_cases hk:k1=k2
 ·subst hk
  exact cmp_same w b1 b2 k1 c1 c2 m n xs ys hx hy h1 h2 hk1 hk2 hs1
 ·have l1:(wd m).length=k1:=by rw[←h1];simp;omega
  have l2:(wd n).length=k2:=by rw[←h2];simp;omega
  have hc:cmpN m n=if (k1:Int) - k2<0 then -1 else if (k1:Int) - k2=0 then 0 else 1:=by
   rcases Nat.lt_or_gt_of_ne hk with h | h
   ·rw[if_pos (by omega)];exact cmpN_lt (lt_of_length (by omega))
   ·rw[if_neg (by omega),if_neg (by omega)];exact cmpN_gt (lt_of_length (by omega))
  have HC:=Lib.hid hc
  have hne:((k1:Int) != k2)=true:=by simp;omega
  clear h1 h2 l1 l2 hc
  go_enter Tryz.func190,Tryz.ntmps190
  go_wp2_with fail
  refine(sign_any _ _).mono ?_
  rintro e w' ⟨rfl,rfl⟩
  rw[←HC.out]
  go_wp2_with fail
  go_ret
  exact⟨rfl,.refl _ _⟩
set_option maxRecDepth 100000 in
theorem Cmp_any (m n:Nat) (hm:(wd m).length≤1099511627776) (hn:(wd n).length≤1099511627776) (w:World) :
  Calls Tryz.prog 166 #[natV m,natV n] w fun e w'=>e=.returned (.int .i64 (cmpN m n))∧Below w.heap.size w w':=by
 by_cases hs:m<18446744073709551616∧n<18446744073709551616
 ·obtain⟨h1,h2⟩:=hs
  rw[natV,natV,lo_small h1,lo_small h2,bg_small h1,bg_small h2]
  rcases Nat.lt_trichotomy m n with h | h | h
  ·rw[cmpN_lt h]
   go_enter Tryz.func166,Tryz.ntmps166
   go_wp2_with fail
   go_ret
   exact⟨rfl,by exact tfin⟩
  ·rw[cmpN_eq h];subst h
   go_enter Tryz.func166,Tryz.ntmps166
   go_wp2_with fail
   go_ret
   exact⟨rfl,by exact tfin⟩
  ·rw[cmpN_gt h]
   go_enter Tryz.func166,Tryz.ntmps166
   go_wp2_with fail
   go_ret
   exact⟨rfl,by exact tfin⟩
 ·have e1:(bg m).toList.isEmpty=true→(bg n).toList.isEmpty=false:=fun h=>by
   have h1:m<18446744073709551616:=(bg_small_iff m).1 (List.isEmpty_iff.1 h)
   have:¬ (bg n).toList=[]:=fun e=>hs ⟨h1,(bg_small_iff n).1 e⟩
   cases he:(bg n).toList with
   | nil=>exact absurd he this
   | cons _ _=>rfl
  clear hs
  have h0:=In.self ((w.alloc (.cells #[.int .u64 (lo m),.string (bg m)] 66)).alloc (.cells #[.int .u64 (lo n),.string (bg n)] 66))
  simp only[World.size_alloc] at h0
  cases he:(bg m).toList.isEmpty with
  | true=>
   have e2:=e1 he
   clear e1
   go_enter Tryz.func166,Tryz.ntmps166
   go_wp2_with fail
   refine wp_region_mix (In (w.heap.size+1+1) ((w.alloc (.cells #[.int .u64 (lo m),.string (bg m)] 66)).alloc (.cells #[.int .u64 (lo n),.string (bg n)] 66))) [(0,true),(2,true),(1,false),(3,false),(4,false),(5,true)] (by kernel_rfl) (by kernel_rfl) (by kernel_rfl) (by kernel_rfl) (fun _ _ d _ _ h=>by cases d <;> exact h) ?_ ?_
   ·exact h0.drew
   repeat (apply mix_take;(focus rfl);(focus rfl);(focus (intro w' hw';have hc:=hw'.cell;go_simp;exact rfl));refine tput ?_)
   (apply mix_run;(focus rfl);(focus rfl);intro K hK;go_simp)
   refine(words_any m hm _).mono ?_
   rintro e w1 ⟨b1,xs,rfl,hx,hx1,hx2,hx3,hx4,hx5,hb1⟩
   have h1:=h0.drew.call hb1
   (refine hK _ _ (h1) ?_;clear hK K;refine tput ?_)
   (apply mix_run;(focus rfl);(focus rfl);intro K hK;go_simp)
   refine(words_any n hn _).mono ?_
   rintro e w2 ⟨b2,ys,rfl,hy,hy1,hy2,hy3,hy4,hy5,hb2⟩
   have h2:=h1.call hb2
   (refine hK _ _ (h2) ?_;clear hK K;refine tput ?_)
   (apply mix_run;(focus rfl);(focus rfl);intro K hK;go_simp)
   refine(cmp_any w2 b1 b2 _ _ _ _ m n xs ys (hx.call hb2) hy hx1 hy1 hx2 hy2 hm hn).mono ?_
   rintro e w3 ⟨rfl,hb3⟩
   have h:=h2.call hb3
   (refine hK _ _ (h) ?_;clear hK K;refine tput ?_)
   repeat (apply mix_take;(focus rfl);(focus rfl);(focus (intro w' hw';go_simp;exact rfl));refine tput ?_)
   clear hx hx1 hx2 hx3 hx4 hx5 hy hy1 hy2 hy3 hy4 hy5 hb1 hb2 hb3
   refine mix_done ?_
   go_wp2_with fail
   go_ret
   exact⟨rfl,by exact tfin⟩
  | false=>
   clear e1
   go_enter Tryz.func166,Tryz.ntmps166
   go_wp2_with fail
   refine wp_region_mix (In (w.heap.size+1+1) ((w.alloc (.cells #[.int .u64 (lo m),.string (bg m)] 66)).alloc (.cells #[.int .u64 (lo n),.string (bg n)] 66))) [(0,true),(2,true),(1,false),(3,false),(4,false),(5,true)] (by kernel_rfl) (by kernel_rfl) (by kernel_rfl) (by kernel_rfl) (fun _ _ d _ _ h=>by cases d <;> exact h) ?_ ?_
   ·exact h0.drew
   repeat (apply mix_take;(focus rfl);(focus rfl);(focus (intro w' hw';have hc:=hw'.cell;go_simp;exact rfl));refine tput ?_)
   (apply mix_run;(focus rfl);(focus rfl);intro K hK;go_simp)
   refine(words_any m hm _).mono ?_
   rintro e w1 ⟨b1,xs,rfl,hx,hx1,hx2,hx3,hx4,hx5,hb1⟩
   have h1:=h0.drew.call hb1
   (refine hK _ _ (h1) ?_;clear hK K;refine tput ?_)
   (apply mix_run;(focus rfl);(focus rfl);intro K hK;go_simp)
   refine(words_any n hn _).mono ?_
   rintro e w2 ⟨b2,ys,rfl,hy,hy1,hy2,hy3,hy4,hy5,hb2⟩
   have h2:=h1.call hb2
   (refine hK _ _ (h2) ?_;clear hK K;refine tput ?_)
   (apply mix_run;(focus rfl);(focus rfl);intro K hK;go_simp)
   refine(cmp_any w2 b1 b2 _ _ _ _ m n xs ys (hx.call hb2) hy hx1 hy1 hx2 hy2 hm hn).mono ?_
   rintro e w3 ⟨rfl,hb3⟩
   have h:=h2.call hb3
   (refine hK _ _ (h) ?_;clear hK K;refine tput ?_)
   repeat (apply mix_take;(focus rfl);(focus rfl);(focus (intro w' hw';go_simp;exact rfl));refine tput ?_)
   clear hx hx1 hx2 hx3 hx4 hx5 hy hy1 hy2 hy3 hy4 hy5 hb1 hb2 hb3
   refine mix_done ?_
   go_wp2_with fail
   go_ret
   exact⟨rfl,by exact tfin⟩
end Gus
end
