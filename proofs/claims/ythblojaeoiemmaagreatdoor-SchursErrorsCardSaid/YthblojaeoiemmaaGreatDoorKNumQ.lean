/- Proved here: parts of the proof: KNum KByt KRat KReg KKeep KTac KEnc KBlk KNatA. Conditions: those that each theorem states. -/
import Derived.Deep.Quiet
import Derived.StillTail
import Derived.OrdersHeld
import Derived.WalkKit
import Derived.WalkLawsBesides
import Derived.WalkSpells
import Derived.BigQuiet
import Derived.Deep.QuietTactic
import Derived.Outline
import Derived.Deep.RegionHeld3
import Derived.Lib.Hide
import Derived.Test.YthblojaeoiemmaaGreatDoorProg
section
namespace Gus
def val:List Nat→Nat
 | []=>0
 | d :: l=>d+4294967296*val l
def Digs (l:List Nat):Prop:=∀ d∈l,d<4294967296
theorem Digs.nil:Digs []:=by intro d h;cases h
theorem Digs.cons {d:Nat} {l:List Nat} (h:d<4294967296) (k:Digs l):Digs (d :: l):=by
 intro x hx;cases hx with
 | head=>exact h
 | tail _ hm=>exact k x hm
theorem Digs.head {d:Nat} {l:List Nat} (h:Digs (d :: l)):d<4294967296:=h d (.head _)
theorem Digs.tail {d:Nat} {l:List Nat} (h:Digs (d :: l)):Digs l:=fun x hx=>h x (.tail _ hx)
theorem Digs.append {l m:List Nat} (h:Digs l) (k:Digs m):Digs (l ++ m):=by
 intro x hx;rcases List.mem_append.1 hx with hx | hx
 ·exact h x hx
 ·exact k x hx
theorem Digs.left {l m:List Nat} (h:Digs (l ++ m)):Digs l:=fun x hx=>h x (List.mem_append.2 (.inl hx))
theorem Digs.right {l m:List Nat} (h:Digs (l ++ m)):Digs m:=fun x hx=>h x (List.mem_append.2 (.inr hx))
def wdF:Nat→Nat→List Nat
 | 0,_=>[]
 | f+1,n=>if n=0 then [] else n % 4294967296 :: wdF f (n / 4294967296)
def wd (n:Nat):List Nat:=wdF n n
theorem wdF_val (f:Nat):∀ n,n≤f→val (wdF f n)=n:=by
 induction f with
 | zero=>
      intro n h;obtain rfl:n=0:=by omega
      rfl
 | succ f ih=>
  intro n h
  unfold wdF
  split
  ·simp[val];omega
  ·have:=ih (n / 4294967296) (by omega)
   simp only[val,this];omega
theorem wd_val (n:Nat):val (wd n)=n:=wdF_val n n (Nat.le_refl _)
theorem wdF_digs (f:Nat):∀ n,Digs (wdF f n):=by
 induction f with
 | zero=>intro n;exact .nil
 | succ f ih=>
  intro n;unfold wdF;split
  ·exact .nil
  ·exact .cons (by omega) (ih _)
theorem wd_digs (n:Nat):Digs (wd n):=wdF_digs n n
def Nrm:List Nat→Prop
 | []=>True
 | [d]=>d≠0
 | _ :: l=>Nrm l
theorem Nrm.cons {d e:Nat} {l:List Nat} (h:Nrm (e :: l)):Nrm (d :: e :: l):=h
theorem wdF_nrm (f:Nat):∀ n,n≤f→Nrm (wdF f n):=by
 induction f with
 | zero=>intro n _;exact trivial
 | succ f ih=>
  intro n h;unfold wdF;split
  ·exact trivial
  ·rename_i hn
   have h2:=ih (n / 4294967296) (by omega)
   have hv:=wdF_val f (n / 4294967296) (by omega)
   generalize wdF f (n / 4294967296)=l at *
   match l with
   | []=>simp[val] at hv;simp[Nrm];omega
   | e :: l=>exact h2
theorem wd_nrm (n:Nat):Nrm (wd n):=wdF_nrm n n (Nat.le_refl _)
theorem val_zero_of_nrm:∀ l,Nrm l→val l=0→l=[]
 | [],_,_=>rfl
 | [d],h,hv=>by simp[val] at hv;simp[Nrm] at h;omega
 | d :: e :: l,h,hv=>by
  have:=val_zero_of_nrm (e :: l) h (by simp[val] at *;omega)
  cases this
theorem Nrm.tail {d:Nat}:∀ {l:List Nat},Nrm (d :: l)→Nrm l
 | [],_=>trivial
 | _ :: _,h=>h
theorem val_inj:∀ l m,Digs l→Digs m→Nrm l→Nrm m→val l=val m→l=m
 | [],m,_,_,_,hm,h=>(val_zero_of_nrm m hm (by simp[val] at h;omega)).symm
 | d :: l,[],_,_,hl,_,h=>val_zero_of_nrm _ hl (by simp[val] at *;omega)
 | d :: l,e :: m,dl,dm,hl,hm,h=>by
  have h1:=dl.head;have h2:=dm.head
  simp only[val] at h
  obtain rfl:d=e:=by omega
  rw[val_inj l m dl.tail dm.tail hl.tail hm.tail (by omega)]
theorem eq_wd {l:List Nat} {n:Nat} (dl:Digs l) (hl:Nrm l) (h:val l=n):l=wd n:=
 val_inj _ _ dl (wd_digs n) hl (wd_nrm n) (by rw[wd_val,h])
theorem val_append (l m:List Nat):val (l ++ m)=val l+4294967296 ^ l.length*val m:=by
 induction l with
 | nil=>simp[val]
 | cons d l ih=>simp only[List.cons_append,val,ih,List.length_cons,Nat.pow_succ];grind
theorem val_lt {l:List Nat} (h:Digs l):val l<4294967296 ^ l.length:=by
 induction l with
 | nil=>simp[val]
 | cons d l ih=>
  have:=ih h.tail;have:=h.head
  simp only[val,List.length_cons,Nat.pow_succ];omega
theorem val_snoc (l:List Nat) (d:Nat):val (l ++ [d])=val l+4294967296 ^ l.length*d:=by
 rw[val_append];simp[val]
theorem Nrm.snoc:∀ (l:List Nat) (d:Nat),Nrm (l ++ [d])↔d≠0
 | [],d=>by simp[Nrm]
 | [e],d=>by simp[Nrm]
 | e :: f :: l,d=>by have:=Nrm.snoc (f :: l) d;simpa[Nrm] using this
theorem val_ge_of_nrm (l:List Nat) (d:Nat) (hd:d≠0):4294967296 ^ l.length≤val (l ++ [d]):=by
 rw[val_snoc]
 have:4294967296 ^ l.length*1≤4294967296 ^ l.length*d:=Nat.mul_le_mul_left _ (by omega)
 omega
theorem wd_length {n k:Nat} (h:n<4294967296 ^ k):(wd n).length≤k:=by
 rcases List.eq_nil_or_concat (wd n) with h0 |⟨l,d,h0⟩
 ·simp[h0]
 ·rw[List.concat_eq_append] at h0
  have hn:=wd_nrm n;rw[h0,Nrm.snoc] at hn
  have hv:=wd_val n;rw[h0] at hv
  have:=val_ge_of_nrm l d hn
  rw[h0,List.length_append,List.length_singleton]
  have h3:4294967296 ^ l.length<4294967296 ^ k:=by omega
  exact(Nat.pow_lt_pow_iff_right (by decide)).1 h3
end Gus
end
section
namespace Gus
def b4 (d:Nat):List UInt8:=[UInt8.ofNat d,UInt8.ofNat (d / 256),UInt8.ofNat (d / 65536),UInt8.ofNat (d / 16777216)]
def byts (l:List Nat):List UInt8:=l.flatMap b4
def lo (n:Nat):Int:=if n<18446744073709551616 then (n:Int) else 0
def bg (n:Nat):ByteArray:=if n<18446744073709551616 then ByteArray.empty else ⟨(byts (wd n)).toArray⟩
theorem byts_cons (d:Nat) (l:List Nat):byts (d :: l)=b4 d ++ byts l:=rfl
theorem byts_length (l:List Nat):(byts l).length=4*l.length:=by
 induction l with
 | nil=>rfl
 | cons d l ih=>rw[byts_cons,List.length_append,ih,List.length_cons];simp[b4];omega
theorem byts_append (l m:List Nat):byts (l ++ m)=byts l ++ byts m:=by simp[byts]
theorem byts_get (l:List Nat):∀ (i:Nat) (hi:i<l.length) (k:Nat) (hk:k<4),(byts l)[4*i+k]'(by rw[byts_length];omega)=UInt8.ofNat (l[i] / 256 ^ k):=by
 induction l with
 | nil=>intro i hi;simp at hi
 | cons d l ih=>
  intro i hi k hk
  cases i with
  | zero=>
   simp only[byts_cons]
   match k,hk with
   | 0,_=>simp[b4]
   | 1,_=>simp[b4]
   | 2,_=>simp[b4]
   | 3,_=>simp[b4]
  | succ i=>
   have:=ih i (by simpa using hi) k hk
   simp only[byts_cons,List.getElem_cons_succ]
   rw[List.getElem_append_right (by simp[b4];omega)]
   have e:4*(i+1)+k - (b4 d).length=4*i+k:=by simp[b4];omega
   simp only[e];exact this
theorem byts_inj:∀ l m,Digs l→Digs m→byts l=byts m→l=m
 | [],[],_,_,_=>rfl
 | [],e :: m,_,_,h=>by have:=congrArg List.length h;simp[byts_length] at this
 | d :: l,[],_,_,h=>by have:=congrArg List.length h;simp[byts_length] at this
 | d :: l,e :: m,dl,dm,h=>by
  rw[byts_cons,byts_cons] at h
  have h4:=List.append_inj h (by simp[b4])
  have h1:=dl.head;have h2:=dm.head
  have hh:=h4.1
  simp only[b4,List.cons.injEq,and_true] at hh
  obtain⟨a,b,c,f⟩:=hh
  have a:=congrArg UInt8.toNat a;have b:=congrArg UInt8.toNat b;have c:=congrArg UInt8.toNat c;have f:=congrArg UInt8.toNat f
  simp only[UInt8.toNat_ofNat'] at a b c f
  obtain rfl:d=e:=by omega
  rw[byts_inj l m dl.tail dm.tail h4.2]
theorem lo_small {n:Nat} (h:n<18446744073709551616):lo n=n:=by unfold lo;rw[if_pos h]
theorem bg_small {n:Nat} (h:n<18446744073709551616):bg n=ByteArray.empty:=by unfold bg;rw[if_pos h]
theorem lo_big {n:Nat} (h:¬ n<18446744073709551616):lo n=0:=by unfold lo;rw[if_neg h]
theorem bg_big {n:Nat} (h:¬ n<18446744073709551616):bg n=⟨(byts (wd n)).toArray⟩:=by unfold bg;rw[if_neg h]
theorem lo_zero:lo 0=0:=rfl
theorem bg_zero:bg 0=ByteArray.empty:=rfl
theorem wd_ne_nil {n:Nat} (h:n≠0):wd n≠[]:=by intro h0;have:=wd_val n;rw[h0] at this;simp[val] at this;omega
theorem bg_size (n:Nat):(bg n).size=if n<18446744073709551616 then 0 else 4*(wd n).length:=by
 unfold bg;split
 ·rfl
 ·show(byts (wd n)).toArray.size=_;simp[byts_length]
theorem bg_toList_big {n:Nat} (h:¬ n<18446744073709551616):(bg n).data.toList=byts (wd n):=by rw[bg_big h]
theorem bg_empty_iff (n:Nat):(bg n).data.toList=[]↔n<18446744073709551616:=by
 constructor
 ·intro h
  refine Decidable.by_contra fun hn=>?_
  rw[bg_toList_big hn] at h
  have h1:=congrArg List.length h
  rw[byts_length] at h1
  exact wd_ne_nil (n:=n) (by omega) (List.eq_nil_of_length_eq_zero (by simp only[List.length_nil] at h1;omega))
 ·intro h;rw[bg_small h];rfl
theorem nat_eq_iff (m n:Nat):(lo m=lo n∧(bg m).data.toList=(bg n).data.toList)↔m=n:=by
 constructor
 ·rintro⟨h1,h2⟩
  by_cases hm:m<18446744073709551616
  ·have hn:=(bg_empty_iff n).1 (by rw[←h2];exact(bg_empty_iff m).2 hm)
   rw[lo_small hm,lo_small hn] at h1;omega
  ·have hn:¬ n<18446744073709551616:=fun hn=>hm ((bg_empty_iff m).1 (by rw[h2];exact(bg_empty_iff n).2 hn))
   rw[bg_toList_big hm,bg_toList_big hn] at h2
   have:=byts_inj _ _ (wd_digs m) (wd_digs n) h2
   rw[←wd_val m,←wd_val n,this]
 ·rintro rfl;exact⟨rfl,rfl⟩
end Gus
end
section
namespace Gus
theorem mk_natAbs (n:Int) (d:Nat) (hd:d≠0):(mkRat n d).num.natAbs=n.natAbs / Nat.gcd n.natAbs d:=by
 rw[Rat.num_mkRat,if_neg hd,Nat.gcd_comm]
 have hg:Nat.gcd n.natAbs d≠0:=by
  intro h;exact hd (Nat.eq_zero_of_gcd_eq_zero_right h)
 obtain⟨m,hm⟩:(Nat.gcd n.natAbs d:Int) ∣ n:=Int.ofNat_dvd_left.2 (Nat.gcd_dvd_left _ _)
 generalize Nat.gcd n.natAbs d=g at *
 subst hm
 rw[Int.mul_ediv_cancel_left m (by omega),Int.natAbs_mul,Int.natAbs_natCast,Nat.mul_div_cancel_left _ (by omega)]
theorem mk_neg (n:Int) (d:Nat) (hd:d≠0):(mkRat n d).num<0↔n<0:=by
 rw[Rat.num_mkRat,if_neg hd,Nat.gcd_comm]
 have hg:Nat.gcd n.natAbs d≠0:=by
  intro h;exact hd (Nat.eq_zero_of_gcd_eq_zero_right h)
 obtain⟨m,hm⟩:(Nat.gcd n.natAbs d:Int) ∣ n:=Int.ofNat_dvd_left.2 (Nat.gcd_dvd_left _ _)
 generalize Nat.gcd n.natAbs d=g at *
 subst hm
 rw[Int.mul_ediv_cancel_left m (by omega)]
 have hg':(0:Int)<g:=by omega
 constructor
 ·intro h;exact Int.mul_neg_of_pos_of_neg hg' h
 ·intro h
  refine Decidable.by_contra fun h2=>?_
  have:=Int.mul_nonneg (Int.le_of_lt hg') (by omega:0≤m)
  omega
theorem mk_den (n:Int) (d:Nat) (hd:d≠0):(mkRat n d).den=d / Nat.gcd n.natAbs d:=by
 rw[Rat.den_mkRat,if_neg hd,Nat.gcd_comm]
def SzK (k:Nat) (q:Rat):Prop:=q.num.natAbs<2 ^ k∧q.den<2 ^ k
theorem SzK.mono {j k:Nat} {q:Rat} (h:SzK j q) (hjk:j≤k):SzK k q:=
 ⟨Nat.lt_of_lt_of_le h.1 (Nat.pow_le_pow_right (by decide) hjk),Nat.lt_of_lt_of_le h.2 (Nat.pow_le_pow_right (by decide) hjk)⟩
theorem SzK.mk {k:Nat} {n:Int} {d:Nat} (hd:d≠0) (hn:n.natAbs<2 ^ k) (hk:d<2 ^ k):SzK k (mkRat n d):=by
 constructor
 ·rw[mk_natAbs n d hd];exact Nat.lt_of_le_of_lt (Nat.div_le_self _ _) hn
 ·rw[mk_den n d hd];exact Nat.lt_of_le_of_lt (Nat.div_le_self _ _) hk
theorem mul_lt_pow {a b i j:Nat} (ha:a<2 ^ i) (hb:b<2 ^ j):a*b<2 ^ (i+j):=by
 rw[Nat.pow_add]
 exact Nat.mul_lt_mul_of_lt_of_le ha (Nat.le_of_lt hb) (Nat.pow_pos (by decide))
theorem SzK.mul {i j:Nat} {a b:Rat} (ha:SzK i a) (hb:SzK j b):SzK (i+j) (a*b):=by
 rw[Rat.mul_def']
 have:=a.den_nz;have:=b.den_nz
 exact .mk (Nat.mul_ne_zero a.den_nz b.den_nz) (by rw[Int.natAbs_mul];exact mul_lt_pow ha.1 hb.1) (mul_lt_pow ha.2 hb.2)
theorem SzK.add {i j:Nat} {a b:Rat} (ha:SzK i a) (hb:SzK j b):SzK (i+j+1) (a+b):=by
 rw[Rat.add_def']
 refine .mk (Nat.mul_ne_zero a.den_nz b.den_nz) ?_ (Nat.lt_of_lt_of_le (mul_lt_pow ha.2 hb.2) (Nat.pow_le_pow_right (by decide) (by omega)))
 have h1:=mul_lt_pow ha.1 hb.2
 have h2:=mul_lt_pow hb.1 ha.2
 have h3:=Int.natAbs_add_le (a.num*b.den) (b.num*a.den)
 rw[Int.natAbs_mul,Int.natAbs_mul,Int.natAbs_natCast,Int.natAbs_natCast] at h3
 rw[Nat.add_comm j i] at h2
 rw[Nat.pow_succ];omega
theorem SzK.neg {k:Nat} {a:Rat} (h:SzK k a):SzK k (-a):=by
 constructor
 ·rw[Rat.neg_num,Int.natAbs_neg];exact h.1
 ·rw[Rat.neg_den];exact h.2
theorem SzK.sub {i j:Nat} {a b:Rat} (ha:SzK i a) (hb:SzK j b):SzK (i+j+1) (a - b):=by
 rw[Rat.sub_eq_add_neg];exact ha.add hb.neg
theorem SzK.zero:SzK 1 0:=by constructor <;> decide
theorem SzK.one:SzK 1 1:=by constructor <;> decide
theorem inv_num_natAbs {a:Rat} (h:a≠0):(a⁻¹).num.natAbs=a.den∧(a⁻¹).den=a.num.natAbs:=by
 rw[Rat.inv_def]
 have hn:a.num≠0:=fun h0=>h (Rat.num_eq_zero.1 h0)
 have hg:Nat.gcd a.den a.num.natAbs=1:=by rw[Nat.gcd_comm];exact a.reduced
 have key:∃ n:Int,n.natAbs=a.den∧Rat.divInt (a.den:Int) a.num=mkRat n a.num.natAbs:=by
  cases hm:a.num with
  | ofNat m=>exact⟨a.den,by simp,by simp[Rat.divInt]⟩
  | negSucc m=>exact⟨-(a.den:Int),by simp,by rw[Rat.mkRat_def,dif_neg (by simp)];simp[Rat.divInt]⟩
 obtain⟨n,h1,h2⟩:=key
 rw[h2]
 constructor
 ·rw[mk_natAbs _ _ (by omega),h1,hg,Nat.div_one]
 ·rw[mk_den _ _ (by omega),h1,hg,Nat.div_one]
theorem SzK.inv {k:Nat} {a:Rat} (h:SzK k a) (hk:0<k):SzK k (a⁻¹):=by
 by_cases h0:a=0
 ·subst h0;rw[Rat.inv_zero];exact SzK.zero.mono hk
 ·obtain⟨h1,h2⟩:=inv_num_natAbs h0
  exact⟨by rw[h1];exact h.2,by rw[h2];exact h.1⟩
theorem SzK.pos {k:Nat} {a:Rat} (h:SzK k a):0<k:=by
 rcases Nat.eq_zero_or_pos k with rfl | h0
 ·have:=a.den_nz;have:=h.2;simp at this;omega
 ·exact h0
theorem SzK.div {i j:Nat} {a b:Rat} (ha:SzK i a) (hb:SzK j b):SzK (i+j) (a / b):=by
 rw[Rat.div_def];exact ha.mul (hb.inv hb.pos)
end Gus
end
section
namespace Gus
open Go Go.RowKit
section
variable {P:Program} {ops:Array Oper} {md:Region.Mode} {C:World→Prop}
def wpAnyT (P:Program) (md:Region.Mode) (ops:Array Oper) (C:World→Prop) (n:Nat) (L:Array Bool→Act→Prop):Nat→Array Bool→Act→Prop
 | 0,listed,a=>L listed a
 | f+1,listed,a=>
  Region.ready md ops listed≠[]∧∀ i∈Region.ready md ops listed,i<n∧qOp P ops C i (wpAnyT P md ops C n L f (listed.setIfInBounds i true)) a
theorem wpAny_of_headT {n g:Nat} {L:Array Bool→Act→Prop} {Q':Exit→Act→World→Prop} (hL:∀ listed a w,C w→L listed a→wpAny P md ops Q' g listed a w) :
  ∀ (f:Nat) (listed:Array Bool) (a:Act) (w:World),C w→wpAnyT P md ops C n L f listed a→wpAny P md ops Q' (f+g) listed a w
 | 0,listed,a,w,hC,h=>by rw[Nat.zero_add];exact hL _ _ _ hC h
 | f+1,listed,a,w,hC,h=>by
  rw[show f+1+g=(f+g)+1 by omega]
  exact⟨fun h0=>absurd h0 h.1,fun i hi=>wpOp_of_qOp hC (fun a' w' hw' h'=>wpAny_of_headT hL f _ a' w' hw' h') (h.2 i hi).2⟩
theorem wpAnyT_first {n i:Nat} {oi:Oper} {v:Value} {L:Array Bool→Act→Prop} (hi:ops[i]?=some oi) (hsel:∀ (j:Nat) (o:Oper) cs b,ops[j]?=some o→o.op≠.select cs b)
  (hs:Region.sinkB md ops n=true) (hc:Region.chainB md ops n=true) (hn:n<ops.size) (hin:i<n)
  (hdone:∀ listed a,L listed a→∀ j∈Region.ready md ops listed,n≤j) :
  ∀ (f:Nat) (listed:Array Bool) (a:Act),HeadInv md ops n listed →
   (∀ j oj,ops[j]?=some oj→j≠i→listed.getD j true=false→(∀ e∈oj.after,Region.binds md e=true→e.on≠i)→oi.apart ops oj=true) →
   i∈Region.ready md ops listed→YieldsIn P ops C oi v a →
   wpAnyT P md ops C n L f (listed.setIfInBounds i true) (a.put oi.dst v)→wpAnyT P md ops C n L (f+1) listed a:=by
 intro f
 induction f with
 | zero=>
  intro listed a inv _ hr hy H
  have hun:=(mem_ready.1 hr).1
  refine⟨fun h=>(by rw[h] at hr;cases hr),fun j hj=>?_⟩
  have hjn:j<n:=by
   rcases Nat.lt_or_ge j n with h | h
   ·exact h
   ·exact absurd hj (tail_waits hs hc hn inv _ i rfl hin hun j h)
  refine⟨hjn, ?_⟩
  by_cases hji:j=i
  ·subst hji;exact hy.qOp hi H
  ·have:=hdone _ _ H j (ready_mono hj hji)
   omega
 | succ f ih=>
  intro listed a inv hfree hr hy H
  have hun:=(mem_ready.1 hr).1
  refine⟨fun h=>(by rw[h] at hr;cases hr),fun j hj=>?_⟩
  have hjn:j<n:=by
   rcases Nat.lt_or_ge j n with h | h
   ·exact h
   ·exact absurd hj (tail_waits hs hc hn inv _ i rfl hin hun j h)
  refine⟨hjn, ?_⟩
  by_cases hji:j=i
  ·subst hji;exact hy.qOp hi H
  ·have h1:=(H.2 j (ready_mono hj hji)).2
   obtain⟨hjun,oj,hoj,hall⟩:=mem_ready.1 hj
   have hnot:∀ e∈oj.after,Region.binds md e=true→e.on≠i:=fun e he hb heq=>by
    have h1:=hall e he hb
    rw[heq,getD_both hun] at h1
    cases h1
   have h2:=qOp_put hoj (hfree j oj hoj hji hjun hnot) (fun cs b=>hsel i oi cs b hi) (fun cs b=>hsel j oj cs b hoj) hy h1
   have hfree':∀ k ok,ops[k]?=some ok→k≠i→(listed.setIfInBounds j true).getD k true=false →
     (∀ e∈ok.after,Region.binds md e=true→e.on≠i)→oi.apart ops ok=true:=fun k ok hk hki hun hno=>by
    refine hfree k ok hk hki ?_ hno
    by_cases hjk:j=k
    ·subst hjk;exact hjun
    ·rw[getD_set_ne true hjk] at hun;exact hun
   refine qOp_mono (fun a' h3=>ih (listed.setIfInBounds j true) a' (inv.set hj hjn) hfree' (ready_mono hr (Ne.symm hji)) h3.1 ?_) h2
   rw[Array.setIfInBounds_comm _ _ hji]
   exact h3.2
theorem wpAnyT_lex {n g:Nat} {Lq:Act→Prop} (hsel:Region.noSelect ops=true) (hs:Region.sinkB md ops n=true) (hc:Region.chainB md ops n=true) (hn:n<ops.size) :
  ∀ (l:List Oper) (k:Nat) (listed:Array Bool) (a:Act),(∀ j,j<l.length→l[j]?=ops[k+j]?)→k+l.length=n→HeadInv md ops n listed →
  Region.lexHead md ops g l.length k listed=true→wpQuiet P ops C Lq l a →
  wpAnyT P md ops C n (fun listed' a'=>Region.seqB md ops g n listed'=true∧Lq a') l.length listed a
 | [],k,listed,a,_,hk,_,hB,h=>by
  have:k=n:=by simpa using hk
  subst this
  exact⟨by simpa[Region.lexHead] using hB,h⟩
 | o :: l,k,listed,a,hl,hk,inv,hB,h=>by
  have h0:ops[k]?=some o:=by simpa using(hl 0 (by simp)).symm
  simp only[List.length_cons,Region.lexHead,Bool.and_eq_true] at hB
  obtain⟨⟨hr,hf⟩,hB'⟩:=hB
  have hkn:k<n:=by simp only[List.length_cons] at hk;omega
  have hr':k∈Region.ready md ops listed:=by simpa using hr
  have hst:qOp P ops C k (wpQuiet P ops C Lq l) a:=by unfold qOp;simp only[h0];exact h
  obtain⟨v,hy,hK⟩:=yieldsIn_of_qOp h0 hst
  exact wpAnyT_first h0 (Region.noSelect_spec hsel) hs hc hn hkn (fun listed' a' hL=>seqB_ready hL.1) l.length listed a inv (Region.free_spec h0 hf) hr' hy
   (wpAnyT_lex hsel hs hc hn l (k+1) _ _ (fun j hj=>by have:=hl (j+1) (by simp;omega);simpa[Nat.add_assoc,Nat.add_comm 1 j] using this) (by simp only[List.length_cons] at hk;omega) (inv.set hr' hkn) hB' hK)
theorem wp_region_tail {id:Nat} {Q:Exit→Act→World→Prop} {a:Act} {w:World} {l:List Oper} (C:World→Prop) (n:Nat) (hm:P.follows .mixedOrders=true) (hB:Region.lexTailB .any l.toArray n=true)
  (hC:C w.drew) (h:wpQuiet P l.toArray C (fun a'=>∀ w',C w'→wpList P l.toArray Q (l.drop n) a' w') (l.take n) a):(Code.region id l.toArray true).wp P Q a w:=by
 simp only[Region.lexTailB,Bool.and_eq_true,decide_eq_true_eq] at hB
 obtain⟨⟨⟨⟨hsel,hn⟩,hs⟩,hc⟩,hlex⟩:=hB
 have hn':n<l.length:=by simpa using hn
 have htl:(l.take n).length=n:=by simp;omega
 have hdl:(l.drop n).length=l.toArray.size - n:=by simp
 have inv0:HeadInv .any l.toArray n (Array.replicate l.toArray.size false):=
  ⟨by simp,fun j oj _ hl=>(by rw[getD_replicate_false] at hl;cases hl),fun t _ ht=>getD_in (by simpa using ht) (getD_replicate_false _ _)⟩
 have H:=wpAnyT_lex (md:=.any) (g:=l.toArray.size - n) hsel hs hc hn (l.take n) 0 _ a (fun j hj=>by
  have hj':j<n:=by rw[htl] at hj;exact hj
  simp[hj']) (by simpa using htl) inv0 (by rw[htl];exact hlex) h
 refine wp_region_any hm ?_
 have:=wpAny_of_headT (Q':=Q) (g:=l.toArray.size - n) (fun listed a' w' hw' hL=>by
  have:=wpAny_of_seq (md:=.any) (Q':=Q) (l.drop n) n listed a' w' (fun j=>by simp[List.getElem?_drop]) (by rw[hdl];exact hL.1) (hL.2 w' hw')
  rwa [hdl] at this) _ _ _ w.drew hC H
 rw[htl,show n+(l.toArray.size - n)=l.toArray.size by omega] at this
 exact this
theorem wp_region_all {id:Nat} {Q:Exit→Act→World→Prop} {a:Act} {w:World} {l:List Oper} (C:World→Prop) (hm:P.follows .mixedOrders=true) (hB:Region.lexB .any l.toArray=true) (hC:C w.drew)
  (h:wpQuiet P l.toArray C (fun a'=>∀ w',C w'→Q .normal a' w') l a):(Code.region id l.toArray true).wp P Q a w:=
 wp_region_quiet (C:=C) hm hB hC (by simpa using h)
end
theorem wpQuiet_run {P:Program} {C:World→Prop} {ops:Array Oper} {Q:Act→Prop} {a:Act} {o:Oper} {rest:List Oper} {v:Value} (hw:Region.wanted o (yielded ops a.tmps)=true)
  (h:∀ w,C w→o.quietAt P a C w v) (hk:wpQuiet P ops C Q rest (a.put o.dst v)):wpQuiet P ops C Q (o :: rest) a:=by
 unfold wpQuiet;rw[if_pos hw];exact⟨v,h,hk⟩
theorem wpQuiet_skip {P:Program} {C:World→Prop} {ops:Array Oper} {Q:Act→Prop} {a:Act} {o:Oper} {rest:List Oper} (hw:Region.wanted o (yielded ops a.tmps)=false)
  (hk:wpQuiet P ops C Q rest (a.put o.dst undef)):wpQuiet P ops C Q (o :: rest) a:=by
 unfold wpQuiet;rw[if_neg (by rw[hw];exact Bool.false_ne_true)];exact hk
section
variable {P:Program} {ops:Array Oper} {Q:Exit→Act→World→Prop} {md:Region.Mode} {S:World→Prop}
def mixB (md:Region.Mode) (ops:Array Oper):List (Nat×Bool)→Array Bool→Bool
 | [],listed=>(Region.ready md ops listed).isEmpty
 |(i,true) :: r,listed=>(Region.ready md ops listed).contains i && Region.free md ops listed i && mixB md ops r (listed.setIfInBounds i true)
 |(i,false) :: r,listed=>decide (Region.ready md ops listed=[i]) && mixB md ops r (listed.setIfInBounds i true)
def wpMix (P:Program) (ops:Array Oper) (Q:Exit→Act→World→Prop) (S:World→Prop):List (Nat×Bool)→Act→World→Prop
 | [],a,w=>Q .normal a w
 |(i,true) :: r,a,w=>∃ o v,ops[i]?=some o∧YieldsIf P ops S o v a∧wpMix P ops Q S r (a.put o.dst v) w
 |(i,false) :: r,a,w=>wpOp P ops Q i (fun a' w'=>S w'∧wpMix P ops Q S r a' w') a w
theorem wpAnyH_of_mix (hs:Region.noSelect ops=true) (hQ:∀ c a d v w,Q (.panic c) (Act.put a d v) w→Q (.panic c) a w) :
  ∀ (plan:List (Nat×Bool)) (listed:Array Bool) (a:Act) (w:World),mixB md ops plan listed=true→S w→wpMix P ops Q S plan a w→wpAnyH P md ops Q S plan.length listed a w
 | [],listed,a,w,hB,_,h=>by
  simp only[mixB,List.isEmpty_iff] at hB
  exact⟨hB,h⟩
 |(i,true) :: r,listed,a,w,hB,hS,h=>by
  simp only[mixB,Bool.and_eq_true] at hB
  obtain⟨o,v,ho,hy,hk⟩:=h
  exact wpAnyH_take ho hs hB.1.2 hB.1.1 (fun c a w h=>hQ c a o.dst v w h) hy hS (wpAnyH_of_mix hs hQ r _ _ _ hB.2 hS hk)
 |(i,false) :: r,listed,a,w,hB,hS,h=>by
  simp only[mixB,Bool.and_eq_true,decide_eq_true_eq] at hB
  refine wpAnyH_all hB.1 (by simp) (fun j hj=>?_)
  obtain rfl:j=i:=by simpa using hj
  exact wpOp_mono (fun a' w' h'=>⟨h'.1,wpAnyH_of_mix hs hQ r _ _ _ hB.2 h'.1 h'.2⟩) h
theorem mix_take {i:Nat} {r:List (Nat×Bool)} {o:Oper} {a:Act} {w:World} {v:Value} (ho:ops.toList[i]?=some o) (hw:Region.wanted o (yielded ops a.tmps)=true)
  (h:∀ w,S w→(execOp a.eval o).run P w=.ok (.value v) w) (hk:wpMix P ops Q S r (a.put o.dst v) w):wpMix P ops Q S ((i,true) :: r) a w:=⟨o,v,by rw[←Array.getElem?_toList];exact ho,.inl ⟨hw,h⟩,hk⟩
theorem mix_run {i:Nat} {r:List (Nat×Bool)} {o:Oper} {a:Act} {w:World} (ho:ops.toList[i]?=some o) (hw:Region.wanted o (yielded ops a.tmps)=true)
  (h:∀ K:Act→World→Prop,(∀ a w,S w→wpMix P ops Q S r a w→K a w)→o.wp P a w K Q):wpMix P ops Q S ((i,false) :: r) a w:=by
 rw[Array.getElem?_toList] at ho
 unfold wpMix wpOp
 simp only[ho,hw,if_true]
 exact .inl (h _ fun a w hS hk=>⟨hS,hk⟩)
theorem mix_done {a:Act} {w:World} (h:Q .normal a w):wpMix P ops Q S [] a w:=h
theorem wp_region_mix {id:Nat} {a:Act} {w:World} {l:List Oper} (S:World→Prop) (plan:List (Nat×Bool)) (hm:P.follows .mixedOrders=true) (hs:Region.noSelect l.toArray=true) (hl:plan.length=l.toArray.size)
  (hB:mixB .any l.toArray plan (Array.replicate l.toArray.size false)=true) (hQ:∀ c a d v w,Q (.panic c) (Act.put a d v) w→Q (.panic c) a w) (hS:S w.drew) (h:wpMix P l.toArray Q S plan a w.drew):(Code.region id l.toArray true).wp P Q a w:=by
 refine wp_region_held (S:=S) hm ?_
 rw[←hl]
 exact wpAnyH_of_mix hs hQ plan _ _ _ (by rw[hl];exact hB) hS h
end
structure In (N:Nat) (W0 w:World):Prop where
 bel:Below N W0 w
 siz:N≤w.heap.size
section
variable {N:Nat} {W0 w w':World}
theorem In.self (w:World):In w.heap.size w w:=⟨.refl _ _,Nat.le_refl _⟩
theorem In.cell (h:In N W0 w):∀ b o,b<N→w.cell? ⟨b,o,none⟩=W0.cell? ⟨b,o,none⟩:=fun b o hb=>h.bel.cell (p:=⟨b,o,none⟩) hb
theorem In.frozen (h:In N W0 w):∀ b o,b<N→w.frozen? ⟨b,o,none⟩=W0.frozen? ⟨b,o,none⟩:=fun b o hb=>h.bel.frozen (p:=⟨b,o,none⟩) hb
theorem In.call (h:In N W0 w) (hb:Below w.heap.size w w'):In N W0 w':=⟨h.bel.trans (hb.mono h.siz),Nat.le_trans h.siz hb.size⟩
theorem In.alloc (h:In N W0 w) (o:Obj):In N W0 (w.alloc o):=⟨h.bel.alloc h.siz o,by rw[World.size_alloc];have:=h.siz;omega⟩
theorem In.drew (h:In N W0 w):In N W0 w.drew:=⟨h.bel.drew,h.siz⟩
theorem In.setCell (h:In N W0 w) {p:Addr} (hp:N≤p.block) (u:Value):In N W0 (w.setCell p u):=⟨h.bel.setCell hp u,by rw[World.size_setCell];exact h.siz⟩
theorem In.mono (h:In N W0 w) {M:Nat} (hM:M≤N):In M W0 w:=⟨h.bel.mono hM,Nat.le_trans hM h.siz⟩
theorem In.trans {W1:World} (h:In N W0 W1) (k:In N W1 w):In N W0 w:=⟨h.bel.trans k.bel,k.siz⟩
end
theorem In.out {M N:Nat} {W W0 w:World} (h:In N W0 w) (k:In M W W0) (hM:M≤N):In M W w:=k.trans (h.mono hM)
theorem keepCell {w w':World} (hb:Below w.heap.size w w') {a:Addr} {v:Value} (h:w.cell? a=some v):w'.cell? a=some v:=(hb.cell (World.block_lt_of_cell? w a h)).trans h
end Gus
end
section
namespace Gus
structure Keep (Q:Prop):Prop where
 out:Q
end Gus
end
section
namespace Gus
open Go Go.RowKit
theorem trr {P:Prop} (p:P:=by with_reducible rfl):P:=p
theorem trf {P:Prop} (p:P:=by rfl):P:=p
theorem tput {P Q:Prop} (k:Q) (p:Keep Q→P:=by intro kk;(try simp only[Act.put]);(try simp only[List.setIfInBounds_toArray]);(try simp only[List.set]);exact kk.out):P:=p ⟨k⟩
theorem tfin {P:Prop} (p:P:=by
  refine In.bel ?_
  (repeat (first |(refine In.setCell ?_ (by first | omega |(simp;done)|(simp;omega)) _)|(refine In.alloc ?_ _)|(refine In.drew ?_)))
  (first | exact In.self _ |(refine In.out h ?_ (by first | omega |(simp;done)|(simp;omega));(repeat (first |(refine In.setCell ?_ (by first | omega |(simp;done)|(simp;omega)) _)|(refine In.alloc ?_ _)|(refine In.drew ?_)));exact In.self _))):P:=p
theorem tsz {P Q:Prop} (k:P) (p:P→Q:=by intro hq;(try simp only[World.size_alloc] at hq);(try simp only[World.size_setCell] at hq);exact hq):Q:=p k
theorem tin {P:Prop} (p:P:=by first | exact h | exact h.drew | exact h.alloc _ | exact(h.alloc _).alloc _ | exact((h.alloc _).alloc _).alloc _):P:=p
theorem tqs {P Q:Prop} (k:Q) (p:Keep Q→P:=by
  intro kk
  first
  |((with_reducible refine wpQuiet_run0 (v:=?_) ?_ ?_ ?_);rotate_left 1;exact trr;(focus (intro w' hw';have hc':=hw'.cell;go_simp;exact rfl)))
  |((with_reducible refine wpQuiet_skipg (j:=?_) (b:=?_) ?_ ?_ ?_);rotate_left 2;exact trr;exact trf)
  |((with_reducible refine wpQuiet_rung (v:=?_) (j:=?_) (b:=?_) ?_ ?_ ?_ ?_);rotate_left 3;exact trr;exact trf;(focus (intro w' hw';have hc':=hw'.cell;go_simp;exact rfl)))
  refine tput ?_
  exact kk.out):P:=p ⟨k⟩
end Gus
end
section
namespace Gus
open Go Go.RowKit
abbrev natV (n:Nat):Value:=.agg #[.int .u64 (lo n),.string (bg n)]
abbrev intV (z:Int):Value:=.agg #[.int .u64 (lo z.natAbs),.string (bg z.natAbs),.bool (decide (z<0))]
abbrev fracV (q:Rat):Value:=.agg #[.int .u64 (lo q.num.natAbs),.string (bg q.num.natAbs),.bool (decide (q.num<0)),.int .u64 (lo (q.den - 1)),.string (bg (q.den - 1))]
def lim:Nat:=274877906944
end Gus
end
section
namespace Gus
open Go Go.RowKit Go.Proofs
def u32v (d:Nat):Value:=.int .u32 (d:Int)
def Blk (w:World) (b:Nat) (xs:List Nat):Prop:=w.heap[b]?=some (.cells (xs.map u32v).toArray 99 (0,0))
section
variable {w w':World} {b:Nat} {xs:List Nat}
theorem Blk.cell (h:Blk w b xs) {i:Nat} (hi:i<xs.length):w.cell? ⟨b,i,none⟩=some (.int .u32 ((xs.getD i 0:Nat):Int)):=by
 rw[cell_of_row w b i _ _ _ h]
 simp[u32v,hi]
theorem Blk.frozen (h:Blk w b xs) (i:Nat):w.frozen? ⟨b,i,none⟩=false:=frozen_of_row w b i _ _ h
theorem Blk.set (h:Blk w b xs) (i d:Nat):Blk (w.setCell ⟨b,i,none⟩ (.int .u32 (d:Int))) b (xs.set i d):=by
 unfold Blk
 rw[heap_setCell_same w b i _ _ _ h]
 have e:((xs.map u32v).toArray.setIfInBounds i (.int .u32 (d:Int)))=((xs.set i d).map u32v).toArray:=by
  rw[List.map_set];simp[u32v]
 rw[e]
theorem Blk.other {a:Addr} (h:Blk w b xs) (hne:a.block≠b) (v:Value):Blk (w.setCell a v) b xs:=by
 unfold Blk;rw[heap_setCell_other w a b v (Ne.symm hne)];exact h
theorem Blk.lt (h:Blk w b xs):b<w.heap.size:=(Array.getElem?_eq_some_iff.1 h).1
theorem Blk.below {N:Nat} (h:Blk w b xs) (hb:Below N w w') (hN:b<N):Blk w' b xs:=by
 unfold Blk;rw[hb.block b hN];exact h
theorem Blk.call (h:Blk w b xs) (hb:Below w.heap.size w w'):Blk w' b xs:=h.below hb h.lt
theorem Blk.alloc (h:Blk w b xs) (o:Obj):Blk (w.alloc o) b xs:=by
 exact(Below.heap_alloc w o b h.lt).trans h
theorem Blk.drew (h:Blk w b xs):Blk w.drew b xs:=h
theorem Blk.grown {row:Option Nat} (h:Blk w b xs) (hg:w.grownBy w' row) (hr:some b≠row):Blk w' b xs:=by
 unfold Blk;rw[hg.block b h.lt hr];exact h
theorem Blk.new (w:World) (cs:Array Value) (hc:cs=(xs.map u32v).toArray):Blk (w.alloc (.cells cs 99 (0,0))) w.heap.size xs:=by
 unfold Blk;subst hc;exact heap_alloc_new w _
end
theorem val_take_of_zero:∀ (l:List Nat) (k:Nat),(∀ i,k≤i→i<l.length→l.getD i 0=0)→val (l.take k)=val l
 | [],k,_=>by simp
 | d :: l,0,h=>by
  have h0:=h 0 (Nat.le_refl _) (by simp)
  have:=val_take_of_zero l 0 (fun i _ hi=>by have:=h (i+1) (by omega) (by simp;omega);simpa using this)
  simp[val] at *;omega
 | d :: l,k+1,h=>by
  have:=val_take_of_zero l k (fun i hk hi=>by have:=h (i+1) (by omega) (by simp;omega);simpa using this)
  simp only[List.take_succ_cons,val,this]
theorem nrm_take {l:List Nat} {k:Nat} (hk:k≤l.length) (h:k=0∨l.getD (k - 1) 0≠0):Nrm (l.take k):=by
 cases k with
 | zero=>exact trivial
 | succ k=>
  rw[List.take_succ_eq_append_getElem (by omega),Nrm.snoc]
  rcases h with h | h
  ·omega
  ·simpa[show k<l.length by omega] using h
theorem Digs.take {l:List Nat} (h:Digs l) (k:Nat):Digs (l.take k):=fun x hx=>h x (List.mem_of_mem_take hx)
theorem Digs.drop {l:List Nat} (h:Digs l) (k:Nat):Digs (l.drop k):=fun x hx=>h x (List.mem_of_mem_drop hx)
theorem Digs.getD {l:List Nat} (h:Digs l) (i:Nat):l.getD i 0<4294967296:=by
 rcases Nat.lt_or_ge i l.length with hi | hi
 ·have:=h l[i] (List.getElem_mem hi);simpa[hi] using this
 ·simp[hi]
theorem Digs.set {l:List Nat} (h:Digs l) (i d:Nat) (hd:d<4294967296):Digs (l.set i d):=by
 intro x hx
 rcases List.mem_or_eq_of_mem_set hx with h1 | h1
 ·exact h x h1
 ·exact h1 ▸ hd
end Gus
namespace Gus
open Go Go.RowKit Go.Proofs
def zrow (L:Nat):Array Value:=((List.replicate L 0).map u32v).toArray
theorem info_u32:(Tryz.prog.info? 99).map (fun i=>(i.zero,i.size,i.bytes))=some (some (.int .u32 0),1,4):=by kernel_rfl
theorem made_u32 (L:Nat):madeCells #[Value.int .u32 0] L=zrow L:=by
 apply Array.toList_inj.1
 rw[toList_madeCells_one,zrow]
 simp[u32v]
theorem mk_u32 (L:Nat) (hL:L≤17592186044416) (w:World):(Instr.makeSlice 206 (.int .i64 (L:Int)) (.int .i64 (L:Int))).run Tryz.prog w =
  .ok (.slice (some ⟨w.heap.size,0,none⟩) L L) (w.alloc (.cells (zrow L) 99)):=by
 obtain⟨i0,hi,hz0,hz1,hz2⟩:=info_parts info_u32
 have:=run_make (P:=Tryz.prog) w 206 99 i0 (.int .u32 0) Tryz.underlying206 hi hz0 .i64 .i64 L L (by omega) (Int.le_refl _) (by rw[hz2];omega) (by omega)
 rw[this]
 simp only[Int.toNat_natCast,hz1,Nat.mul_one]
 rw[←made_u32];rfl
theorem Blk.made (w:World) (L:Nat):Blk (w.alloc (.cells (zrow L) 99)) w.heap.size (List.replicate L 0):=Blk.new w _ rfl
end Gus
end
section
namespace Gus
open Go Go.RowKit Go.Proofs
theorem nat_eq_iff' (m n:Nat):(lo m=lo n∧(bg m).toList=(bg n).toList)↔m=n:=by
 rw[ByteArray.toList_eq,ByteArray.toList_eq];exact nat_eq_iff m n
theorem nat_zero_iff (n:Nat):(lo n=0∧(bg n).toList=[])↔n=0:=by
 have:=nat_eq_iff' n 0
 rw[lo_zero,bg_zero,show ByteArray.empty.toList=[] from by rw[ByteArray.toList_eq];rfl] at this
 exact this
theorem bg_small_iff (n:Nat):(bg n).toList=[]↔n<18446744073709551616:=by rw[ByteArray.toList_eq];exact bg_empty_iff n
theorem natEq_run (m n:Nat) (w:World):(binOp .eql 66 (natV m) (natV n)).run Tryz.prog w=.ok (.bool (decide (m=n))) w:=by
 simp[go_sem]
 by_cases h:m=n
 ·subst h;simp
 ·by_cases h1:lo m=lo n
  ·have h2:¬ (bg m).toList=(bg n).toList:=fun h2=>h ((nat_eq_iff' m n).1 ⟨h1,h2⟩)
   simp[h1,h2,h]
  ·simp[h1,h]
theorem natEq0_run (n:Nat) (w:World):(binOp .eql 66 (natV n) (.agg #[.int .u64 0,.string ⟨#[]⟩])).run Tryz.prog w=.ok (.bool (decide (n=0))) w:=by
 have:=natEq_run n 0 w
 exact this
theorem natOf_any (x:Int) (h0:0≤x) (h1:x<18446744073709551616) (w:World) :
  Calls Tryz.prog 138 #[.int .u64 x] w fun e w'=>e=.returned (natV x.toNat)∧Below w.heap.size w w':=by
 have e1:lo x.toNat=x:=by rw[lo_small (by omega)];omega
 have e2:bg x.toNat=⟨#[]⟩:=bg_small (by omega)
 rw[natV,e1,e2]
 clear e1 e2
 go_enter Tryz.func138,Tryz.ntmps138
 go_wp2_with fail
 exact bodyPost_ret (v:=.agg #[.int .u64 x,.string ⟨#[]⟩]) (by simp[results,Tryz.results138,go_sem, *]) rfl ⟨rfl,by exact tfin⟩
theorem zero_any (n:Nat) (w:World) :
  Calls Tryz.prog 165 #[natV n] w fun e w'=>e=.returned (.bool (decide (n=0)))∧Below w.heap.size w w':=by
 have hz:=natEq0_run n
 go_enter Tryz.func165,Tryz.ntmps165
 go_wp2_with fail
 go_ret
 exact⟨rfl,by exact tfin⟩
theorem sign_any (n:Int) (w:World) :
  Calls Tryz.prog 208 #[.int .i64 n] w fun e w'=>e=.returned (.int .i64 (if n<0 then -1 else if n=0 then 0 else 1))∧w=w':=by
 by_cases h1:n<0
 ·rw[if_pos h1]
  go_enter Tryz.func208,Tryz.ntmps208
  go_wp2_with fail
  all_goals (go_ret;first | exact⟨rfl,rfl⟩|(exfalso;omega))
 ·rw[if_neg h1]
  by_cases h2:n=0
  ·rw[if_pos h2];subst h2
   go_enter Tryz.func208,Tryz.ntmps208
   go_wp2_with fail
   go_ret
   exact⟨rfl,rfl⟩
  ·rw[if_neg h2]
   have h3:0<n:=by omega
   go_enter Tryz.func208,Tryz.ntmps208
   go_wp2_with fail
   go_ret
   exact⟨rfl,rfl⟩
end Gus
end
