/- Proved here: parts of the proof: KApp ShelfV KVTx KWrkA KWrk. Conditions: those that each theorem states. -/
import Derived.Test.YthblojaeoiemmaaGreatDoorShelfUQ
import Derived.Shelf.Strings.Builder1
import Derived.Shelf.Strings.Builder2
import Derived.Shelf.Strings.OnBuilder
import Derived.Shelf.Small.Bits
import Derived.Shelf.Small.Wraps
import Derived.Shelf.Strings.BuilderF
import Derived.Shelf.Strings.BuilderK
import Derived.Shelf.Strings.Builder2Cap
import Derived.Shelf.Strings.Prefix
import Derived.Shelf.Bits.Mul64
import Derived.Shelf.Strings.Repeat
import Derived.Shelf.Strings.BuilderCap
import Derived.Shelf.Slices.ReverseS
import Derived.Shelf.Slices.SearchI
import Derived.Shelf.Slices.Cells
import Derived.Ground.Names2Prog
import Derived.Test.YthblojaeoiemmaaGreatDoorProg
section
namespace Go.Proofs
open Go.Shelf
def Tryz.lays156_ren:Go.Shelf.Ren:=⟨fun | 156=>97 | 165=>145 | 166=>146 | 169=>147 | 240=>173 | 241=>174 | 276=>196 | 277=>197 | n=>n,fun | 31=>160 | 9=>9 | 3=>3 | 4=>4 | 0=>0 | 20=>20 | 72=>211 | 76=>215 | 70=>209 | 37=>52 | 75=>214 | 127=>241 | 164=>262 | 5=>5 | 80=>217 | n=>n,fun | n=>n⟩
theorem Tryz.lays156:Go.Proofs.Lays.n156 Tryz.prog Tryz.lays156_ren:={
 mixed:=by kernel_rfl
 f156:=Tryz.func97.trans (congrArg some (by kernel_rfl))
 f165:=Tryz.func145.trans (congrArg some (by kernel_rfl))
 f166:=Tryz.func146.trans (congrArg some (by kernel_rfl))
 f169:=Tryz.func147.trans (congrArg some (by kernel_rfl))
 f240:=Tryz.func173.trans (congrArg some (by kernel_rfl))
 f241:=Tryz.func174.trans (congrArg some (by kernel_rfl))
 f276:=Tryz.func196.trans (congrArg some (by kernel_rfl))
 f277:=Tryz.func197.trans (congrArg some (by kernel_rfl))
 t0:=Tryz.underlying0
 a0:=Tryz.isAgg0
 z0:=Tryz.sizeOf0
 v0:=Tryz.zeroValue0
 t3:=Tryz.underlying3
 a3:=Tryz.isAgg3
 z3:=Tryz.sizeOf3
 v3:=Tryz.zeroValue3
 t4:=Tryz.underlying4
 a4:=Tryz.isAgg4
 z4:=Tryz.sizeOf4
 v4:=Tryz.zeroValue4
 t9:=Tryz.underlying9
 a9:=Tryz.isAgg9
 z9:=Tryz.sizeOf9
 v9:=Tryz.zeroValue9
 t20:=Tryz.underlying20
 a20:=Tryz.isAgg20
 z20:=Tryz.sizeOf20
 v20:=Tryz.zeroValue20
 t31:=Tryz.underlying160
 a31:=Tryz.isAgg160
 z31:=Tryz.sizeOf160
 v31:=Tryz.zeroValue160
 t37:=Tryz.underlying52
 a37:=Tryz.isAgg52
 z37:=Tryz.sizeOf52
 v37:=Tryz.zeroValue52
 t70:=Tryz.underlying209
 a70:=Tryz.isAgg209
 z70:=Tryz.sizeOf209
 v70:=Tryz.zeroValue209
 t72:=Tryz.underlying211
 a72:=Tryz.isAgg211
 z72:=Tryz.sizeOf211
 v72:=Tryz.zeroValue211
 t75:=Tryz.underlying214
 a75:=Tryz.isAgg214
 z75:=Tryz.sizeOf214
 v75:=Tryz.zeroValue214
 t76:=Tryz.underlying215
 a76:=Tryz.isAgg215
 z76:=Tryz.sizeOf215
 v76:=Tryz.zeroValue215
 t127:=Tryz.underlying241
 a127:=Tryz.isAgg241
 z127:=Tryz.sizeOf241
 v127:=Tryz.zeroValue241
 t164:=Tryz.underlying262
 a164:=Tryz.isAgg262
 z164:=Tryz.sizeOf262
 v164:=Tryz.zeroValue262 }
theorem Tryz.Builder_Extra_156:Builder.Extra Tryz.prog Tryz.lays156_ren:={
 sizeBuilder:=by kernel_rfl
 liesBuilder:=by kernel_rfl
 t5:=Tryz.underlying5
 a5:=Tryz.isAgg5
 z5:=Tryz.sizeOf5
 v5:=Tryz.zeroValue5
 infoByte:=by kernel_rfl
 cellsByte:=by kernel_rfl
 sizeByte:=by kernel_rfl
 neB5:=by decide }
open Go.RowKit in
theorem Tryz.strings_Join (bk o c:Nat) (xs:List ByteArray) (sep:ByteArray) (w:World) (hcells:∀ (j:Nat) x,xs[j]?=some x→w.cell? ⟨bk,o+j,none⟩=some (.string x)) (hbk:bk<w.heap.size) (hN:xs.length≤140737488355328) (hcap:xs.length≤c) (hlen:(Lib.join (xs.map (·.data.toList)) sep.data.toList).length≤140737488355328) :
  Calls Tryz.prog 97 #[.slice (some ⟨bk,o,none⟩) xs.length c,.string sep] w fun e w'=>e=.returned (.string ⟨(Lib.join (xs.map (·.data.toList)) sep.data.toList).toArray⟩)∧Below w.heap.size w w':=Any.strings_Join Tryz.lays156 Tryz.Builder_Extra_156 bk o c xs sep w hcells hbk hN hcap hlen
end Go.Proofs
end
section
namespace Gus
open Go Go.RowKit Go.Proofs
def vecT (qs:List Rat):List UInt8:=91 :: (Lib.join (qs.map ratT) [32] ++ [93])
theorem info_str:(Tryz.prog.info? 9).map (fun i=>(i.zero,i.size,i.bytes))=some (some (.string ⟨#[]⟩),1,16):=by kernel_rfl
def sv (F:Nat→List UInt8) (n k:Nat):List Value:=(List.range n).map fun i=>if i<k then strV (F i) else strV []
theorem sv_length (F:Nat→List UInt8) (n k:Nat):(sv F n k).length=n:=by simp[sv]
theorem sv_zero (F:Nat→List UInt8) (n:Nat):sv F n 0=List.replicate n (strV []):=by
 unfold sv
 apply List.ext_getElem
 ·simp
 ·intro i h1 h2;simp
theorem sv_set (F:Nat→List UInt8) (n k:Nat):(sv F n k).set k (strV (F k))=sv F n (k+1):=by
 apply List.ext_getElem
 ·simp[sv]
 ·intro i h1 h2
  simp only[sv,List.getElem_set,List.getElem_map,List.getElem_range]
  by_cases h:k=i
  ·subst h;rw[if_pos rfl,if_pos (by omega)]
  ·rw[if_neg h]
   by_cases h2:i<k
   ·rw[if_pos h2,if_pos (by omega)]
   ·rw[if_neg h2,if_neg (by omega)]
theorem mk_strs (F:Nat→List UInt8) (L:Nat) (hL:L≤4096) (w:World):(Instr.makeSlice 160 (.int .i64 (L:Int)) (.int .i64 (L:Int))).run Tryz.prog w =
  .ok (.slice (some ⟨w.heap.size,0,none⟩) L L) (w.alloc (.cells (sv F L 0).toArray 9)):=by
 obtain⟨i0,hi,hz0,hz1,hz2⟩:=info_parts info_str
 have:=run_make (P:=Tryz.prog) w 160 9 i0 (.string ⟨#[]⟩) Tryz.underlying160 hi hz0 .i64 .i64 L L (by omega) (Int.le_refl _) (by rw[hz2];omega) (by omega)
 rw[this]
 simp only[Int.toNat_natCast,hz1,Nat.mul_one]
 have e:madeCells (Value.string ⟨#[]⟩).cells L=(List.replicate L (strV [])).toArray:=by
  apply Array.toList_inj.1
  rw[show(Value.string ⟨#[]⟩).cells=#[.string ⟨#[]⟩] from rfl,toList_madeCells_one]
 rw[e,sv_zero]
theorem lens_le {m:Nat}:∀ (xs:List (List UInt8)),(∀ x∈xs,x.length≤m)→Lib.lens xs≤xs.length*m
 | [],_=>by simp[Lib.lens]
 | x :: xs,h=>by
  have h1:=h x (.head _)
  have h2:=lens_le xs (fun y hy=>h y (List.mem_cons_of_mem _ hy))
  have e:Lib.lens (x :: xs)=x.length+Lib.lens xs:=by simp[Lib.lens]
  rw[e,List.length_cons,Nat.add_mul,Nat.one_mul];omega
theorem join_le {m:Nat} (xs:List (List UInt8)) (h:∀ x∈xs,x.length≤m):(Lib.join xs [32]).length≤xs.length*(m+1):=by
 cases xs with
 | nil=>simp[Lib.join]
 | cons x xs=>
  have:=lens_le (x :: xs) h
  rw[Lib.join_length,List.length_singleton,Nat.mul_add,Nat.mul_one]
  rw[List.length_cons] at this ⊢
  omega
set_option maxRecDepth 100000 in
set_option maxHeartbeats 2000000 in
theorem vtext_any (w0 w:World) (vv:Value) (qs:List Rat) (m:Nat) (hV:VecAt w vv qs) (hin:In w0.heap.size w0 w) (hl:qs.length≤2048) (hx:∀ i,i<qs.length→RatTx w0 (qs.getD i 0)∧(ratT (qs.getD i 0)).length≤m) (hcap:qs.length*(m+1)≤140737488355328) :
  Calls Tryz.prog 43 #[vv] w fun e w'=>e=.returned (strV (vecT qs))∧Below w.heap.size w w':=by
 obtain⟨va,vc,rfl⟩:=hV.shape
 obtain⟨L,hL⟩:∃ L,L=qs.length:=⟨_,rfl⟩
 have HX:=Lib.hid hx
 have HV:=Lib.hid hV
 have HI:=Lib.hid hin
 rw[←hL] at hl ⊢
 have HL:=Lib.hid hL
 obtain⟨F,hF⟩:∃ F:Nat→List UInt8,∀ i,F i=ratT (qs.getD i 0):=⟨_,fun _=>rfl⟩
 have HF:=Lib.hid hF
 clear hF
 have HMK:=Lib.hid (mk_strs F L (by omega))
 obtain⟨X,hX⟩:∃ X,X=w.heap.size:=⟨_,rfl⟩
 have HW:=Lib.hid hX
 have hmk:=HMK.out w
 have HC:=Lib.hid hcap
 clear hx hV hin hL hcap
 go_enter Tryz.func43,Tryz.ntmps43
 go_wp2_with fail
 have hv:=Bx.new_at w (sv F L 0).toArray 9 hX
 have hin:In X w (w.alloc (.cells (sv F L 0).toArray 9)):=by rw[hX];exact(In.self w).alloc _
 rw[←hX]
 clear hmk hX
 generalize w.alloc (.cells (sv F L 0).toArray 9)=W1 at *
 rw[List.toList_toArray] at hv
 go_loopw [11] (fun v11 wr=>∃ k:Nat,k≤L∧v11=.int .i64 k∧In X w wr∧Bx wr X 9 (sv F L k)) (fun v11 _=>L - (RowKit.intOf v11).toNat)
 case atStart=>exact⟨0,Nat.zero_le _,rfl,hin,hv⟩
 case round=>
  clear hin hv
  obtain⟨k,hk,rfl,hin,hv⟩:=hrel
  by_cases hkL:k<L
  ·obtain⟨b,off,cap,A1,A2,A3,A4,A5,hva,hb,hf1,hf2,e0,e1,e2,e3,e4⟩:=HV.out.at (i:=k) (by rw[←HL.out];exact hkL)
   simp only[Value.slice.injEq] at hva
   obtain⟨rfl,_,hcc⟩:=hva
   subst hcc
   have htx:=(HX.out k (by rw[←HL.out];exact hkL)).1
   rw[←HW.out] at hb
   rw[←hin.cell b _ hb] at e0 e1 e2 e3 e4
   have hbw:b<wr.heap.size:=by have:=hin.siz;omega
   have h1:=htx _ ((show In w.heap.size w (wr.alloc (.cells #[.int .u64 A1,.string A2,.bool A3,.int .u64 A4,.string A5] 72)) by rw[←HW.out];exact hin.alloc _).out HI.out HI.out.siz)
   rw[hf2] at h1
   obtain⟨tx,htxe⟩:∃ tx,tx=F k:=⟨_,rfl⟩
   rw[←HF.out k,←htxe] at h1
   have hkI:(k:Int)<L:=by omega
   have hk0:(0:Int)≤k:=by omega
   have hkw:IntKind.i64.wrap ((k:Int)+1)=((k+1:Nat):Int):=IntWalk.i64_in _ (by omega)
   have HT:=Lib.hid htxe
   clear hf1 hf2 htx htxe
   go_wp2_with fail
   ((with_reducible refine(h1).mono ?_))
   rintro e w2 ⟨rfl,hb2⟩
   have hin2:=(hin.alloc _).call hb2
   have hv2:=(hv.alloc _).call hb2
   have hc2:=hv2.cell k
   rw[List.getElem?_eq_getElem (by rw[sv_length];exact hkL)] at hc2
   have hf2:=hv2.frozen k
   have hvl:=hv2.lt
   have hs:=hv2.set k (strV tx)
   rw[HT.out,sv_set] at hs
   have HS:=Lib.hid hs
   have HI2:=Lib.hid (hin2.setCell (p:=⟨X,k,none⟩) (Nat.le_refl _) (strV tx))
   obtain⟨old,hold⟩:∃ old,old=(sv F L k)[k]'(by rw[sv_length];exact hkL):=⟨_,rfl⟩
   rw[←hold] at hc2
   clear hb2 hin hv e0 e1 e2 e3 e4 hbw hs h1 hin2 hv2 hold
   go_wp2_with fail
   exact⟨⟨k+1,by omega,by go_num,HI2.out,by have:=HS.out;rw[←HT.out] at this;exact this⟩,by simp[RowKit.intOf];omega⟩
  ·have hkL':k=L:=by omega
   have hkI:¬ (k:Int)<L:=by omega
   have hxs:((List.range L).map fun j=>(⟨(F j).toArray⟩:ByteArray)).length=L:=by simp
   have hj:Lib.join (((List.range L).map fun j=>(⟨(F j).toArray⟩:ByteArray)).map (·.data.toList)) [32]=Lib.join (qs.map ratT) [32]:=by
    congr 1
    rw[List.map_map]
    apply List.ext_getElem
    ·rw[List.length_map,List.length_range,List.length_map,HL.out]
    ·intro i h1 h2
     have hi:i<qs.length:=by simpa using h2
     rw[List.getElem_map,List.getElem_map,List.getElem_range,Function.comp_apply]
     show(F i).toArray.toList=_
     rw[HF.out i,List.toList_toArray,List.getD_eq_getElem?_getD,List.getElem?_eq_getElem hi];rfl
   have hjl:(Lib.join (qs.map ratT) [32]).length≤140737488355328:=by
    refine Nat.le_trans (join_le (m:=m) _ fun x hx=>?_) (by rw[List.length_map];exact HC.out)
    obtain⟨q,hq,rfl⟩:=List.mem_map.1 hx
    obtain⟨i,hi,rfl⟩:=List.getElem_of_mem hq
    have:=(HX.out i hi).2
    rw[List.getD_eq_getElem?_getD,List.getElem?_eq_getElem hi] at this
    exact this
   have hjoin:=Tryz.strings_Join X 0 L ((List.range L).map fun j=>(⟨(F j).toArray⟩:ByteArray)) ⟨#[32]⟩ wr (fun j x hx=>by
    have hjL:j<L:=by
     have:=(List.getElem?_eq_some_iff.1 hx).1
     rw[hxs] at this;exact this
    rw[List.getElem?_map,List.getElem?_range hjL] at hx
    rw[Nat.zero_add,hv.cell j]
    unfold sv
    rw[List.getElem?_map,List.getElem?_range hjL,hkL']
    cases hx
    simp only[Option.map_some,if_pos hjL]) hv.lt (by rw[hxs];omega) (by rw[hxs];exact Nat.le_refl _) (by rw[show(⟨#[32]⟩:ByteArray).data.toList=[32] from rfl,hj];exact hjl)
   rw[hxs,show(⟨#[32]⟩:ByteArray).data.toList=[32] from rfl,hj] at hjoin
   obtain⟨lj,hlj⟩:∃ lj,lj=Lib.join (qs.map ratT) [32]:=⟨_,rfl⟩
   rw[←hlj] at hjoin hjl
   have HLJ:=Lib.hid hlj
   clear hlj
   have e1:¬ 9223372036854775807<1+lj.length:=by omega
   have e2:¬ 9223372036854775807<1+lj.length+1:=by omega
   have HJ:=Lib.hid hjl
   have HKL:=Lib.hid hkL'
   clear hxs hj hjl hv hkL'
   go_wp2_with fail
   (with_reducible refine hjoin.mono ?_)
   rintro e w2 ⟨rfl,hb2⟩
   have hin2:=hin.call hb2
   clear hjoin hb2 hin
   go_wp2_with fail
   go_ret
   have e:({ data:=#[91] } ++ { data:=lj.toArray } ++ { data:=#[93] }:ByteArray)=⟨(vecT qs).toArray⟩:=by
    unfold vecT
    rw[←HLJ.out,show(⟨#[91]⟩:ByteArray)=⟨[91].toArray⟩ from rfl,show(⟨#[93]⟩:ByteArray)=⟨[93].toArray⟩ from rfl]
    simp only[bcat]
    simp
   exact⟨str_eq e,by rw[←HW.out];exact hin2.bel⟩
end Gus
end
section
namespace Gus
open Go Go.RowKit Go.Proofs
theorem two {i:Nat} (h:i<2):i=0∨i=1:=by omega
theorem ratTx_small (w0:World) (q:Rat) (h1:q.num.natAbs<100) (h2:q.den<100):RatTx w0 q∧(ratT q).length≤10:=by
 constructor
 ·intro W hW
  exact ratText_any (C:=In w0.heap.size w0) (fun W W' h hb=>h.call hb) q (fun W _=>natText_small _ h1 W) (fun W _=>natText_small _ h2 W) (by have:=natT_small h1;omega) (by have:=natT_small h2;omega) (Wl_of (i:=7) (by omega) (by decide)) W hW
 ·have a:=natT_small h1
  have b:=natT_small h2
  have c:=intT_length q.num
  unfold ratT
  split
  ·omega
  ·rw[List.length_append,List.length_cons];omega
end Gus
end
section
namespace Gus
open Go Go.RowKit Go.Proofs
theorem BB.call {w w':World} {p b n N M:Nat} {f:Nat→Nat→Rat} (h:BB w p b n N M f) (hb:Below w.heap.size w w'):BB w' p b n N M f:=⟨h.1.call hb,h.2.call hb⟩
theorem BB.alloc {w:World} {p b n N M:Nat} {f:Nat→Nat→Rat} (h:BB w p b n N M f) (o:Obj):BB (w.alloc o) p b n N M f:=⟨h.1.alloc o,h.2.alloc o⟩
theorem BB.ext {w:World} {p b n N M:Nat} {f g:Nat→Nat→Rat} (h:BB w p b n N M f) (hg:∀ i k,i<N→k<M→g i k=f i k):BB w p b n N M g:=⟨h.1,h.2.ext hg⟩
theorem In.grown {N:Nat} {W0 w w':World} {b:Nat} (h:In N W0 w) (hg:w.grownBy w' (some b)) (hb:N≤b):In N W0 w':=
 ⟨h.bel.grown hg h.siz (fun k h=>by cases h;exact hb),Nat.le_trans h.siz hg.size⟩
end Gus
end
